import Derived.Test.YtiemgkjmifpfcaaDoorAb20
set_option linter.unusedVariables false
set_option linter.unusedSimpArgs false
namespace Go.Ab
open Go
variable {K : Codes} {C : Cfg K}

/-- Of a zero's cell. -/
def zc : PV → Value → Bool
  | .int k n, .int k' n' => decide (k = k') && decide (n = n')
  | .bool b, .bool b' => b == b'
  | .str s, .string s' => s.data.toList.isEmpty && s'.data.toList.isEmpty
  | .raw (.slice none 0 0), .slice none 0 0 => true
  | .raw (.pointer none), .pointer none => true
  | .raw .nilFunc, .nilFunc => true
  | .err .nil, .nilIface => true
  | _, _ => false

def zcs : List PV → List Value → Bool
  | [], [] => true
  | x :: xs, v :: vs => zc x v && zcs xs vs
  | _, _ => false

theorem zc_ok {G : Sig} {L : Heap K} {η : Eta} {w : World} {x : PV} {v : Value} (h : zc x v = true) : x.isAgg = false ∧ v.oneCell' = true ∧ Rep G L η w x [v] := by
  unfold zc at h
  split at h
  · simp only [Bool.and_eq_true, decide_eq_true_eq] at h
    obtain ⟨rfl, rfl⟩ := h
    exact ⟨rfl, rfl, rfl⟩
  · simp at h; subst h; exact ⟨rfl, rfl, rfl⟩
  · rename_i s s'
    simp only [Bool.and_eq_true, List.isEmpty_iff] at h
    have : s = s' := by
      cases s with
      | mk d => cases s' with
        | mk d' =>
          have h1 : d = #[] := by apply Array.ext'; exact h.1
          have h2 : d' = #[] := by apply Array.ext'; exact h.2
          rw [h1, h2]
    subst this
    exact ⟨rfl, rfl, rfl⟩
  · exact ⟨rfl, rfl, rfl, rfl⟩
  · exact ⟨rfl, rfl, rfl, rfl⟩
  · exact ⟨rfl, rfl, rfl, rfl⟩
  · exact ⟨rfl, rfl, _, rfl, rfl⟩
  · cases h

theorem zcs_ok {G : Sig} {L : Heap K} {η : Eta} {w : World} : ∀ {xs : List PV} {vs : List Value}, zcs xs vs = true → Rep.go G L η w xs vs
  | [], [], _ => rfl
  | x :: xs, v :: vs, h => by
    simp only [zcs, Bool.and_eq_true] at h
    obtain ⟨h1, h2, h3⟩ := zc_ok (G := G) (L := L) (η := η) (w := w) h.1
    exact ⟨v, vs, rfl, ⟨h1, h2⟩, h3, zcs_ok h.2⟩
  | [], _ :: _, h => by simp [zcs] at h
  | _ :: _, [], h => by simp [zcs] at h

/-- The fields of a struct, as the table tells them. -/
def fsChk (P : Program) : List Field → List (Nat × TypeId) → Bool
  | [], [] => true
  | f :: fs, (o, ft) :: ps => Nat.beq f.offset o && Nat.beq f.type ft && (match P.info? ft with
      | some i => !Nat.beq i.size 0
      | none => false) && fsChk P fs ps
  | _, _ => false

def tdChk (P : Program) (t : TypeId) : TD → Bool
  | .bool => match P.underlying t with | some .bool => true | _ => false
  | .int k => match P.underlying t with | some (.int k') => decide (k' = k) | _ => false
  | .str => match P.underlying t with | some .string => true | _ => false
  | .slice e => match P.underlying t with | some (.slice e') => Nat.beq e' e | _ => false
  | .struct fs => match P.underlying t with | some (.struct fields) => fsChk P fields.toList fs | _ => false
  | .array n e => match P.underlying t with | some (.array n' e') => Nat.beq n' n && Nat.beq e' e | _ => false
  | .ptr e => match P.underlying t with | some (.pointer e') => Nat.beq e' e | _ => false
  | .iface => match P.underlying t with | some (.interface _) => true | _ => false
  | .func => match P.underlying t with | some (.func _ _ _) => true | _ => false
  | .other => false

theorem fsChk_ok {P : Program} : ∀ {fields : List Field} {fs : List (Nat × TypeId)}, fsChk P fields fs = true →
    (fields.mapM (fun f => (P.info? f.type).map fun i => (f.offset, i.size)) = some (fs.map fun p => (p.1, P.cellsOf p.2))) ∧ ∀ (i o ft : Nat), fs[i]? = some (o, ft) → ∃ f, fields[i]? = some f ∧ f.offset = o ∧ f.type = ft ∧ P.cellsOf ft ≠ 0
  | [], [], _ => ⟨rfl, fun i o ft h => by simp at h⟩
  | f :: fields, (o, ft) :: fs, h => by
    simp only [fsChk, Bool.and_eq_true] at h
    obtain ⟨⟨⟨h1, h2⟩, h3⟩, h4⟩ := h
    have h1 := Nat.eq_of_beq_eq_true h1
    have h2 := Nat.eq_of_beq_eq_true h2
    obtain ⟨q1, q2⟩ := fsChk_ok h4
    split at h3
    · rename_i i hi
      have hc : P.cellsOf ft = i.size := by simp [Program.cellsOf, hi]
      have hne : i.size ≠ 0 := by
        intro e; rw [e] at h3; exact absurd h3 (by decide)
      refine ⟨?_, ?_⟩
      · rw [List.mapM_cons, h2, hi, q1]
        simp [hc, h1]
      · intro j o' ft' hj
        cases j with
        | zero =>
          simp at hj
          obtain ⟨rfl, rfl⟩ := hj
          exact ⟨f, rfl, h1, h2, by rw [hc]; exact hne⟩
        | succ j => simpa using q2 j o' ft' (by simpa using hj)
    · cases h3
  | [], _ :: _, h => by simp [fsChk] at h
  | _ :: _, [], h => by simp [fsChk] at h

theorem tdChk_ok {t : TypeId} {d : TD} (h : tdChk C.P t d = true) : TDok C t d := by
  cases d <;> simp only [tdChk] at h <;> simp only [TDok]
  case other => cases h
  case struct fs =>
    split at h
    · rename_i fields hu
      obtain ⟨h1, h2⟩ := fsChk_ok h
      exact ⟨fields, hu, h1, fun i o ft hi => by
        obtain ⟨f, g1, g2⟩ := h2 i o ft hi
        exact ⟨f, by rw [← Array.getElem?_toList]; exact g1, g2⟩⟩
    · cases h
  case iface => split at h; rename_i ms hu; exact ⟨ms, hu⟩; cases h
  case func => split at h; rename_i a b c hu; exact ⟨a, b, c, hu⟩; cases h
  case bool => split at h; rename_i hu; exact hu; cases h
  case str => split at h; rename_i hu; exact hu; cases h
  case int k => split at h; rename_i k' hu; rw [decide_eq_true_eq] at h; subst h; exact hu; cases h
  case slice e => split at h; rename_i e' hu; have h := Nat.eq_of_beq_eq_true h; subst h; exact hu; cases h
  case ptr e => split at h; rename_i e' hu; have h := Nat.eq_of_beq_eq_true h; subst h; exact hu; cases h
  case array n e =>
    split at h
    · rename_i n' e' hu
      rw [Bool.and_eq_true] at h
      have h1 := Nat.eq_of_beq_eq_true h.1
      have h2 := Nat.eq_of_beq_eq_true h.2
      subst h1 h2; exact hu
    · cases h

def tyChk (P : Program) (t : TypeId) (i : TInfo) : Bool :=
  (match P.info? t with
  | some inf => Nat.beq inf.size i.size && Nat.beq inf.bytes i.bytes && (match inf.zero with
    | some z => (isAggV z == i.agg) && zcs i.zero z.cells.toList
    | none => false)
  | none => false) && Nat.beq i.zero.length i.size && tdChk P t i.td && (i.agg == i.td.isAgg)

theorem tyChk_ok {t : TypeId} {i : TInfo} (h : tyChk C.P t i = true) : TyOk C t i := by
  simp only [tyChk, Bool.and_eq_true] at h
  obtain ⟨⟨⟨h1, h2⟩, h3⟩, h4⟩ := h
  refine ⟨?_, Nat.eq_of_beq_eq_true h2, tdChk_ok h3, by simpa using h4⟩
  split at h1
  · rename_i inf hinf
    rw [Bool.and_eq_true, Bool.and_eq_true] at h1
    obtain ⟨⟨g1, g2⟩, g3⟩ := h1
    split at g3
    · rename_i z hz
      rw [Bool.and_eq_true] at g3
      exact ⟨inf, hinf, Nat.eq_of_beq_eq_true g1, Nat.eq_of_beq_eq_true g2, z, hz, by simpa using g3.1, fun G L η w => zcs_ok g3.2⟩
    · cases g3
  · cases h1

def tysChk (P : Program) : Nat → List (Option TInfo) → Bool
  | _, [] => true
  | t, x :: r => (match x with
    | some i => tyChk P t i
    | none => true) && tysChk P (t + 1) r

theorem tysChk_ok : ∀ (l : List (Option TInfo)) (s : Nat), tysChk C.P s l = true → ∀ (t : Nat) (i : TInfo), (l[t]?).bind id = some i → TyOk C (s + t) i
  | [], s, _, t, i, h => by simp at h
  | x :: r, s, hc, t, i, h => by
    simp only [tysChk, Bool.and_eq_true] at hc
    cases t with
    | zero =>
      simp at h
      subst h
      exact tyChk_ok hc.1
    | succ t =>
      have := tysChk_ok r (s + 1) hc.2 t i (by simpa using h)
      rw [show s + (t + 1) = s + 1 + t by omega]
      exact this
end Go.Ab
