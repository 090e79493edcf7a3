import Derived.Calls
import Derived.Laws.World
import Derived.Laws.Sem
import Derived.Laws.Cells
import Derived.Below
set_option linter.unusedVariables false
set_option linter.unusedSimpArgs false
namespace Go.Ab
open Go

/-- Error trees. -/
inductive Err where
  | nil
  | cls (k : Int)
  | sec (n : Int) (e : Err)
  | plc (n : Int) (e : Err)
  deriving DecidableEq, Inhabited

/-- Abstract values. -/
inductive PV : Type 1 where
  | junk
  | bool (b : Bool)
  | int (k : IntKind) (n : Int)
  | str (s : ByteArray)
  | agg (cs : List PV)
  | tup (cs : List PV)
  | sl (α : Type) (enc : α → PV) (l : List α)
  | el (x : PV) (off : Nat)
  | own (o : Nat)
  | ptr (o off : Nat)
  | oel (o : Nat) (i : Int) (off : Nat)
  | iface (t : TypeId) (x : PV)
  | err (e : Err)
  | fn (f : Fn) (first captured : List PV)
  | raw (v : Value)

instance : Inhabited PV := ⟨.junk⟩

def PV.isAgg : PV → Bool | .agg _ => true | _ => false
def isAggV : Value → Bool | .agg _ => true | _ => false

/-- The type ids of the error kinds. -/
structure Ids where
  cls : TypeId
  sec : TypeId
  plc : TypeId

def RepErr (I : Ids) (M : Nat → Prop) (w : World) : Err → Value → Prop
  | .nil, v => v = .nilIface
  | .cls k, v => v = .iface I.cls (.int .i64 k)
  | .sec n e, v => ∃ b ve t fr, v = .iface I.sec (.pointer (some ⟨b, 0, none⟩)) ∧ ¬ M b ∧ w.heap[b]? = some (.cells #[.int .i64 n, ve] t fr) ∧ RepErr I M w e ve
  | .plc n e, v => ∃ b ve t fr, v = .iface I.plc (.pointer (some ⟨b, 0, none⟩)) ∧ ¬ M b ∧ w.heap[b]? = some (.cells #[.int .i64 n, ve] t fr) ∧ RepErr I M w e ve

/-- What frozen memory (no block of it in M) says. -/
def RepF (I : Ids) (M : Nat → Prop) (w : World) : PV → List Value → Prop
  | .bool b, l => l = [.bool b]
  | .int k n, l => l = [.int k n]
  | .str s, l => l = [.string s]
  | .agg cs, l => go cs l
  | .sl _ enc xs, l => ∃ A cap, l = [.slice A xs.length cap] ∧ xs.length ≤ cap ∧ (xs = [] ∨ ∃ b off s cells t fr, A = some ⟨b, off, none⟩ ∧ 0 < s ∧ ¬ M b ∧
      w.heap[b]? = some (.cells cells t fr) ∧ ∀ i x, xs[i]? = some x → ∃ cs : List Value, cs.length = s ∧ RepF I M w (enc x) cs ∧ ∀ j v, cs[j]? = some v → cells[off + i * s + j]? = some v)
  | .el x off, l => ∃ b base cells t fr, ∃ cs : List Value, l = [.pointer (some ⟨b, base + off, none⟩)] ∧ ¬ M b ∧ w.heap[b]? = some (.cells cells t fr) ∧ RepF I M w x cs ∧
      ∀ j v, cs[j]? = some v → cells[base + j]? = some v
  | .iface t x, l => ∃ v, l = [.iface t v] ∧ isAggV v = x.isAgg ∧ RepF I M w x v.cells.toList
  | .err e, l => ∃ v, l = [v] ∧ RepErr I M w e v
  | .fn f first captured, l => ∃ fs cs, l = [.func f ⟨fs⟩ ⟨cs⟩] ∧ go first fs ∧ go captured cs
  | .raw v, l => l = [v] ∧ v.oneCell' = true
  | _, _ => False
where go : List PV → List Value → Prop
  | [], l => l = []
  | x :: xs, l => ∃ v r, l = v :: r ∧ (x.isAgg = false ∧ v.oneCell' = true) ∧ RepF I M w x [v] ∧ go xs r

/-- The cells of a value. -/
def PV.cells : PV → List PV
  | .agg cs => cs
  | x => [x]

/-- No references, nothing forgotten: what lies in memory that is held fast may be such. -/
def PV.pure : PV → Bool
  | .agg cs => go cs
  | .iface _ x => x.pure
  | .fn _ a b => go a && go b
  | .junk | .tup _ | .own _ | .ptr _ _ | .oel _ _ _ => false
  | _ => true
where go : List PV → Bool
  | [] => true
  | x :: xs => x.pure && go xs

/-- What the elements of rows of a type are told by. -/
structure Cod : Type 1 where
  α : Type
  enc : α → PV
  n : Nat
  ok : ∀ y, (enc y).pure = true
  len : ∀ y, (enc y).cells.length = n

abbrev Codes := TypeId → Cod

/-- Objects that may change: variables in memory; rows that slices of the call's own lie in. -/
inductive AObj (K : Codes) : Type 1 where
  | box (cs : List PV)
  | row (e : TypeId) (xs : List (K e).α)
  | gone

def AObj.live {K : Codes} : AObj K → Bool | .gone => false | _ => true

abbrev Heap (K : Codes) := List (AObj K)
abbrev Eta := Nat → Option Nat

def Mut {K : Codes} (L : Heap K) (η : Eta) (b : Nat) : Prop := ∃ o x, L[o]? = some x ∧ x.live = true ∧ η o = some b

section
variable {I : Ids} {M M' : Nat → Prop} {w w' : World}

theorem RepErr.mono (h : ∀ b o, ¬ M b → w.heap[b]? = some o → ¬ M' b ∧ w'.heap[b]? = some o) : ∀ (e : Err) (v : Value), RepErr I M w e v → RepErr I M' w' e v
  | .nil, _, hx => hx
  | .cls _, _, hx => hx
  | .sec n e, v, hx => by
    obtain ⟨b, ve, t, fr, hv, hM, hb, he⟩ := hx
    obtain ⟨hM', hb'⟩ := h b _ hM hb
    exact ⟨b, ve, t, fr, hv, hM', hb', RepErr.mono h e ve he⟩
  | .plc n e, v, hx => by
    obtain ⟨b, ve, t, fr, hv, hM, hb, he⟩ := hx
    obtain ⟨hM', hb'⟩ := h b _ hM hb
    exact ⟨b, ve, t, fr, hv, hM', hb', RepErr.mono h e ve he⟩

mutual
theorem RepF.mono (h : ∀ b o, ¬ M b → w.heap[b]? = some o → ¬ M' b ∧ w'.heap[b]? = some o) : ∀ (x : PV) (l : List Value), RepF I M w x l → RepF I M' w' x l
  | .bool _, _, hx => hx
  | .int _ _, _, hx => hx
  | .str _, _, hx => hx
  | .raw _, _, hx => hx
  | .agg cs, l, hx => RepF.mono_go h cs l hx
  | .sl α enc xs, l, hx => by
    obtain ⟨A, cap, rfl, hc, hx⟩ := hx
    refine ⟨A, cap, rfl, hc, hx.imp id ?_⟩
    rintro ⟨b, off, s, cells, t, fr, rfl, hs, hM, hb, hel⟩
    obtain ⟨hM', hb'⟩ := h b _ hM hb
    exact ⟨b, off, s, cells, t, fr, rfl, hs, hM', hb', fun i x hi => let ⟨cs, hl, hr, hc⟩ := hel i x hi; ⟨cs, hl, RepF.mono h (enc x) cs hr, hc⟩⟩
  | .el x off, l, hx => by
    obtain ⟨b, base, cells, t, fr, cs, rfl, hM, hb, hr, hc⟩ := hx
    obtain ⟨hM', hb'⟩ := h b _ hM hb
    exact ⟨b, base, cells, t, fr, cs, rfl, hM', hb', RepF.mono h x cs hr, hc⟩
  | .iface t x, l, hx => by
    obtain ⟨v, rfl, ha, hr⟩ := hx
    exact ⟨v, rfl, ha, RepF.mono h x _ hr⟩
  | .err e, l, hx => by
    obtain ⟨v, rfl, hr⟩ := hx
    exact ⟨v, rfl, RepErr.mono h e v hr⟩
  | .fn f first cap, l, hx => by
    obtain ⟨fs, cs, rfl, h1, h2⟩ := hx
    exact ⟨fs, cs, rfl, RepF.mono_go h first fs h1, RepF.mono_go h cap cs h2⟩
  | .junk, _, hx => hx.elim
  | .tup _, _, hx => hx.elim
  | .own _, _, hx => hx.elim
  | .ptr _ _, _, hx => hx.elim
  | .oel _ _ _, _, hx => hx.elim
theorem RepF.mono_go (h : ∀ b o, ¬ M b → w.heap[b]? = some o → ¬ M' b ∧ w'.heap[b]? = some o) : ∀ (xs : List PV) (l : List Value), RepF.go I M w xs l → RepF.go I M' w' xs l
  | [], _, hx => hx
  | x :: xs, l, hx => by
    obtain ⟨v, r, rfl, h0, h1, h2⟩ := hx
    exact ⟨v, r, rfl, h0, RepF.mono h x _ h1, RepF.mono_go h xs r h2⟩
end
end

/-- References to objects, renamed; those without a new name are forgotten. -/
def PV.ren (ρ : Nat → Option Nat) : PV → PV
  | .agg cs => .agg (go cs)
  | .tup cs => .tup (go cs)
  | .iface t x => .iface t (x.ren ρ)
  | .fn f first cap => .fn f (go first) (go cap)
  | .own o => match ρ o with | some o' => .own o' | none => .junk
  | .ptr o off => match ρ o with | some o' => .ptr o' off | none => .junk
  | .oel o i off => match ρ o with | some o' => .oel o' i off | none => .junk
  | x => x
where go : List PV → List PV
  | [] => []
  | x :: xs => x.ren ρ :: go xs

structure Sig where
  I : Ids
  sz : TypeId → Nat
  X : Nat → Prop

def Mx (G : Sig) {K : Codes} (L : Heap K) (η : Eta) (b : Nat) : Prop := Mut L η b ∨ G.X b

def OwnVal (sz : TypeId → Nat) {K : Codes} (L : Heap K) (η : Eta) (w : World) (o : Nat) (l : List Value) : Prop :=
  ∀ e xs, L[o]? = some (.row e xs) → ∃ A cap, l = [.slice A xs.length cap] ∧ xs.length ≤ cap ∧
    (cap = 0 ∨ ∃ b cells t fr, η o = some b ∧ A = some ⟨b, 0, none⟩ ∧ w.heap[b]? = some (.cells cells t fr) ∧ cap * sz e ≤ cells.size)

def OneV (l : List Value) : Prop := ∃ v, l = [v] ∧ v.oneCell' = true

def Rep (G : Sig) {K : Codes} (L : Heap K) (η : Eta) (w : World) : PV → List Value → Prop
  | .junk, _ => True
  | .agg cs, l => go cs l
  | .tup cs, l => ∃ vs, l = [.tuple ⟨vs⟩] ∧ goT cs vs
  | .iface t x, l => ∃ v, l = [.iface t v] ∧ isAggV v = x.isAgg ∧ Rep G L η w x v.cells.toList
  | .fn f first cap, l => ∃ fs cs, l = [.func f ⟨fs⟩ ⟨cs⟩] ∧ go first fs ∧ go cap cs
  | .own o, l => o < L.length ∧ OneV l ∧ OwnVal G.sz L η w o l
  | .ptr o off, l => o < L.length ∧ OneV l ∧ ∀ cs, L[o]? = some (.box cs) → ∃ b, η o = some b ∧ l = [.pointer (some ⟨b, off, none⟩)]
  | .oel o i off, l => o < L.length ∧ OneV l ∧ ∀ e xs, L[o]? = some (.row e xs) → 0 ≤ i ∧ i < xs.length ∧ ∃ b, η o = some b ∧ l = [.pointer (some ⟨b, i.toNat * G.sz e + off, none⟩)]
  | .bool b, l => l = [.bool b]
  | .int k n, l => l = [.int k n]
  | .str s, l => l = [.string s]
  | .raw v, l => l = [v] ∧ v.oneCell' = true
  | .sl α enc xs, l => RepF G.I (Mx G L η) w (.sl α enc xs) l
  | .el x off, l => RepF G.I (Mx G L η) w (.el x off) l
  | .err e, l => RepF G.I (Mx G L η) w (.err e) l
where
  go : List PV → List Value → Prop
  | [], l => l = []
  | x :: xs, l => ∃ v r, l = v :: r ∧ (x.isAgg = false ∧ v.oneCell' = true) ∧ Rep G L η w x [v] ∧ go xs r
  goT : List PV → List Value → Prop
  | [], l => l = []
  | x :: xs, l => ∃ v r, l = v :: r ∧ (isAggV v = x.isAgg ∨ x = .junk) ∧ Rep G L η w x v.cells.toList ∧ goT xs r

/-- A value in a slot. -/
def RepV (G : Sig) {K : Codes} (L : Heap K) (η : Eta) (w : World) (x : PV) (v : Value) : Prop :=
  x = .junk ∨ (isAggV v = x.isAgg ∧ Rep G L η w x v.cells.toList)

def RowRel (G : Sig) (M : Nat → Prop) (w : World) (s : Nat) (c : Cod) (xs : List c.α) (cells : Array Value) : Prop :=
  0 < s ∧ xs.length * s ≤ cells.size ∧ ∀ i x, xs[i]? = some x → ∃ cs : List Value, cs.length = s ∧ RepF G.I M w (c.enc x) cs ∧ ∀ j v, cs[j]? = some v → cells[i * s + j]? = some v

def ObjRel (G : Sig) {K : Codes} (L : Heap K) (η : Eta) (w : World) (o : Nat) : AObj K → Prop
  | .box cs => ∃ b t cells, η o = some b ∧ w.heap[b]? = some (.cells ⟨cells⟩ t (0, 0)) ∧ Rep.go G L η w cs cells
  | .row e xs => (xs = [] ∧ η o = none) ∨ ∃ b cells, η o = some b ∧ w.heap[b]? = some (.cells cells e (0, 0)) ∧ RowRel G (Mx G L η) w (G.sz e) (K e) xs cells
  | .gone => True

structure HeapRel (G : Sig) {K : Codes} (L : Heap K) (η : Eta) (w : World) : Prop where
  obj : ∀ o x, L[o]? = some x → ObjRel G L η w o x
  inj : ∀ o o' x x' b, L[o]? = some x → L[o']? = some x' → x.live = true → x'.live = true → η o = some b → η o' = some b → o = o'
  ext : ∀ b, G.X b → b < w.heap.size ∧ ¬ Mut L η b
  none : ∀ o, L.length ≤ o → η o = Option.none
end Go.Ab
namespace Go.Ab
theorem PV.isAgg_ren (ρ : Nat → Option Nat) : ∀ x : PV, (x.ren ρ).isAgg = x.isAgg
  | .junk | .agg _ | .tup _ | .iface _ _ | .fn _ _ _ | .bool _ | .int _ _ | .str _ | .sl _ _ _ | .el _ _ | .err _ | .raw _ => rfl
  | .own o => by simp only [PV.ren]; split <;> rfl
  | .ptr o off => by simp only [PV.ren]; split <;> rfl
  | .oel o i off => by simp only [PV.ren]; split <;> rfl

section
variable {G : Sig} {K : Codes} {L L' : Heap K} {η η' : Eta} {w w' : World}

structure Moves2 (G G' : Sig) {K : Codes} (L : Heap K) (η : Eta) (w : World) (L' : Heap K) (η' : Eta) (w' : World) (ρ : Nat → Option Nat) : Prop where
  froz : ∀ b o, ¬ Mx G L η b → w.heap[b]? = some o → ¬ Mx G' L' η' b ∧ w'.heap[b]? = some o
  len : ∀ o o', o < L.length → ρ o = some o' → o' < L'.length
  box : ∀ o o' cs', o < L.length → ρ o = some o' → L'[o']? = some (.box cs') → ∃ cs, L[o]? = some (.box cs) ∧ η' o' = η o
  row : ∀ o o' e (xs' : List (K e).α), o < L.length → ρ o = some o' → L'[o']? = some (.row e xs') → ∃ xs : List (K e).α, L[o]? = some (.row e xs) ∧ xs.length = xs'.length ∧ η' o' = η o ∧
    ∀ b cells t fr, η o = some b → w.heap[b]? = some (.cells cells t fr) → ∃ cells' t' fr', w'.heap[b]? = some (.cells cells' t' fr') ∧ cells'.size = cells.size
  I : G'.I = G.I := by rfl
  sz : G'.sz = G.sz := by rfl

abbrev Moves (G : Sig) {K : Codes} (L : Heap K) (η : Eta) (w : World) (L' : Heap K) (η' : Eta) (w' : World) (ρ : Nat → Option Nat) : Prop := Moves2 G G L η w L' η' w' ρ

section
variable {G' : Sig}
mutual
theorem Rep.mono {ρ : Nat → Option Nat} (h : Moves2 G G' L η w L' η' w' ρ) : ∀ (x : PV) (l : List Value), Rep G L η w x l → Rep G' L' η' w' (x.ren ρ) l
  | .junk, _, _ => trivial
  | .bool _, _, hx => hx
  | .int _ _, _, hx => hx
  | .str _, _, hx => hx
  | .raw _, _, hx => hx
  | .sl _ _ _, l, hx => by show RepF G'.I _ _ _ _; rw [h.I]; exact RepF.mono h.froz _ _ hx
  | .el _ _, l, hx => by show RepF G'.I _ _ _ _; rw [h.I]; exact RepF.mono h.froz _ _ hx
  | .err _, l, hx => by show RepF G'.I _ _ _ _; rw [h.I]; exact RepF.mono h.froz _ _ hx
  | .agg cs, l, hx => Rep.mono_go h cs l hx
  | .tup cs, l, hx => by
    obtain ⟨vs, rfl, hx⟩ := hx
    exact ⟨vs, rfl, Rep.mono_goT h cs vs hx⟩
  | .iface t x, l, hx => by
    obtain ⟨v, rfl, ha, hx⟩ := hx
    exact ⟨v, rfl, by rw [PV.isAgg_ren]; exact ha, Rep.mono h x _ hx⟩
  | .fn f first cap, l, hx => by
    obtain ⟨fs, cs, rfl, h1, h2⟩ := hx
    exact ⟨fs, cs, rfl, Rep.mono_go h first fs h1, Rep.mono_go h cap cs h2⟩
  | .own o, l, hx => by
    obtain ⟨ho, hone, hx⟩ := hx
    simp only [PV.ren]
    split
    · rename_i o' hb
      refine ⟨h.len o o' ho hb, hone, ?_⟩
      intro e xs' hL
      obtain ⟨xs, hL0, hlen, hη, hc⟩ := h.row o o' e xs' ho hb hL
      obtain ⟨A, cap, rfl, hcap, hx⟩ := hx e xs hL0
      refine ⟨A, cap, by rw [hlen], by omega, hx.imp id ?_⟩
      rintro ⟨b, cells, t, fr, h1, h2, h3, h4⟩
      obtain ⟨cells', t', fr', h5, h6⟩ := hc b cells t fr h1 h3
      exact ⟨b, cells', t', fr', by rw [hη]; exact h1, h2, h5, by rw [h6, h.sz]; exact h4⟩
    · exact trivial
  | .ptr o off, l, hx => by
    obtain ⟨ho, hone, hx⟩ := hx
    simp only [PV.ren]
    split
    · rename_i o' hb
      refine ⟨h.len o o' ho hb, hone, ?_⟩
      intro cs' hL
      obtain ⟨cs, hL0, hη⟩ := h.box o o' cs' ho hb hL
      obtain ⟨b, h1, h2⟩ := hx cs hL0
      exact ⟨b, by rw [hη]; exact h1, h2⟩
    · exact trivial
  | .oel o i off, l, hx => by
    obtain ⟨ho, hone, hx⟩ := hx
    simp only [PV.ren]
    split
    · rename_i o' hb
      refine ⟨h.len o o' ho hb, hone, ?_⟩
      intro e xs' hL
      obtain ⟨xs, hL0, hlen, hη, _⟩ := h.row o o' e xs' ho hb hL
      obtain ⟨h0, h1, b, h2, h3⟩ := hx e xs hL0
      exact ⟨h0, by omega, b, by rw [hη]; exact h2, by rw [h.sz]; exact h3⟩
    · exact trivial
theorem Rep.mono_go {ρ : Nat → Option Nat} (h : Moves2 G G' L η w L' η' w' ρ) : ∀ (xs : List PV) (l : List Value), Rep.go G L η w xs l → Rep.go G' L' η' w' (PV.ren.go ρ xs) l
  | [], _, hx => hx
  | x :: xs, l, hx => by
    obtain ⟨v, r, rfl, h0, h1, h2⟩ := hx
    exact ⟨v, r, rfl, by rw [PV.isAgg_ren]; exact h0, Rep.mono h x _ h1, Rep.mono_go h xs r h2⟩
theorem Rep.mono_goT {ρ : Nat → Option Nat} (h : Moves2 G G' L η w L' η' w' ρ) : ∀ (xs : List PV) (l : List Value), Rep.goT G L η w xs l → Rep.goT G' L' η' w' (PV.ren.go ρ xs) l
  | [], _, hx => hx
  | x :: xs, l, hx => by
    obtain ⟨v, r, rfl, h0, h1, h2⟩ := hx
    refine ⟨v, r, rfl, ?_, Rep.mono h x _ h1, Rep.mono_goT h xs r h2⟩
    rcases h0 with h0 | h0
    · exact .inl (by rw [PV.isAgg_ren]; exact h0)
    · subst h0; exact .inr rfl
end

theorem RepV.mono {ρ : Nat → Option Nat} (h : Moves2 G G' L η w L' η' w' ρ) {x : PV} {v : Value} (hx : RepV G L η w x v) : RepV G' L' η' w' (x.ren ρ) v := by
  rcases hx with rfl | ⟨h0, hx⟩
  · exact .inl rfl
  · exact .inr ⟨by rw [PV.isAgg_ren]; exact h0, Rep.mono h x _ hx⟩

end
mutual
theorem PV.ren_id : ∀ x : PV, x.ren some = x
  | .junk | .bool _ | .int _ _ | .str _ | .sl _ _ _ | .el _ _ | .err _ | .raw _ | .own _ | .ptr _ _ | .oel _ _ _ => rfl
  | .agg cs => by rw [PV.ren, PV.ren_id_go cs]
  | .tup cs => by rw [PV.ren, PV.ren_id_go cs]
  | .iface t x => by rw [PV.ren, PV.ren_id x]
  | .fn f a b => by rw [PV.ren, PV.ren_id_go a, PV.ren_id_go b]
theorem PV.ren_id_go : ∀ xs : List PV, PV.ren.go some xs = xs
  | [] => rfl
  | x :: xs => by rw [PV.ren.go, PV.ren_id x, PV.ren_id_go xs]
end
theorem PV.ren_go_length (ρ : Nat → Option Nat) : ∀ xs : List PV, (PV.ren.go ρ xs).length = xs.length
  | [] => rfl
  | _ :: xs => congrArg (· + 1) (PV.ren_go_length ρ xs)
theorem PV.ren_go_get (ρ : Nat → Option Nat) : ∀ (xs : List PV) (i : Nat), (PV.ren.go ρ xs)[i]? = (xs[i]?).map (·.ren ρ)
  | [], _ => rfl
  | _ :: _, 0 => rfl
  | _ :: xs, i + 1 => PV.ren_go_get ρ xs i
end
end Go.Ab
