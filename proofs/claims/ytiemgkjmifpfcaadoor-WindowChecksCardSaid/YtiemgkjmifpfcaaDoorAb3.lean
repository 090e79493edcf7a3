import Derived.Test.YtiemgkjmifpfcaaDoorAb2
set_option linter.unusedVariables false
set_option linter.unusedSimpArgs false
namespace Go.Ab
open Go
variable {K : Codes}

def sig (C : Cfg K) (X : Nat → Prop) : Sig := ⟨C.I, C.P.cellsOf, X⟩

theorem ObjRel.mono {G G' : Sig} {L L' : Heap K} {η η' : Eta} {w w' : World} {ρ : Nat → Option Nat} (h : Moves2 G G' L η w L' η' w' ρ) {o o' : Nat} {x : AObj K} (hx : ObjRel G L η w o x)
    (hη : η' o' = η o) (hb : ∀ b, η o = some b → w'.heap[b]? = w.heap[b]?) : ObjRel G' L' η' w' o' (renO ρ x) := by
  cases x with
  | gone => exact trivial
  | box cs =>
    obtain ⟨b, t, cells, h1, h2, h3⟩ := hx
    exact ⟨b, t, cells, by rw [hη]; exact h1, by rw [hb b h1]; exact h2, Rep.mono_go h cs cells h3⟩
  | row e xs =>
    rcases hx with ⟨h1, h2⟩ | ⟨b, cells, h1, h2, h3, h4, h5⟩
    · exact .inl ⟨h1, by rw [hη]; exact h2⟩
    · refine .inr ⟨b, cells, by rw [hη]; exact h1, by rw [hb b h1]; exact h2, by rw [h.sz]; exact h3, by rw [h.sz]; exact h4, ?_⟩
      intro i x hi
      obtain ⟨cs, c1, c2, c3⟩ := h5 i x hi
      exact ⟨cs, by rw [h.sz]; exact c1, by rw [h.I]; exact RepF.mono h.froz _ _ c2, by rw [h.sz]; exact c3⟩

/-- What a step of the call's leaves: the world beyond the objects, and their kinds. -/
structure Fwd (L : Heap K) (η : Eta) (w : World) (L' : Heap K) (η' : Eta) (w' : World) (bad : Nat → Bool) : Prop where
  os : w'.os = w.os
  tape : w'.tape = w.tape
  output : w'.output = w.output
  size : w.heap.size ≤ w'.heap.size
  keep : ∀ b, b < w.heap.size → ¬ Mut L η b → w'.heap[b]? = w.heap[b]?
  muts : ∀ b, Mut L' η' b → Mut L η b ∨ w.heap.size ≤ b
  len : L.length ≤ L'.length
  box : ∀ o cs', o < L.length → L'[o]? = some (.box cs') → ∃ cs, L[o]? = some (.box cs) ∧ η' o = η o
  kind : ∀ o e xs', o < L.length → L'[o]? = some (.row e xs') → ∃ xs, L[o]? = some (.row e xs)
  row : ∀ o e (xs' : List (K e).α), o < L.length → bad o = false → L'[o]? = some (.row e xs') → ∃ xs : List (K e).α, L[o]? = some (.row e xs) ∧ xs.length = xs'.length ∧ η' o = η o ∧
    ∀ b cells t fr, η o = some b → w.heap[b]? = some (.cells cells t fr) → ∃ cells' t' fr', w'.heap[b]? = some (.cells cells' t' fr') ∧ cells'.size = cells.size
  trk : ∀ o b, o < L.length → η' o = some b → η o = some b ∨ w.heap.size ≤ b

def butB (bad : Nat → Bool) (p : Nat) : Option Nat := match bad p with | true => none | false => some p

theorem Fwd.moves {C : Sig} {L L' : Heap K} {η η' : Eta} {w w' : World} {bad : Nat → Bool} (h : Fwd L η w L' η' w' bad) (hx : ∀ b, C.X b → b < w.heap.size) :
    Moves C L η w L' η' w' (butB bad) where
  froz := by
    intro b o hM hb
    have hlt : b < w.heap.size := (Array.getElem?_eq_some_iff.1 hb).1
    have hm : ¬ Mut L η b := fun q => hM (.inl q)
    refine ⟨?_, by rw [h.keep b hlt hm]; exact hb⟩
    rintro (q | q)
    · rcases h.muts b q with q | q
      · exact hm q
      · omega
    · exact hM (.inr q)
  len := by
    intro o o' ho hρ
    simp only [butB] at hρ
    split at hρ
    · cases hρ
    · cases hρ; exact Nat.lt_of_lt_of_le ho h.len
  box := by
    intro o o' cs' ho hρ hL
    simp only [butB] at hρ
    split at hρ
    · cases hρ
    · cases hρ; exact h.box o cs' ho hL
  row := by
    intro o o' e xs' ho hρ hL
    simp only [butB] at hρ
    split at hρ
    · cases hρ
    · rename_i hb; cases hρ; exact h.row o e xs' ho hb hL

theorem Fwd.refl (L : Heap K) (η : Eta) (w : World) (bad : Nat → Bool) : Fwd L η w L η w bad :=
  ⟨rfl, rfl, rfl, Nat.le_refl _, fun _ _ _ => rfl, fun _ h => .inl h, Nat.le_refl _, fun _ cs _ h => ⟨cs, h, rfl⟩, fun _ _ xs _ h => ⟨xs, h⟩,
    fun _ _ xs _ _ h => ⟨xs, h, rfl, rfl, fun _ cells t fr _ hb => ⟨cells, t, fr, hb, rfl⟩⟩, fun _ _ _ h => .inl h⟩

theorem Fwd.trans {L L1 L2 : Heap K} {η η1 η2 : Eta} {w w1 w2 : World} {b1 b2 bad : Nat → Bool} (h : Fwd L η w L1 η1 w1 b1) (k : Fwd L1 η1 w1 L2 η2 w2 b2)
    (hb : ∀ o, o < L.length → bad o = false → b1 o = false ∧ b2 o = false) : Fwd L η w L2 η2 w2 bad where
  os := k.os.trans h.os
  tape := k.tape.trans h.tape
  output := k.output.trans h.output
  size := Nat.le_trans h.size k.size
  keep := by
    intro b hlt hm
    have h1 : ¬ Mut L1 η1 b := fun q => by
      rcases h.muts b q with q | q
      · exact hm q
      · omega
    rw [k.keep b (Nat.lt_of_lt_of_le hlt h.size) h1, h.keep b hlt hm]
  muts := by
    intro b q
    rcases k.muts b q with q | q
    · exact h.muts b q
    · exact .inr (Nat.le_trans h.size q)
  len := Nat.le_trans h.len k.len
  box := by
    intro o cs' ho hL
    obtain ⟨cs1, h1, h2⟩ := k.box o cs' (Nat.lt_of_lt_of_le ho h.len) hL
    obtain ⟨cs, h3, h4⟩ := h.box o cs1 ho h1
    exact ⟨cs, h3, h2.trans h4⟩
  kind := by
    intro o e xs' ho hL
    obtain ⟨xs1, h1⟩ := k.kind o e xs' (Nat.lt_of_lt_of_le ho h.len) hL
    exact h.kind o e xs1 ho h1
  row := by
    intro o e xs' ho hbad hL
    obtain ⟨q1, q2⟩ := hb o ho hbad
    obtain ⟨xs1, h1, h2, h3, h4⟩ := k.row o e xs' (Nat.lt_of_lt_of_le ho h.len) q2 hL
    obtain ⟨xs, g1, g2, g3, g4⟩ := h.row o e xs1 ho q1 h1
    refine ⟨xs, g1, g2.trans h2, h3.trans g3, ?_⟩
    intro b cells t fr hη hbl
    obtain ⟨c1, t1, f1, e1, e2⟩ := g4 b cells t fr hη hbl
    obtain ⟨c2, t2, f2, e3, e4⟩ := h4 b c1 t1 f1 (g3.trans hη) e1
    exact ⟨c2, t2, f2, e3, e4.trans e2⟩
  trk := by
    intro o b ho hb
    rcases k.trk o b (Nat.lt_of_lt_of_le ho h.len) hb with q | q
    · exact h.trk o b ho q
    · exact .inr (Nat.le_trans h.size q)

def noBad : Nat → Bool := fun _ => false
theorem butB_noBad : butB noBad = some := by funext p; rfl

/-- The state of a call that runs. -/
structure RelT (C : Cfg K) (G : Sig) (N : Nat) (env : List PV) (L : Heap K) (η : Eta) (w : World) (a : Act) : Prop where
  heap : HeapRel G L η w
  elen : env.length = N
  size : a.tmps.size = N
  defers : a.defers = []
  tmp : ∀ t x, env[t]? = some x → RepV G L η w x (a.tmps.getD t undef)
  glob : ∀ g x, C.glob g = some x → RepF G.I (Mx G L η) w (.el x 0) [.pointer (some ⟨g, 0, none⟩)]

/-- The rest of the state behind a step. -/
theorem RelT.step {C : Cfg K} {G : Sig} {N : Nat} {env : List PV} {L L' : Heap K} {η η' : Eta} {w w' : World} {a : Act} {bad : Nat → Bool} (h : RelT C G N env L η w a)
    (hf : Fwd L η w L' η' w' bad) (hh : HeapRel G L' η' w') : RelT C G N (renE (butB bad) env) L' η' w' a where
  heap := hh
  elen := by rw [renE, PV.ren_go_length]; exact h.elen
  size := h.size
  defers := h.defers
  tmp := by
    intro t x hx
    rw [renE, PV.ren_go_get] at hx
    obtain ⟨y, hy, rfl⟩ := Option.map_eq_some_iff.1 hx
    exact RepV.mono (hf.moves fun b hb => (h.heap.ext b hb).1) (h.tmp t y hy)
  glob := fun g x hg => RepF.mono (hf.moves fun b hb => (h.heap.ext b hb).1).froz _ _ (h.glob g x hg)

theorem RelT.step0 {C : Cfg K} {G : Sig} {N : Nat} {env : List PV} {L L' : Heap K} {η η' : Eta} {w w' : World} {a : Act} (h : RelT C G N env L η w a)
    (hf : Fwd L η w L' η' w' noBad) (hh : HeapRel G L' η' w') : RelT C G N env L' η' w' a := by
  have := h.step hf hh
  rw [butB_noBad, renE, PV.ren_id_go] at this
  exact this

/-- A slot is written. -/
theorem RelT.put {C : Cfg K} {G : Sig} {N : Nat} {env : List PV} {L : Heap K} {η : Eta} {w : World} {a : Act} (h : RelT C G N env L η w a) {d : Option Tmp} {x : PV} {v : Value} (hx : RepV G L η w x v) :
    RelT C G N (putE env d x) L η w (a.put d v) := by
  cases d with
  | none => exact h
  | some d =>
    refine ⟨h.heap, by simp [putE, h.elen], by simp [Act.put, h.size], h.defers, ?_, h.glob⟩
    intro t y hy
    simp only [putE] at hy
    rw [List.getElem?_set] at hy
    split at hy
    · rename_i hdt
      subst hdt
      split at hy
      · rename_i hlt
        cases hy
        simp only [Act.put]
        have : d < a.tmps.size := by rw [h.size, ← h.elen]; exact hlt
        rw [Array.getD_eq_getD_getElem?, Array.getElem?_setIfInBounds_self_of_lt this]
        exact hx
      · cases hy
    · rename_i hne
      have := h.tmp t y hy
      simp only [Act.put]
      rw [Array.getD_eq_getD_getElem?, Array.getElem?_setIfInBounds_ne hne, ← Array.getD_eq_getD_getElem?]
      exact this
end Go.Ab
