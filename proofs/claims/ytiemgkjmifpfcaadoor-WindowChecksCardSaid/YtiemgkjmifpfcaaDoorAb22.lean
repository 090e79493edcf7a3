import Derived.Test.YtiemgkjmifpfcaaDoorAb21
set_option linter.unusedVariables false
set_option linter.unusedSimpArgs false
namespace Go.Ab
open Go
variable {K : Codes} {C : Cfg K} {X : Nat → Prop} {L L' : Heap K} {η η' : Eta} {w w' : World} {l : List Nat}

/-! ### a function that was shown over a heap of its own, in a larger one -/
def backN (l : List Nat) (n i : Nat) : Option Nat := match l[i]? with
  | some o => some o
  | none => some (n + (i - l.length))

def merge1 (l : List Nat) (L' : Heap K) (n : Nat) (bad : List Nat) : Nat → Heap K → Heap K
  | _, [] => []
  | o, x :: r => (match idxIn l 0 o with
    | some i => match L'[i]? with
      | some y => renO (backN l n) y
      | none => .gone
    | none => renO (butAll bad) x) :: merge1 l L' n bad (o + 1) r

def mergeL (l : List Nat) (L L' : Heap K) (bad : List Nat) : Heap K := merge1 l L' L.length bad 0 L ++ renL (backN l L.length) (L'.drop l.length)

def lift (m : Nat) (F : List PV → Heap K → (List PV → Heap K → Prop) → Prop) : Spec K := fun ys L Φ =>
  chk (Nat.beq (roots L ys).length m && (roots L ys).all fun o => Nat.blt o L.length)
    (F (renE (idxIn (roots L ys) 0) ys) (renL (idxIn (roots L ys) 0) (pickL L (roots L ys))) fun rs L' =>
      Φ (renE (backN (roots L ys) L.length) rs) (mergeL (roots L ys) L L' ((roots L ys).filter (isRow L))) ((roots L ys).filter (isRow L)))

def etaM (l : List Nat) (n : Nat) (η η' : Eta) : Eta := fun p => match idxIn l 0 p with
  | some i => η' i
  | none => if p < n then η p else η' (l.length + (p - n))

theorem idxIn_mem : ∀ (l : List Nat) (i o : Nat), o ∈ l → ∃ j, idxIn l i o = some j
  | [], _, _, h => by simp at h
  | p :: r, i, o, h => by
    simp only [idxIn]
    split
    · exact ⟨i, rfl⟩
    · rename_i hp
      rcases List.mem_cons.1 h with rfl | h
      · simp at hp
      · exact idxIn_mem r (i + 1) o h
theorem idxIn_at (hn : l.Nodup) {i o : Nat} (h : l[i]? = some o) : idxIn l 0 o = some i := by
  obtain ⟨j, hj⟩ := idxIn_mem l 0 o (List.mem_of_getElem? h)
  obtain ⟨_, q⟩ := idxIn_get l 0 o j hj
  rw [Nat.sub_zero] at q
  obtain ⟨p1, p2⟩ := List.getElem?_eq_some_iff.1 h
  obtain ⟨p1', p2'⟩ := List.getElem?_eq_some_iff.1 q
  rw [hj, nodup_inj hn p1' p1 (p2'.trans p2.symm)]

theorem merge1_length (l : List Nat) (L' : Heap K) (n : Nat) (bad : List Nat) : ∀ (r : Heap K) (o : Nat), (merge1 l L' n bad o r).length = r.length
  | [], _ => rfl
  | _ :: r, o => congrArg (· + 1) (merge1_length l L' n bad r (o + 1))
theorem merge1_get (l : List Nat) (L' : Heap K) (n : Nat) (bad : List Nat) : ∀ (r : Heap K) (o p : Nat) (x : AObj K), (merge1 l L' n bad o r)[p]? = some x →
    ∃ z, r[p]? = some z ∧ x = (match idxIn l 0 (o + p) with
      | some i => match L'[i]? with
        | some y => renO (backN l n) y
        | none => .gone
      | none => renO (butAll bad) z)
  | [], o, p, x, h => by simp [merge1] at h
  | z :: r, o, 0, x, h => by
    simp only [merge1, List.getElem?_cons_zero, Option.some.injEq] at h
    exact ⟨z, rfl, h.symm⟩
  | z :: r, o, p + 1, x, h => by
    simp only [merge1, List.getElem?_cons_succ] at h
    obtain ⟨y, h1, h2⟩ := merge1_get l L' n bad r (o + 1) p x h
    exact ⟨y, by simpa using h1, by rw [h2, show o + 1 + p = o + (p + 1) by omega]⟩

/-- An object of the larger heap. -/
def Mine (l : List Nat) (L L' : Heap K) (η η' : Eta) (p : Nat) (x : AObj K) : Prop := ∃ i y, L'[i]? = some y ∧ x = renO (backN l L.length) y ∧ etaM l L.length η η' p = η' i ∧ backN l L.length i = some p ∧ (p < L.length → l[i]? = some p)
def Others (l : List Nat) (L : Heap K) (η η' : Eta) (bad : List Nat) (p : Nat) (x : AObj K) : Prop := ∃ y, p < L.length ∧ idxIn l 0 p = none ∧ L[p]? = some y ∧ x = renO (butAll bad) y ∧ etaM l L.length η η' p = η p

theorem merge_get {bad : List Nat} (hall : ∀ o, o ∈ l → o < L.length) {p : Nat} {x : AObj K} (h : (mergeL l L L' bad)[p]? = some x) (hx : x.live = true) : Mine l L L' η η' p x ∨ Others l L η η' bad p x := by
  unfold mergeL at h
  by_cases hp : p < L.length
  · rw [List.getElem?_append_left (by rw [merge1_length]; exact hp)] at h
    obtain ⟨z, h1, h2⟩ := merge1_get _ _ _ _ _ _ _ _ h
    rw [Nat.zero_add] at h2
    split at h2
    · rename_i i hi
      split at h2
      · rename_i y hy
        left
        obtain ⟨_, q⟩ := idxIn_get l 0 p i hi
        rw [Nat.sub_zero] at q
        exact ⟨i, y, hy, h2, by simp [etaM, hi], by simp [backN, q], fun _ => q⟩
      · subst h2; cases hx
    · rename_i hi
      exact .inr ⟨z, hp, hi, h1, h2, by simp [etaM, hi, hp]⟩
  · rw [List.getElem?_append_right (by rw [merge1_length]; omega), merge1_length, renL_get, List.getElem?_drop] at h
    obtain ⟨y, h1, h2⟩ := Option.map_eq_some_iff.1 h
    left
    have hi : idxIn l 0 p = none := by
      cases hq : idxIn l 0 p with
      | none => rfl
      | some i =>
        obtain ⟨_, q⟩ := idxIn_get l 0 p i hq
        exact absurd (hall p (List.mem_of_getElem? q)) hp
    refine ⟨_, y, h1, h2.symm, by simp [etaM, hi, hp], ?_, fun h => absurd h hp⟩
    have : l[l.length + (p - L.length)]? = none := List.getElem?_eq_none (by omega)
    simp only [backN, this]
    congr 1; omega

theorem merge_of (hn : l.Nodup) (hall : ∀ o, o ∈ l → o < L.length) {bad : List Nat} {i : Nat} {y : AObj K} (h : L'[i]? = some y) : ∃ p, (mergeL l L L' bad)[p]? = some (renO (backN l L.length) y) ∧ etaM l L.length η η' p = η' i ∧ backN l L.length i = some p := by
  cases hl : l[i]? with
  | some o =>
    have hi := idxIn_at hn hl
    have ho := hall o (List.mem_of_getElem? hl)
    refine ⟨o, ?_, by simp [etaM, hi], by simp [backN, hl]⟩
    unfold mergeL
    rw [List.getElem?_append_left (by rw [merge1_length]; exact ho)]
    have hlt : o < (merge1 l L' L.length bad 0 L).length := by rw [merge1_length]; exact ho
    obtain ⟨z, h1, h2⟩ := merge1_get l L' L.length bad L 0 o _ (List.getElem?_eq_getElem hlt)
    rw [Nat.zero_add, hi] at h2
    simp only [h] at h2
    rw [List.getElem?_eq_getElem hlt, h2]
  | none =>
    have hge : l.length ≤ i := by
      rcases Nat.lt_or_ge i l.length with q | q
      · rw [List.getElem?_eq_getElem q] at hl; cases hl
      · exact q
    have hi : idxIn l 0 (L.length + (i - l.length)) = none := by
      cases hq : idxIn l 0 (L.length + (i - l.length)) with
      | none => rfl
      | some j =>
        obtain ⟨_, q⟩ := idxIn_get l 0 _ j hq
        have := hall _ (List.mem_of_getElem? q); omega
    refine ⟨L.length + (i - l.length), ?_, ?_, by simp [backN, hl]⟩
    · unfold mergeL
      rw [List.getElem?_append_right (by rw [merge1_length]; omega), merge1_length, renL_get, List.getElem?_drop]
      rw [show l.length + (L.length + (i - l.length) - L.length) = i by omega, h]
      rfl
    · simp only [etaM, hi]
      rw [if_neg (by omega)]
      congr 1; omega

theorem mergeL_length (bad : List Nat) : (mergeL l L L' bad).length = L.length + (L'.length - l.length) := by
  simp [mergeL, merge1_length, renL_length]

theorem RepVs.mono2 {G G' : Sig} {ρ : Nat → Option Nat} (h : Moves2 G G' L η w L' η' w' ρ) : ∀ {xs : List PV} {vs : List Value}, RepVs G L η w xs vs → RepVs G' L' η' w' (renE ρ xs) vs
  | [], _, hx => hx
  | x :: xs, vs, hx => by
    obtain ⟨v, r, rfl, h1, h2⟩ := hx
    exact ⟨v, r, rfl, RepV.mono h h1, RepVs.mono2 h h2⟩

theorem ret_ren (ρ : Nat → Option Nat) (rs : List PV) : (retPV rs).ren ρ = retPV (renE ρ rs) := by
  match rs with
  | [] => rfl
  | [r] => rfl
  | r :: s :: t => rfl

def Other (l : List Nat) (L : Heap K) (η : Eta) (b : Nat) : Prop := ∃ p y, idxIn l 0 p = none ∧ L[p]? = some y ∧ y.live = true ∧ η p = some b

def X0 (G : Sig) (l : List Nat) (L : Heap K) (η : Eta) (b : Nat) : Prop := Mx G L η b ∧ ¬ Mut (renL (idxIn l 0) (pickL L l)) (etaOf l η) b

theorem x0_of {G : Sig} (hn : l.Nodup) (hh : HeapRel G L η w) {b : Nat} (h : Other l L η b ∨ G.X b) : X0 G l L η b := by
  rcases h with ⟨p, y, h1, h2, h3, h4⟩ | h
  · refine ⟨.inl ⟨p, y, h2, h3, h4⟩, ?_⟩
    rintro ⟨i, x, g1, g2, g3⟩
    obtain ⟨o, z, q1, q2, rfl⟩ := ren_get g1 g2
    have := hh.inj p o y z b h2 q2 h3 (by rw [← renO_live]; exact g2) h4 (by simpa [etaOf, q1] using g3)
    subst this
    rw [idxIn_at hn q1] at h1; cases h1
  · exact ⟨.inr h, fun q => (hh.ext b h).2 (pick_mut q)⟩

theorem pick_of {ρ : Nat → Option Nat} {i o : Nat} {y : AObj K} (h1 : l[i]? = some o) (h2 : L[o]? = some y) : (renL ρ (pickL L l))[i]? = some (renO ρ y) := by
  rw [renL_get]
  have : ∀ (l : List Nat) (i : Nat), l[i]? = some o → (pickL L l)[i]? = some y := by
    intro l
    induction l with
    | nil => intro i h; simp at h
    | cons p r ih =>
      intro i h
      cases i with
      | zero => simp at h; subst h; simp [pickL, h2]
      | succ i => simpa [pickL] using ih i (by simpa using h)
  rw [this l i h1]; rfl

theorem x0_only {G : Sig} {b : Nat} (h : X0 G l L η b) : Other l L η b ∨ G.X b := by
  obtain ⟨h1, h2⟩ := h
  rcases h1 with ⟨p, y, g1, g2, g3⟩ | h1
  · left
    refine ⟨p, y, ?_, g1, g2, g3⟩
    cases hi : idxIn l 0 p with
    | none => rfl
    | some i =>
      exfalso
      obtain ⟨_, q⟩ := idxIn_get l 0 p i hi
      rw [Nat.sub_zero] at q
      exact h2 ⟨i, _, pick_of q g1, by rw [renO_live]; exact g2, by simpa [etaOf, q] using g3⟩
  · exact .inr h1
end Go.Ab
