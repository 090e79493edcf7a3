import Derived.Test.YtiemgkjmifpfcaaDoorAb4
set_option linter.unusedVariables false
set_option linter.unusedSimpArgs false
namespace Go.Ab
open Go
variable {K : Codes} {G : Sig}

/-- One block is written, in its size. -/
structure Rew (w w' : World) (b : Nat) (cells cells' : Array Value) (t : TypeId) : Prop where
  os : w'.os = w.os
  tape : w'.tape = w.tape
  output : w'.output = w.output
  size : w'.heap.size = w.heap.size
  keep : ∀ i, i ≠ b → w'.heap[i]? = w.heap[i]?
  was : w.heap[b]? = some (.cells cells t (0, 0))
  now : w'.heap[b]? = some (.cells cells' t (0, 0))
  same : cells'.size = cells.size

def kindOk (bad : Nat → Bool) (o : Nat) : AObj K → AObj K → Prop
  | .box _, .box _ => True
  | .row e xs, .row e' xs' => e = e' ∧ (bad o = true ∨ xs.length = xs'.length)
  | _, _ => False

theorem renL_get (ρ : Nat → Option Nat) (L : Heap K) (o : Nat) : (renL ρ L)[o]? = (L[o]?).map (renO ρ) := by simp [renL]
theorem renL_length (ρ : Nat → Option Nat) (L : Heap K) : (renL ρ L).length = L.length := by simp [renL]
theorem renO_live (ρ : Nat → Option Nat) (x : AObj K) : (renO ρ x).live = x.live := by cases x <;> rfl

theorem set_get (ρ : Nat → Option Nat) (L : Heap K) (o : Nat) (x' : AObj K) (p : Nat) (y : AObj K) (h : ((renL ρ L).set o x')[p]? = some y) :
    (p = o ∧ o < L.length ∧ y = x') ∨ (p ≠ o ∧ ∃ z, L[p]? = some z ∧ y = renO ρ z) := by
  rw [List.getElem?_set] at h
  split at h
  · rename_i hop
    subst hop
    split at h
    · rename_i hlt; rw [renL_length] at hlt; cases h; exact .inl ⟨rfl, hlt, rfl⟩
    · cases h
  · rename_i hne
    rw [renL_get] at h
    obtain ⟨z, h1, h2⟩ := Option.map_eq_some_iff.1 h
    exact .inr ⟨fun q => hne q.symm, z, h1, h2.symm⟩

theorem set_fwd {L : Heap K} {η : Eta} {w w' : World} {b : Nat} {cells cells' : Array Value} {t : TypeId} {bad : Nat → Bool} (hr : Rew w w' b cells cells' t) {o : Nat} {x x' : AObj K}
    (ho : L[o]? = some x) (hl : x.live = true) (hη : η o = some b) (hk : kindOk bad o x x') : Fwd L η w ((renL (butB bad) L).set o x') η w' bad where
  os := hr.os
  tape := hr.tape
  output := hr.output
  size := by rw [hr.size]; exact Nat.le_refl _
  keep := by
    intro i _ hm
    refine hr.keep i fun e => hm ?_
    subst e; exact ⟨o, x, ho, hl, hη⟩
  muts := by
    rintro i ⟨p, y, h1, h2, h3⟩
    rcases set_get _ L o x' p y h1 with ⟨rfl, _, rfl⟩ | ⟨_, z, h4, rfl⟩
    · exact .inl ⟨p, x, ho, hl, h3⟩
    · exact .inl ⟨p, z, h4, by rw [← renO_live]; exact h2, h3⟩
  len := by simp [renL_length]
  box := by
    intro p cs' hp hL
    rcases set_get _ L o x' p _ hL with ⟨rfl, _, hx⟩ | ⟨_, z, h4, hx⟩
    · subst hx
      cases x with
      | box cs => exact ⟨cs, ho, rfl⟩
      | row e xs => exact hk.elim
      | gone => exact hk.elim
    · cases z with
      | box cs => exact ⟨cs, h4, rfl⟩
      | row e xs => cases hx
      | gone => cases hx
  kind := by
    intro p e xs' hp hL
    rcases set_get _ L o x' p _ hL with ⟨rfl, _, hx⟩ | ⟨_, z, h4, hx⟩
    · subst hx
      cases x with
      | row e xs => obtain ⟨rfl, _⟩ := hk; exact ⟨xs, ho⟩
      | box cs => exact hk.elim
      | gone => exact hk.elim
    · cases z with
      | row e xs => cases hx; exact ⟨_, h4⟩
      | box cs => cases hx
      | gone => cases hx
  row := by
    intro p e xs' hp hb hL
    have hsz : ∀ i cells0 t0 fr0, η p = some i → w.heap[i]? = some (.cells cells0 t0 fr0) → ∃ c1 t1 f1, w'.heap[i]? = some (.cells c1 t1 f1) ∧ c1.size = cells0.size := by
      intro i cells0 t0 fr0 _ hi
      by_cases hib : i = b
      · subst hib
        rw [hr.was] at hi; cases hi
        exact ⟨cells', t, (0, 0), hr.now, hr.same⟩
      · exact ⟨cells0, t0, fr0, by rw [hr.keep i hib]; exact hi, rfl⟩
    rcases set_get _ L o x' p _ hL with ⟨rfl, _, hx⟩ | ⟨_, z, h4, hx⟩
    · subst hx
      cases x with
      | row e xs =>
        obtain ⟨rfl, hk⟩ := hk
        rcases hk with hk | hk
        · rw [hb] at hk; cases hk
        · exact ⟨xs, ho, hk, rfl, hsz⟩
      | box cs => exact hk.elim
      | gone => exact hk.elim
    · cases z with
      | row e xs => cases hx; exact ⟨_, h4, rfl, rfl, hsz⟩
      | box cs => cases hx
      | gone => cases hx
  trk := fun _ _ _ h => .inl h

theorem set_heap {L : Heap K} {η : Eta} {w w' : World} {b : Nat} {cells cells' : Array Value} {t : TypeId} {bad : Nat → Bool} (hh : HeapRel G L η w) (hr : Rew w w' b cells cells' t) {o : Nat} {x x' : AObj K}
    (ho : L[o]? = some x) (hl : x.live = true) (hη : η o = some b) (hk : kindOk bad o x x')
    (hx : ObjRel G ((renL (butB bad) L).set o x') η w' o x') : HeapRel G ((renL (butB bad) L).set o x') η w' := by
  have hf := set_fwd hr ho hl hη hk
  have hm := hf.moves (C := G) (fun b hb => (hh.ext b hb).1)
  refine ⟨?_, ?_, ?_, ?_⟩
  · intro p y hL
    rcases set_get _ L o x' p y hL with ⟨rfl, _, rfl⟩ | ⟨hne, z, h4, rfl⟩
    · exact hx
    · cases hz : z.live with
      | false => cases z <;> first | exact trivial | cases hz
      | true =>
        refine (hh.obj p z h4).mono hm rfl (fun i hi => hr.keep i fun e => hne ?_)
        subst e
        exact hh.inj p o z x _ h4 ho hz hl hi hη
  · intro p p' y y' i h1 h2 h3 h4 h5 h6
    have key : ∀ (q : Nat) (z : AObj K), ((renL (butB bad) L).set o x')[q]? = some z → z.live = true → ∃ z0 : AObj K, L[q]? = some z0 ∧ z0.live = true := by
      intro q z hq hz
      rcases set_get _ L o x' q z hq with ⟨rfl, _, rfl⟩ | ⟨_, z0, h7, rfl⟩
      · exact ⟨x, ho, hl⟩
      · exact ⟨z0, h7, by rw [← renO_live]; exact hz⟩
    obtain ⟨z, g1, g2⟩ := key p y h1 h3
    obtain ⟨z', g3, g4⟩ := key p' y' h2 h4
    exact hh.inj p p' z z' i g1 g3 g2 g4 h5 h6
  · intro i hi
    refine ⟨by rw [hr.size]; exact (hh.ext i hi).1, fun q => ?_⟩
    rcases hf.muts i q with q | q
    · exact (hh.ext i hi).2 q
    · exact absurd (hh.ext i hi).1 (by omega)
  · intro p hp
    exact hh.none p (by simpa [renL_length] using hp)

theorem butB_no : butB noBad = some := butB_noBad
theorem renL_some (L : Heap K) : renL some L = L := by
  have : (renO some : AObj K → AObj K) = id := by funext x; exact renO_some x
  simp [renL, this]

/-! ### cells -/
theorem Rep.go_length {L : Heap K} {η : Eta} {w : World} : ∀ {cs : List PV} {l : List Value}, Rep.go G L η w cs l → l.length = cs.length
  | [], l, h => by simp only [Rep.go] at h; subst h; rfl
  | x :: cs, l, h => by
    obtain ⟨v, r, rfl, _, _, h⟩ := h
    simp [Rep.go_length h]
theorem Rep.go_get {L : Heap K} {η : Eta} {w : World} : ∀ {cs : List PV} {l : List Value}, Rep.go G L η w cs l → ∀ (i : Nat) (x : PV), cs[i]? = some x →
    ∃ v : Value, l[i]? = some v ∧ x.isAgg = false ∧ v.oneCell' = true ∧ Rep G L η w x [v]
  | [], l, h, i, x, hi => by simp at hi
  | y :: cs, l, h, i, x, hi => by
    obtain ⟨v, r, rfl, ha, hx, h⟩ := h
    cases i with
    | zero => simp at hi; subst hi; exact ⟨v, rfl, ha.1, ha.2, hx⟩
    | succ i => simp at hi; simpa using Rep.go_get h i x hi
theorem Rep.go_set {L : Heap K} {η : Eta} {w : World} : ∀ {cs : List PV} {l : List Value}, Rep.go G L η w cs l → ∀ (i : Nat) (x : PV) (v : Value), x.isAgg = false → v.oneCell' = true → Rep G L η w x [v] →
    Rep.go G L η w (cs.set i x) (l.set i v)
  | [], l, h, i, x, v, _, _, _ => by simp only [Rep.go] at h; subst h; exact rfl
  | y :: cs, l, h, i, x, v, h1, h2, h3 => by
    obtain ⟨u, r, rfl, ha, hx, h⟩ := h
    cases i with
    | zero => exact ⟨v, r, rfl, ⟨h1, h2⟩, h3, h⟩
    | succ i => exact ⟨u, r.set i v, rfl, ha, hx, Rep.go_set h i x v h1 h2 h3⟩
theorem Rep.go_drop {L : Heap K} {η : Eta} {w : World} : ∀ {cs : List PV} {l : List Value}, Rep.go G L η w cs l → ∀ n, Rep.go G L η w (cs.drop n) (l.drop n)
  | [], l, h, n => by simp only [Rep.go] at h; subst h; simp [Rep.go]
  | y :: cs, l, h, 0 => h
  | y :: cs, l, h, n + 1 => by
    obtain ⟨v, r, rfl, ha, hx, h⟩ := h
    exact Rep.go_drop h n
theorem Rep.go_take {L : Heap K} {η : Eta} {w : World} : ∀ {cs : List PV} {l : List Value}, Rep.go G L η w cs l → ∀ n, Rep.go G L η w (cs.take n) (l.take n)
  | [], l, h, n => by simp only [Rep.go] at h; subst h; simp [Rep.go]
  | y :: cs, l, h, 0 => rfl
  | y :: cs, l, h, n + 1 => by
    obtain ⟨v, r, rfl, ha, hx, h⟩ := h
    exact ⟨v, _, rfl, ha, hx, Rep.go_take h n⟩


theorem setCells_length : ∀ (cs : List PV) (off : Nat) (ys : List PV), (setCells cs off ys).length = cs.length
  | _, _, [] => rfl
  | cs, off, y :: ys => by rw [setCells, setCells_length]; simp

def setV : List Value → Nat → List Value → List Value
  | cs, _, [] => cs
  | cs, off, y :: ys => setV (cs.set off y) (off + 1) ys
theorem setV_length : ∀ (cs : List Value) (off : Nat) (ys : List Value), (setV cs off ys).length = cs.length
  | _, _, [] => rfl
  | cs, off, y :: ys => by rw [setV, setV_length]; simp

theorem Rep.go_setCells {L : Heap K} {η : Eta} {w : World} : ∀ (ys : List PV) (us : List Value) (cs : List PV) (l : List Value) (off : Nat), Rep.go G L η w ys us → Rep.go G L η w cs l →
    Rep.go G L η w (setCells cs off ys) (setV l off us)
  | [], us, cs, l, off, h, hc => by simp only [Rep.go] at h; subst h; exact hc
  | y :: ys, us, cs, l, off, h, hc => by
    obtain ⟨v, r, rfl, ha, hx, h⟩ := h
    exact Rep.go_setCells ys r _ _ (off + 1) h (Rep.go_set hc off y v ha.1 ha.2 hx)


mutual
theorem Rep.toF {L : Heap K} {η : Eta} {w : World} : ∀ (x : PV) (l : List Value), x.pure = true → Rep G L η w x l → RepF G.I (Mx G L η) w x l
  | .bool _, _, _, h => h
  | .int _ _, _, _, h => h
  | .str _, _, _, h => h
  | .raw _, _, _, h => h
  | .sl _ _ _, _, _, h => h
  | .el _ _, _, _, h => h
  | .err _, _, _, h => h
  | .agg cs, l, hp, h => Rep.toF_go cs l hp h
  | .iface t x, l, hp, h => by
    obtain ⟨v, rfl, ha, h⟩ := h
    exact ⟨v, rfl, ha, Rep.toF x _ hp h⟩
  | .fn f a b, l, hp, h => by
    obtain ⟨fs, cs, rfl, h1, h2⟩ := h
    simp only [PV.pure, Bool.and_eq_true] at hp
    exact ⟨fs, cs, rfl, Rep.toF_go a fs hp.1 h1, Rep.toF_go b cs hp.2 h2⟩
  | .junk, _, hp, _ => by simp [PV.pure] at hp
  | .tup _, _, hp, _ => by simp [PV.pure] at hp
  | .own _, _, hp, _ => by simp [PV.pure] at hp
  | .ptr _ _, _, hp, _ => by simp [PV.pure] at hp
  | .oel _ _ _, _, hp, _ => by simp [PV.pure] at hp
theorem Rep.toF_go {L : Heap K} {η : Eta} {w : World} : ∀ (xs : List PV) (l : List Value), PV.pure.go xs = true → Rep.go G L η w xs l → RepF.go G.I (Mx G L η) w xs l
  | [], _, _, h => h
  | x :: xs, l, hp, h => by
    obtain ⟨v, r, rfl, ha, hx, h⟩ := h
    simp only [PV.pure.go, Bool.and_eq_true] at hp
    exact ⟨v, r, rfl, ha, Rep.toF x _ hp.1 hx, Rep.toF_go xs r hp.2 h⟩
end
mutual
theorem Rep.ofF {L : Heap K} {η : Eta} {w : World} : ∀ (x : PV) (l : List Value), RepF G.I (Mx G L η) w x l → Rep G L η w x l
  | .bool _, _, h => h
  | .int _ _, _, h => h
  | .str _, _, h => h
  | .raw _, _, h => h
  | .sl _ _ _, _, h => h
  | .el _ _, _, h => h
  | .err _, _, h => h
  | .agg cs, l, h => Rep.ofF_go cs l h
  | .iface t x, l, h => by
    obtain ⟨v, rfl, ha, h⟩ := h
    exact ⟨v, rfl, ha, Rep.ofF x _ h⟩
  | .fn f a b, l, h => by
    obtain ⟨fs, cs, rfl, h1, h2⟩ := h
    exact ⟨fs, cs, rfl, Rep.ofF_go a fs h1, Rep.ofF_go b cs h2⟩
  | .junk, _, h => h.elim
  | .tup _, _, h => h.elim
  | .own _, _, h => h.elim
  | .ptr _ _, _, h => h.elim
  | .oel _ _ _, _, h => h.elim
theorem Rep.ofF_go {L : Heap K} {η : Eta} {w : World} : ∀ (xs : List PV) (l : List Value), RepF.go G.I (Mx G L η) w xs l → Rep.go G L η w xs l
  | [], _, h => h
  | x :: xs, l, h => by
    obtain ⟨v, r, rfl, ha, hx, h⟩ := h
    exact ⟨v, r, rfl, ha, Rep.ofF x _ hx, Rep.ofF_go xs r h⟩
end
theorem RepF.cells {I : Ids} {M : Nat → Prop} {w : World} {x : PV} {l : List Value} (h : RepF I M w x l) : RepF.go I M w x.cells l ∨ (x.isAgg = false ∧ l.length = 1) := by
  cases x with
  | agg cs => exact .inl h
  | bool _ => simp only [RepF] at h; subst h; exact .inr ⟨rfl, rfl⟩
  | int _ _ => simp only [RepF] at h; subst h; exact .inr ⟨rfl, rfl⟩
  | str _ => simp only [RepF] at h; subst h; exact .inr ⟨rfl, rfl⟩
  | raw _ => obtain ⟨rfl, _⟩ := h; exact .inr ⟨rfl, rfl⟩
  | sl _ _ _ => obtain ⟨_, _, rfl, _⟩ := h; exact .inr ⟨rfl, rfl⟩
  | el _ _ => obtain ⟨_, _, _, _, _, _, rfl, _⟩ := h; exact .inr ⟨rfl, rfl⟩
  | err _ => obtain ⟨_, rfl, _⟩ := h; exact .inr ⟨rfl, rfl⟩
  | iface _ _ => obtain ⟨_, rfl, _⟩ := h; exact .inr ⟨rfl, rfl⟩
  | fn _ _ _ => obtain ⟨_, _, rfl, _⟩ := h; exact .inr ⟨rfl, rfl⟩
  | _ => exact h.elim
theorem RepF.go_length {I : Ids} {M : Nat → Prop} {w : World} : ∀ {cs : List PV} {l : List Value}, RepF.go I M w cs l → l.length = cs.length
  | [], l, h => by simp only [RepF.go] at h; subst h; rfl
  | x :: cs, l, h => by
    obtain ⟨v, r, rfl, _, _, h⟩ := h
    simp [RepF.go_length h]
theorem RepF.length {I : Ids} {M : Nat → Prop} {w : World} {x : PV} {l : List Value} (h : RepF I M w x l) : l.length = x.cells.length := by
  rcases h.cells with h1 | ⟨h1, h2⟩
  · exact RepF.go_length h1
  · cases x <;> first | (exact h2) | (simp [PV.isAgg] at h1)
end Go.Ab
