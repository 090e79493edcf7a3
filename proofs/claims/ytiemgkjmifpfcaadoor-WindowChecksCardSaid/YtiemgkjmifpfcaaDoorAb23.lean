import Derived.Test.YtiemgkjmifpfcaaDoorAb22
set_option linter.unusedVariables false
set_option linter.unusedSimpArgs false
namespace Go.Ab
open Go
variable {K : Codes} {C : Cfg K} {X : Nat → Prop} {L L' : Heap K} {η η' : Eta} {w w' : World} {l : List Nat}

def subHeap (l : List Nat) (L : Heap K) : Heap K := renL (idxIn l 0) (pickL L l)

theorem sub_moves {G : Sig} : Moves2 G { G with X := X0 G l L η } L η w (subHeap l L) (etaOf l η) w (idxIn l 0) where
  froz := by
    intro b o hM hb
    refine ⟨?_, hb⟩
    rintro (q | q)
    · exact hM (.inl (pick_mut q))
    · exact hM q.1
  len := (pick_moves (G := G) (η := η) (w := w)).len
  box := (pick_moves (G := G) (w := w)).box
  row := (pick_moves (G := G) (w := w)).row
  I := rfl
  sz := rfl

theorem sub_heap {G : Sig} (hn : l.Nodup) (hh : HeapRel G L η w) : HeapRel { G with X := X0 G l L η } (subHeap l L) (etaOf l η) w where
  obj := by
    intro i x h
    cases hl : x.live with
    | false => cases x <;> first | exact trivial | cases hl
    | true =>
      obtain ⟨o, y, h1, h2, rfl⟩ := ren_get h hl
      exact (hh.obj o y h2).mono sub_moves (by simp [etaOf, h1]) (fun _ _ => rfl)
  inj := (pick_heap hn hh).inj
  ext := by
    intro b hb
    refine ⟨?_, hb.2⟩
    rcases hb.1 with q | q
    · exact hh.lt q
    · exact (hh.ext b q).1
  none := (pick_heap hn hh).none

structure After (G : Sig) (l : List Nat) (L : Heap K) (η : Eta) (w : World) (L' : Heap K) (η' : Eta) (w' : World) : Prop where
  nd : l.Nodup
  all : ∀ o, o ∈ l → o < L.length
  heap : HeapRel G L η w
  heap' : HeapRel { G with X := X0 G l L η } L' η' w'
  fwd : FwdR (subHeap l L) (etaOf l η) w L' η' w'

theorem sub_length : (subHeap l L).length = l.length := by simp [subHeap, renL_length, pickL_length]

section

theorem After.mut {G : Sig} (h : After G l L η w L' η' w') {bad : List Nat} {b : Nat} (hb : Mut (mergeL l L L' bad) (etaM l L.length η η') b) : Mut L' η' b ∨ Other l L η b := by
  obtain ⟨p, x, h1, h2, h3⟩ := hb
  rcases merge_get (η := η) (η' := η') h.all h1 h2 with ⟨i, y, g1, rfl, g3, _⟩ | ⟨y, _, g2, g3, rfl, g5⟩
  · exact .inl ⟨i, y, g1, by rw [← renO_live]; exact h2, by rw [← g3]; exact h3⟩
  · exact .inr ⟨p, y, g2, g3, by rw [← renO_live]; exact h2, by rw [← g5]; exact h3⟩

theorem After.unmut {G : Sig} (h : After G l L η w L' η' w') {bad : List Nat} {b : Nat} (hb : Mut L' η' b) : Mut (mergeL l L L' bad) (etaM l L.length η η') b := by
  obtain ⟨i, y, h1, h2, h3⟩ := hb
  obtain ⟨p, g1, g2, _⟩ := merge_of (η := η) (η' := η') h.nd h.all (bad := bad) h1
  exact ⟨p, _, g1, by rw [renO_live]; exact h2, by rw [g2]; exact h3⟩

theorem After.keep {G : Sig} (h : After G l L η w L' η' w') {b : Nat} (hb : X0 G l L η b) : b < w.heap.size ∧ w'.heap[b]? = w.heap[b]? := by
  have hlt : b < w.heap.size := by
    rcases hb.1 with q | q
    · exact h.heap.lt q
    · exact (h.heap.ext b q).1
  exact ⟨hlt, h.fwd.keep b hlt hb.2⟩

theorem After.othL {G : Sig} (h : After G l L η w L' η' w') {b : Nat} (hb : Other l L η b) : Mut L η b := by
  obtain ⟨p, y, _, h2, h3, h4⟩ := hb
  exact ⟨p, y, h2, h3, h4⟩

theorem After.fwdM {G : Sig} (h : After G l L η w L' η' w') : Fwd L η w (mergeL l L L' (l.filter (isRow L))) (etaM l L.length η η') w' (fun o => (l.filter (isRow L)).contains o) where
  os := h.fwd.os
  tape := h.fwd.tape
  output := h.fwd.output
  size := h.fwd.size
  keep := fun b hb hm => h.fwd.keep b hb fun q => hm (pick_mut q)
  muts := by
    intro b hb
    rcases h.mut hb with q | q
    · rcases h.fwd.muts b q with q | q
      · exact .inl (pick_mut q)
      · exact .inr q
    · exact .inl (h.othL q)
  len := by rw [mergeL_length]; omega
  box := by
    intro o cs' ho hL
    rcases merge_get (η := η) (η' := η') h.all hL rfl with ⟨i, y, g1, g2, g3, _, g5⟩ | ⟨y, _, g2, g3, g4, g5⟩
    · obtain ⟨cs0, rfl, _⟩ := renO_box g2
      have hl := g5 ho
      have hi : i < (subHeap l L).length := by rw [sub_length]; exact (List.getElem?_eq_some_iff.1 hl).1
      obtain ⟨cs1, q1, q2⟩ := h.fwd.box i cs0 hi g1
      obtain ⟨o2, z, r1, r2, r3⟩ := ren_get q1 rfl
      rw [hl] at r1; cases r1
      obtain ⟨cs2, rfl, _⟩ := renO_box r3
      exact ⟨cs2, r2, by rw [g3, q2]; simp [etaOf, hl]⟩
    · obtain ⟨cs0, rfl, _⟩ := renO_box g4
      exact ⟨cs0, g3, g5⟩
  kind := by
    intro o e xs' ho hL
    rcases merge_get (η := η) (η' := η') h.all hL rfl with ⟨i, y, g1, g2, g3, _, g5⟩ | ⟨y, _, g2, g3, g4, g5⟩
    · obtain rfl := renO_row g2
      have hl := g5 ho
      have hi : i < (subHeap l L).length := by rw [sub_length]; exact (List.getElem?_eq_some_iff.1 hl).1
      obtain ⟨xs1, q1⟩ := h.fwd.kind i e xs' hi g1
      obtain ⟨o2, z, r1, r2, r3⟩ := ren_get q1 rfl
      rw [hl] at r1; cases r1
      obtain rfl := renO_row r3
      exact ⟨xs1, r2⟩
    · obtain rfl := renO_row g4
      exact ⟨xs', g3⟩
  row := by
    intro o e xs' ho hbad hL
    rcases merge_get (η := η) (η' := η') h.all hL rfl with ⟨i, y, g1, g2, g3, _, g5⟩ | ⟨y, _, g2, g3, g4, g5⟩
    · exfalso
      obtain rfl := renO_row g2
      have hl := g5 ho
      have hi : i < (subHeap l L).length := by rw [sub_length]; exact (List.getElem?_eq_some_iff.1 hl).1
      obtain ⟨xs1, q1⟩ := h.fwd.kind i e xs' hi g1
      obtain ⟨o2, z, r1, r2, r3⟩ := ren_get q1 rfl
      rw [hl] at r1; cases r1
      obtain rfl := renO_row r3
      have : o ∈ l.filter (isRow L) := List.mem_filter.2 ⟨List.mem_of_getElem? hl, by simp [isRow, r2]⟩
      simp at hbad this
      exact absurd (hbad this.1) (by simp [this.2])
    · obtain rfl := renO_row g4
      refine ⟨xs', g3, rfl, g5, fun b cells t fr hη hb => ⟨cells, t, fr, ?_, rfl⟩⟩
      have hx : X0 G l L η b := x0_of h.nd h.heap (.inl ⟨o, _, g2, g3, rfl, hη⟩)
      rw [(h.keep hx).2]; exact hb
  trk := by
    intro o b ho hb
    simp only [etaM] at hb
    split at hb
    · rename_i i hi
      obtain ⟨_, q⟩ := idxIn_get l 0 o i hi
      rw [Nat.sub_zero] at q
      have hi : i < (subHeap l L).length := by rw [sub_length]; exact (List.getElem?_eq_some_iff.1 q).1
      rcases h.fwd.trk i b hi hb with r | r
      · left; simpa [etaOf, q] using r
      · exact .inr r
    · rw [if_pos ho] at hb; exact .inl hb

theorem After.mx {G : Sig} (h : After G l L η w L' η' w') {bad : List Nat} {b : Nat} : ¬ Mx { G with X := X0 G l L η } L' η' b → ¬ Mx G (mergeL l L L' bad) (etaM l L.length η η') b := by
  rintro hb (q | q)
  · rcases h.mut q with q | q
    · exact hb (.inl q)
    · exact hb (.inr (x0_of h.nd h.heap (.inl q)))
  · exact hb (.inr (x0_of h.nd h.heap (.inr q)))

theorem After.back_moves {G : Sig} (h : After G l L η w L' η' w') {bad : List Nat} : Moves2 { G with X := X0 G l L η } G L' η' w' (mergeL l L L' bad) (etaM l L.length η η') w' (backN l L.length) where
  froz := fun b o hb ho => ⟨h.mx hb, ho⟩
  len := by
    intro i p hi hb
    rw [mergeL_length]
    simp only [backN] at hb
    split at hb
    · rename_i o ho; cases hb
      have := h.all _ (List.mem_of_getElem? ho); omega
    · rename_i hl
      cases hb
      have : l.length ≤ i := by
        rcases Nat.lt_or_ge i l.length with q | q
        · rw [List.getElem?_eq_getElem q] at hl; cases hl
        · exact q
      omega
  box := by
    intro i p cs' hi hb hL
    obtain ⟨y, hy⟩ : ∃ y, L'[i]? = some y := ⟨_, List.getElem?_eq_getElem hi⟩
    obtain ⟨p2, g1, g2, g3⟩ := merge_of (η := η) (η' := η') h.nd h.all (bad := bad) hy
    rw [hb] at g3; cases g3
    rw [hL] at g1
    obtain ⟨cs0, rfl, _⟩ := renO_box (Option.some.inj g1)
    exact ⟨cs0, hy, g2⟩
  row := by
    intro i p e xs' hi hb hL
    obtain ⟨y, hy⟩ : ∃ y, L'[i]? = some y := ⟨_, List.getElem?_eq_getElem hi⟩
    obtain ⟨p2, g1, g2, g3⟩ := merge_of (η := η) (η' := η') h.nd h.all (bad := bad) hy
    rw [hb] at g3; cases g3
    rw [hL] at g1
    obtain rfl := renO_row (Option.some.inj g1)
    exact ⟨xs', hy, rfl, g2, fun b cells t fr _ hb => ⟨cells, t, fr, hb, rfl⟩⟩
  I := rfl
  sz := rfl

theorem After.heapM {G : Sig} (h : After G l L η w L' η' w') : HeapRel G (mergeL l L L' (l.filter (isRow L))) (etaM l L.length η η') w' where
  obj := by
    intro p x hx
    cases hl : x.live with
    | false => cases x <;> first | exact trivial | cases hl
    | true =>
      rcases merge_get (η := η) (η' := η') h.all hx hl with ⟨i, y, g1, rfl, g3, g4, _⟩ | ⟨y, g1, g2, g3, rfl, g5⟩
      · exact (h.heap'.obj i y g1).mono h.back_moves g3 (fun _ _ => rfl)
      · have hm := h.fwdM.moves (C := G) (fun b hb => (h.heap.ext b hb).1)
        refine (h.heap.obj p y g3).mono hm g5 (fun b hb => ?_)
        exact (h.keep (x0_of h.nd h.heap (.inl ⟨p, y, g2, g3, by rw [← renO_live]; exact hl, hb⟩))).2
  inj := by
    intro p p' x x' b h1 h2 h3 h4 h5 h6
    rcases merge_get (η := η) (η' := η') h.all h1 h3 with ⟨i, y, g1, rfl, g3, g4, _⟩ | ⟨y, g1, g2, g3, rfl, g5⟩ <;>
    rcases merge_get (η := η) (η' := η') h.all h2 h4 with ⟨i', y', g1', rfl, g3', g4', _⟩ | ⟨y', g1', g2', g3', rfl, g5'⟩
    · have := h.heap'.inj i i' y y' b g1 g1' (by rw [← renO_live]; exact h3) (by rw [← renO_live]; exact h4) (by rw [← g3]; exact h5) (by rw [← g3']; exact h6)
      subst this
      rw [g4] at g4'; cases g4'; rfl
    · exfalso
      have hx := x0_of (b := b) h.nd h.heap (.inl ⟨p', y', g2', g3', by rw [← renO_live]; exact h4, by rw [← g5']; exact h6⟩)
      exact (h.heap'.ext b hx).2 ⟨i, y, g1, by rw [← renO_live]; exact h3, by rw [← g3]; exact h5⟩
    · exfalso
      have hx := x0_of (b := b) h.nd h.heap (.inl ⟨p, y, g2, g3, by rw [← renO_live]; exact h3, by rw [← g5]; exact h5⟩)
      exact (h.heap'.ext b hx).2 ⟨i', y', g1', by rw [← renO_live]; exact h4, by rw [← g3']; exact h6⟩
    · exact h.heap.inj p p' y y' b g3 g3' (by rw [← renO_live]; exact h3) (by rw [← renO_live]; exact h4) (by rw [← g5]; exact h5) (by rw [← g5']; exact h6)
  ext := by
    intro b hb
    refine ⟨Nat.lt_of_lt_of_le (h.heap.ext b hb).1 h.fwd.size, fun q => ?_⟩
    rcases h.mut q with q | q
    · exact (h.heap'.ext b (x0_of h.nd h.heap (.inr hb))).2 q
    · exact (h.heap.ext b hb).2 (h.othL q)
  none := by
    intro p hp
    rw [mergeL_length] at hp
    have hle := h.fwd.len
    rw [sub_length] at hle
    have hi : idxIn l 0 p = none := by
      cases hq : idxIn l 0 p with
      | none => rfl
      | some j =>
        obtain ⟨_, q⟩ := idxIn_get l 0 _ j hq
        have := h.all _ (List.mem_of_getElem? q); omega
    simp only [etaM, hi]
    rw [if_neg (by omega)]
    exact h.heap'.none _ (by omega)
end

/-- A function that was shown over a heap of its own is one over any heap. -/
theorem lift_ok {g : FuncId} {m : Nat} {F : List PV → Heap K → (List PV → Heap K → Prop) → Prop} (h : FunF C g m F) : FunG C g (lift m F) := by
  intro X ys L Φ hF η w vs hh hg hv
  obtain ⟨hc, hF⟩ := chk_iff hF
  rw [Bool.and_eq_true] at hc
  have hlen := Nat.eq_of_beq_eq_true hc.1
  have hall : ∀ o, o ∈ roots L ys → o < L.length := by
    intro o ho
    have := List.all_eq_true.1 hc.2 o ho
    rwa [Nat.blt_eq] at this
  have hn : (roots L ys).Nodup := closeRefs_nodup L _ _ _ (addNew_nodup _ _ List.nodup_nil)
  obtain ⟨l, hl⟩ : ∃ l, l = roots L ys := ⟨_, rfl⟩
  rw [← hl] at hF hlen hall hn
  have hsub := sub_heap hn hh
  have hmv : Moves2 (sig C X) { sig C X with X := X0 (sig C X) l L η } L η w (subHeap l L) (etaOf l η) w (idxIn l 0) := sub_moves
  refine (h (X0 (sig C X) l L η) _ (subHeap l L) _ (by rw [sub_length]; exact hlen) hF (etaOf l η) w vs hsub (fun g x hx => RepF.mono hmv.froz _ _ (hg g x hx)) (hv.mono2 hmv)).mono ?_
  rintro v w' ⟨rs, L', η', hΦ, h1, h2, h3⟩
  have ha : After (sig C X) l L η w L' η' w' := ⟨hn, hall, hh, h2, h3⟩
  refine ⟨_, _, etaM l L.length η η', _, hΦ, ?_, ha.heapM, ha.fwdM, ?_, ?_⟩
  · have := RepV.mono (ha.back_moves (bad := l.filter (isRow L))) h1
    rw [ret_ren] at this
    exact this
  · intro o ho
    have : o ∈ l.filter (isRow L) := by simpa using ho
    exact (List.mem_filter.1 this).2
  · intro b hb hno
    rw [← hl] at hno
    refine ha.fwd.keep b hb ?_
    rintro ⟨i, x, g1, g2, g3⟩
    obtain ⟨o, z, q1, q2, rfl⟩ := ren_get g1 g2
    exact hno o (List.mem_of_getElem? q1) (by simpa [etaOf, q1] using g3)
end Go.Ab
