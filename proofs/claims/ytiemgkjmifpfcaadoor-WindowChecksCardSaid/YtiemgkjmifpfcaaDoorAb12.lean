import Derived.Test.YtiemgkjmifpfcaaDoorAb11
import Derived.Laws.Tables
set_option linter.unusedVariables false
set_option linter.unusedSimpArgs false
namespace Go.Ab
open Go
variable {K : Codes} {C : Cfg K} {X : Nat → Prop} {N : Nat} {env : List PV} {L : Heap K} {η : Eta} {w : World} {a : Act}

theorem foldSet (off : Nat) : ∀ (vs : List Value) (k : Nat) (cells : Array Value), ((vs.zipIdx k).foldl (fun cs (p : Value × Nat) => cs.setIfInBounds (off + p.2) p.1) cells).toList = setV cells.toList (off + k) vs
  | [], k, cells => rfl
  | v :: vs, k, cells => by
    rw [List.zipIdx_cons, List.foldl_cons, foldSet off vs (k + 1)]
    simp [setV, Nat.add_assoc]

theorem fold_arr (off : Nat) (vs : Array Value) (cells : Array Value) : vs.zipIdx.foldl (fun cs (c, j) => cs.setIfInBounds (off + j) c) cells = ⟨setV cells.toList off vs.toList⟩ := by
  apply Array.ext'
  rw [← Array.foldl_toList, Array.toList_zipIdx]
  exact foldSet off vs.toList 0 cells

/-- The parts of a literal, and their values. -/
def RepParts (G : Sig) (L : Heap K) (η : Eta) (w : World) : List (Nat × PV) → List (Nat × Value) → Prop
  | [], vs => vs = []
  | (i, x) :: xs, vs => ∃ v r, vs = (i, v) :: r ∧ RepV G L η w x v ∧ RepParts G L η w xs r

theorem fillCells_ok {G : Sig} {place place' : Nat → Option (Nat × Nat)} (hp : ∀ i q, place i = some q → place' i = some q) : ∀ (parts : List (Nat × PV)) (vs : List (Nat × Value)) (cs cs' : List PV) (cells : List Value),
    fillCells place cs parts = some cs' → Rep.go G L η w cs cells → RepParts G L η w parts vs → ∃ cells', Instr.fill place' ⟨cells⟩ vs = some ⟨cells'⟩ ∧ Rep.go G L η w cs' cells'
  | [], vs, cs, cs', cells, h, hr, hv => by
    simp [fillCells] at h; subst h
    simp only [RepParts] at hv; subst hv
    exact ⟨cells, by simp [Instr.fill], hr⟩
  | (i, x) :: parts, vs, cs, cs', cells, h, hr, hv => by
    obtain ⟨v, r, rfl, hx, hv⟩ := hv
    simp only [fillCells] at h
    split at h
    · rename_i off sz hpl hs
      split at h
      · rename_i hcond
        have hl := rep_cells_length hx hs
        have hlen := Rep.go_length hr
        obtain ⟨cells', h1, h2⟩ := fillCells_ok hp parts r _ cs' (setV cells off v.cells.toList) h (Rep.go_setCells _ _ _ _ _ (Rep.cells hx hs) hr) hv
        refine ⟨cells', ?_, h2⟩
        simp only [Instr.fill, hp i _ hpl]
        have : ¬ (v.cells.size ≠ sz || off + v.cells.size > (⟨cells⟩ : Array Value).size) = true := by
          simp [hl, hcond.1, hlen]; exact hcond.2
        rw [if_neg this, fold_arr]
        exact h1
      · cases h
    · cases h

theorem evBuild_ok (hc : CfgOk C) {t : TypeId} {parts : List (Nat × PV)} {vs : List (Nat × Value)} {k : PV → Prop} (hv : RepParts (sig C X) L η w parts vs) (h : evBuild C t parts k) :
    Gives (sig C X) L η w C.P (Instr.build t ⟨vs⟩) k := by
  unfold evBuild at h
  split at h
  · rename_i fs _ _ z _ _ hi
    obtain ⟨inf, i1, i2, i3, zv, i4, i5, i6⟩ := (hc.ty t _ hi).info
    obtain ⟨fields, hu, hm, hf⟩ := (hc.ty t _ hi).desc
    split at h
    · rename_i cs hfill
      obtain ⟨cells', h1, h2⟩ := fillCells_ok (L := L) (η := η) (w := w) (G := sig C X) (place' := fun i => (fs.map fun p => (p.1, C.P.cellsOf p.2)).toArray[i]?) (by
        intro i q hq
        cases hfi : fs[i]? with
        | none => simp [hfi] at hq
        | some p =>
          obtain ⟨o, ft⟩ := p
          simp [hfi] at hq
          obtain ⟨j, hj, rfl⟩ := hq
          simp [hfi, (hc.ty ft j hj).cellsOf]) parts vs z cs zv.cells.toList hfill (i6 _ _ _ _) hv
      refine gives (.agg ⟨cells'⟩) _ (fun w => run_build w t ⟨vs⟩ ⟨cells'⟩ ?_) h (.inr ⟨rfl, h2⟩)
      simp only [Program.built, i1, hu, i4, hm]
      simpa using h1
    · exact h.elim
  · rename_i n e _ _ z _ _ hi
    obtain ⟨inf, i1, i2, i3, zv, i4, i5, i6⟩ := (hc.ty t _ hi).info
    have hu : C.P.underlying t = some (.array n e) := (hc.ty t _ hi).desc
    split at h
    · rename_i ie hie
      obtain ⟨inf2, j1, j2, _⟩ := (hc.ty e ie hie).info
      split at h
      · rename_i cs hfill
        obtain ⟨cells', h1, h2⟩ := fillCells_ok (L := L) (η := η) (w := w) (G := sig C X) (place' := fun i => some (i * inf2.size, inf2.size)) (by
          intro i q hq
          rw [j2]; exact hq) parts vs z cs zv.cells.toList hfill (i6 _ _ _ _) hv
        refine gives (.agg ⟨cells'⟩) _ (fun w => run_build w t ⟨vs⟩ ⟨cells'⟩ ?_) h (.inr ⟨rfl, h2⟩)
        simp only [Program.built, i1, hu, i4, j1]
        exact h1
      · exact h.elim
    · exact h.elim
  · exact h.elim

/-! ### rows that a call makes -/
/-- Values, laid one behind the other. -/
theorem lay_rows {I : Ids} {M : Nat → Prop} {s : Nat} (hs : 0 < s) {c : Cod} : ∀ (zs : List c.α) (vs : List Value), RepFs I M w (zs.map c.enc) vs → (∀ v, v ∈ vs → v.cells.size = s) →
    ∀ (i : Nat) (x : c.α), zs[i]? = some x → ∃ v : Value, vs[i]? = some v ∧ v.cells.toList.length = s ∧ RepF I M w (c.enc x) v.cells.toList
  | [], vs, _, _, i, x, h => by simp at h
  | z :: zs, vs, hr, hsz, i, x, h => by
    obtain ⟨v, r, rfl, ⟨h1, h2⟩, hr⟩ := hr
    cases i with
    | zero => simp at h; subst h; exact ⟨v, rfl, by simpa using hsz v List.mem_cons_self, h1⟩
    | succ i =>
      obtain ⟨u, u1, u2, u3⟩ := lay_rows hs zs r hr (fun v hv => hsz v (List.mem_cons_of_mem _ hv)) i x (by simpa using h)
      exact ⟨u, by simpa using u1, u2, u3⟩

/-- Cells at which values are laid one behind the other. -/
def LaidAt (s : Nat) (vs : List Value) (cells : List Value) : Prop := ∀ (i : Nat) (v : Value), vs[i]? = some v → ∀ (j : Nat) (u : Value), v.cells.toList[j]? = some u → cells[i * s + j]? = some u

theorem fill_consec {s : Nat} : ∀ (vs : List Value) (i : Nat) (cells : List Value), (∀ v, v ∈ vs → v.cells.size = s) → (i + vs.length) * s ≤ cells.length →
    ∃ cells' : List Value, Instr.fill (fun i => some (i * s, s)) ⟨cells⟩ (vs.zipIdx i |>.map fun p => (p.2, p.1)) = some ⟨cells'⟩ ∧ cells'.length = cells.length ∧
      (∀ p, p < i * s → cells'[p]? = cells[p]?) ∧ ∀ (q : Nat) (v : Value), vs[q]? = some v → ∀ (j : Nat) (u : Value), v.cells.toList[j]? = some u → cells'[(i + q) * s + j]? = some u
  | [], i, cells, _, _ => ⟨cells, by simp [Instr.fill], rfl, fun _ _ => rfl, fun q v h => by simp at h⟩
  | v :: vs, i, cells, hsz, hlen => by
    have hv := hsz v List.mem_cons_self
    have hvl : v.cells.toList.length = s := by simpa using hv
    simp only [List.length_cons] at hlen
    have h0 : (i + 1) * s ≤ cells.length := Nat.le_trans (Nat.mul_le_mul_right s (by omega)) hlen
    rw [Nat.add_mul, Nat.one_mul] at h0
    obtain ⟨cells', h1, h2, h3, h4⟩ := fill_consec vs (i + 1) (setV cells (i * s) v.cells.toList) (fun v hv => hsz v (List.mem_cons_of_mem _ hv)) (by rw [setV_length]; rw [show i + 1 + vs.length = i + (vs.length + 1) by omega]; exact hlen)
    refine ⟨cells', ?_, by rw [h2, setV_length], ?_, ?_⟩
    · simp only [List.zipIdx_cons, List.map_cons, Instr.fill]
      have : ¬ (v.cells.size ≠ s || i * s + v.cells.size > (⟨cells⟩ : Array Value).size) = true := by
        simp [hv]; exact h0
      rw [if_neg this, fold_arr]
      exact h1
    · intro p hp
      rw [h3 p (by rw [Nat.add_mul]; omega), setV_get _ _ _ _ (by omega), if_neg (by omega)]
    · intro q u hq j x hj
      cases q with
      | zero =>
        simp at hq; subst hq
        have hjl : j < s := by rw [← hvl]; exact (List.getElem?_eq_some_iff.1 hj).1
        rw [Nat.add_zero, h3 _ (by rw [Nat.add_mul]; omega), setV_get _ _ _ _ (by omega), if_pos (by omega)]
        rw [show i * s + j - i * s = j by omega]; exact hj
      | succ q =>
        have := h4 q u (by simpa using hq) j x hj
        rw [show i + (q + 1) = i + 1 + q by omega]; exact this

theorem partsL_ok {G : Sig} : ∀ (parts : List (Nat × PV)) (i : Nat) (xs : List PV) (pv : List (Nat × Value)), partsL i parts = some xs → RepParts G L η w parts pv →
    ∃ vs : List Value, pv = (vs.zipIdx i).map (fun p => (p.2, p.1)) ∧ RepVs G L η w xs vs ∧ vs.length = xs.length
  | [], i, xs, pv, h, hr => by
    simp [partsL] at h; subst h
    simp only [RepParts] at hr; subst hr
    exact ⟨[], rfl, rfl, rfl⟩
  | (j, x) :: parts, i, xs, pv, h, hr => by
    simp only [partsL] at h
    split at h
    · rename_i hij
      subst hij
      obtain ⟨xs', h1, rfl⟩ := Option.map_eq_some_iff.1 h
      obtain ⟨v, r, rfl, hx, hr⟩ := hr
      obtain ⟨vs, rfl, q1, q2⟩ := partsL_ok parts (i + 1) xs' r h1 hr
      exact ⟨v :: vs, by simp [List.zipIdx_cons], ⟨v, vs, rfl, hx, q1⟩, by simp [q2]⟩
    · cases h

theorem repFs_length {I : Ids} {M : Nat → Prop} : ∀ {xs : List PV} {vs : List Value}, RepFs I M w xs vs → vs.length = xs.length
  | [], vs, h => by simp only [RepFs] at h; subst h; rfl
  | x :: xs, vs, h => by
    obtain ⟨v, r, rfl, _, h⟩ := h
    simp [repFs_length h]

theorem repFs_size {I : Ids} {M : Nat → Prop} {e : TypeId} {s : Nat} (hs : ∀ y : (K e).α, ((K e).enc y).cells.length = s) : ∀ {zs : List (K e).α} {vs : List Value}, RepFs I M w (zs.map (K e).enc) vs → ∀ v, v ∈ vs → v.cells.size = s
  | [], vs, h, v, hv => by simp only [List.map_nil, RepFs] at h; subst h; simp at hv
  | z :: zs, vs, h, v, hv => by
    obtain ⟨u, r, rfl, ⟨h1, _⟩, h⟩ := h
    rcases List.mem_cons.1 hv with rfl | hv
    · have := h1.length; rw [hs] at this; simpa using this
    · exact repFs_size hs h v hv

theorem row_of_laid {G : Sig} {M : Nat → Prop} {e : TypeId} {s : Nat} (h0 : 0 < s) (hs : ∀ y : (K e).α, ((K e).enc y).cells.length = s) {zs : List (K e).α} {vs : List Value} (hr : RepFs G.I M w (zs.map (K e).enc) vs)
    {cells : Array Value} (hlen : zs.length * s ≤ cells.size) (hl : ∀ (q : Nat) (v : Value), vs[q]? = some v → ∀ (j : Nat) (u : Value), v.cells.toList[j]? = some u → cells[q * s + j]? = some u) : RowRel G M w s (K e) zs cells := by
  refine ⟨h0, hlen, fun i x hi => ?_⟩
  obtain ⟨v, v1, v2, v3⟩ := lay_rows h0 zs vs hr (repFs_size hs hr) i x hi
  exact ⟨v.cells.toList, v2, v3, hl i v v1⟩

theorem evBuildSlice_ok (hc : CfgOk C) (hr : RelT C (sig C X) N env L η w a) {t : TypeId} {n : Nat} {parts : List (Nat × PV)} {pv : List (Nat × Value)} (hv : RepParts (sig C X) L η w parts pv) {k : K1 K}
    (h : evBuildSlice C t n parts env L k) : ∃ v w', (Instr.buildSlice t n ⟨pv⟩).run C.P w = .ok v w' ∧ Res C X N L η w a [] k v w' := by
  unfold evBuildSlice at h
  split at h
  · rename_i e _ _ _ _ _ ht
    have hu : C.P.underlying t = some (.slice e) := (hc.ty t _ ht).desc
    split at h
    · rename_i ie xs he hcod hpl
      split at h
      · rename_i ys hlend
        · obtain ⟨hq, zs, hdec, hk⟩ := chk_iff h
          simp only [Bool.and_eq_true] at hq
          have hlen := Nat.eq_of_beq_eq_true hq.1.1
          have hmax := Nat.le_of_ble_eq_true hq.1.2
          have hpos : 0 < ie.size := Nat.le_of_ble_eq_true hq.2
          obtain ⟨vs, rfl, hvs, hvl⟩ := partsL_ok parts 0 xs pv hpl hv
          have hF := lendAll_ok hr.heap _ _ _ _ hlend hvs (gone_off hr.heap (xs.flatMap (reach L depth)))
          rw [← hdec] at hF
          have hcs := hc.codsz e ie hcod he
          have hsz := (hc.ty e ie he).size w
          have hco := (hc.ty e ie he).cellsOf
          obtain ⟨inf, i1, i2, i3, zv, i4, i5, i6⟩ := (hc.ty e ie he).info
          have hzl : zs.length = n := by
            have := repFs_length hF; simp at this; omega
          have hinit : ∀ (z : Array Value), ((Array.range (n * ie.size)).map (fun i => z[i % z.size]!)).toList.length = n * ie.size := by intro z; simp
          obtain ⟨z0, hz0⟩ : ∃ z0 : Array Value, z0 = if n * ie.size = 0 then #[] else zv.cells := ⟨_, rfl⟩
          obtain ⟨cells', f1, f2, f3, f4⟩ := fill_consec (s := ie.size) vs 0 ((Array.range (n * ie.size)).map (fun i => z0[i % z0.size]!)).toList (repFs_size hcs hF) (by rw [hinit]; simp; rw [hvl, hlen]; exact Nat.le_refl _)
          rw [hinit] at f2
          have hgf := gone_fwd (L := L) (η := η) (w := w) (xs.flatMap (reach L depth))
          have hgh := gone_heap hr.heap (xs.flatMap (reach L depth))
          have hrow : RowRel (sig C X) (Mx (sig C X) (goneAll (xs.flatMap (reach L depth)) L) η) w ((sig C X).sz e) (K e) zs ⟨cells'⟩ := by
            show RowRel _ _ _ (C.P.cellsOf e) _ _ _
            rw [hco]
            refine row_of_laid hpos hcs hF (by simp [f2, hzl]) ?_
            intro q v hq j u hj
            have := f4 q v hq j u hj
            rw [Nat.zero_add] at this
            simpa using this
          obtain ⟨pf, ph⟩ := push_row hgh (More.alloc w (.cells ⟨cells'⟩ e)) e zs w.heap.size ⟨cells'⟩ (Nat.le_refl _) (heap_new w _) hrow
          refine ⟨.slice (some ⟨w.heap.size, 0, none⟩) n n, w.alloc (.cells ⟨cells'⟩ e), ?_, res_mk hr .alloc hk (hgf.trans0 pf) ph (repV_mk rfl rfl ⟨by simp, ⟨_, rfl, rfl⟩, ?_⟩)⟩
          · have h24 : ¬ (n * ie.size > 2 ^ 24) := by
              have : (2 : Nat) ^ 24 = 16777216 := by decide
              omega
            have f1' : Instr.fill (fun i => some (i * ie.size, ie.size)) ((Array.range (n * ie.size)).map (fun i => z0[i % z0.size]!)) (vs.zipIdx.map fun p => (p.2, p.1)) = some ⟨cells'⟩ := f1
            simp only [Instr.buildSlice, Sem.run_bind, run_underlying hu, Result.andThen, hsz, h24, if_false]
            by_cases hz : n * ie.size = 0
            · obtain rfl : z0 = #[] := by rw [hz0, if_pos hz]
              rw [if_pos hz]
              simp only [Sem.run_bind, Sem.run_pure, Result.andThen, f1', newRow]
              rfl
            · obtain rfl : z0 = zv.cells := by rw [hz0, if_neg hz]
              rw [if_neg hz]
              simp only [Sem.run_bind, Sem.run_pure, run_zeroValue' i1 i4, Result.andThen, f1', newRow]
              rfl
          · intro e' xs' hL
            simp at hL
            obtain ⟨rfl, hL⟩ := hL
            cases hL
            refine ⟨some ⟨w.heap.size, 0, none⟩, n, by rw [hzl], by omega, .inr ⟨w.heap.size, ⟨cells'⟩, e, (0, 0), upd_same _ _ _, rfl, heap_new w _, ?_⟩⟩
            show n * C.P.cellsOf e ≤ _
            rw [hco]; simp [f2]
      · exact h.elim
    · exact h.elim
  · exact h.elim
end Go.Ab
