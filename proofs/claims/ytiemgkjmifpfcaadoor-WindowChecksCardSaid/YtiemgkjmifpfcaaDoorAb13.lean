import Derived.Test.YtiemgkjmifpfcaaDoorAb12
import Derived.Laws.Append
import Derived.Laws.AppendOwn
import Derived.Laws.BytesString
set_option linter.unusedVariables false
set_option linter.unusedSimpArgs false
namespace Go.Ab
open Go
variable {K : Codes} {C : Cfg K} {X : Nat → Prop} {N : Nat} {env : List PV} {L : Heap K} {η : Eta} {w : World} {a : Act}

/-- A row gets a new block. -/
theorem grow_fwd {w' : World} {bad : Nat → Bool} (h : More w w') {o : Nat} {e : TypeId} {xs xs' : List (K e).α}
    (ho : L[o]? = some (.row e xs)) (hb : bad o = true) (nb : Option Nat) (hnb : ∀ b, nb = some b → w.heap.size ≤ b ∨ η o = some b) :
    Fwd L η w ((renL (butB bad) L).set o (.row e xs')) (upd η o nb) w' bad where
  os := h.os
  tape := h.tape
  output := h.output
  size := h.size
  keep := fun b hb _ => h.keep b hb
  muts := by
    rintro i ⟨p, y, h1, h2, h3⟩
    rcases set_get _ L o _ p y h1 with ⟨rfl, _, rfl⟩ | ⟨hne, z, h4, rfl⟩
    · rw [upd_same] at h3
      rcases hnb i h3 with q | q
      · exact .inr q
      · exact .inl ⟨p, _, ho, rfl, q⟩
    · rw [upd_ne _ _ hne] at h3
      exact .inl ⟨p, z, h4, by rw [← renO_live]; exact h2, h3⟩
  len := by simp [renL_length]
  box := by
    intro p cs' hp hL
    rcases set_get _ L o _ p _ hL with ⟨rfl, _, hx⟩ | ⟨hne, z, h4, hx⟩
    · cases hx
    · cases z with
      | box cs => exact ⟨cs, h4, upd_ne _ _ hne⟩
      | row e xs => cases hx
      | gone => cases hx
  kind := by
    intro p e' xs' hp hL
    rcases set_get _ L o _ p _ hL with ⟨rfl, _, hx⟩ | ⟨_, z, h4, hx⟩
    · cases hx; exact ⟨xs, ho⟩
    · cases z with
      | row e xs => cases hx; exact ⟨_, h4⟩
      | box cs => cases hx
      | gone => cases hx
  row := by
    intro p e' xs' hp hbad hL
    rcases set_get _ L o _ p _ hL with ⟨rfl, _, hx⟩ | ⟨hne, z, h4, hx⟩
    · rw [hbad] at hb; cases hb
    · cases z with
      | row e xs => cases hx; exact ⟨_, h4, rfl, upd_ne _ _ hne, fun b cells t fr _ hb => ⟨cells, t, fr, h.blk hb, rfl⟩⟩
      | box cs => cases hx
      | gone => cases hx
  trk := by
    intro p b hp hb
    by_cases hpo : p = o
    · subst hpo
      rw [upd_same] at hb
      rcases hnb b hb with q | q
      · exact .inr q
      · exact .inl q
    · rw [upd_ne _ _ hpo] at hb; exact .inl hb

theorem grow_heap {G : Sig} {w' : World} {bad : Nat → Bool} (hh : HeapRel G L η w) (h : More w w') {o : Nat} {e : TypeId} {xs xs' : List (K e).α}
    (ho : L[o]? = some (.row e xs)) (hb : bad o = true) (nb : Option Nat) (hnb : ∀ b, nb = some b → w.heap.size ≤ b ∨ η o = some b)
    (hx : ObjRel G ((renL (butB bad) L).set o (.row e xs')) (upd η o nb) w' o (.row e xs')) : HeapRel G ((renL (butB bad) L).set o (.row e xs')) (upd η o nb) w' := by
  have hf := grow_fwd (xs' := xs') h ho hb nb hnb
  have hm := hf.moves (C := G) (fun b hb => (hh.ext b hb).1)
  refine ⟨?_, ?_, ?_, ?_⟩
  · intro p y hL
    rcases set_get _ L o _ p y hL with ⟨rfl, _, rfl⟩ | ⟨hne, z, h4, rfl⟩
    · exact hx
    · cases hz : z.live with
      | false => cases z <;> first | exact trivial | cases hz
      | true =>
        exact (hh.obj p z h4).mono hm (upd_ne _ _ hne) (fun i hi => h.keep i ((hh.obj p z h4).lt hz hi))
  · have key : ∀ (q : Nat) (z : AObj K) (i : Nat), ((renL (butB bad) L).set o (.row e xs'))[q]? = some z → z.live = true → upd η o nb q = some i → q ≠ o → ∃ z0 : AObj K, L[q]? = some z0 ∧ z0.live = true ∧ η q = some i := by
      intro q z i hq hz hi hne
      rcases set_get _ L o _ q z hq with ⟨rfl, _, rfl⟩ | ⟨_, z0, h7, rfl⟩
      · exact absurd rfl hne
      · exact ⟨z0, h7, by rw [← renO_live]; exact hz, by rw [upd_ne _ _ hne] at hi; exact hi⟩
    have side : ∀ (q : Nat) (z : AObj K) (i : Nat), ((renL (butB bad) L).set o (.row e xs'))[q]? = some z → z.live = true → upd η o nb q = some i → nb = some i → q = o := by
      intro q z i hq hz hi hn
      by_cases hne : q = o
      · exact hne
      · obtain ⟨z0, g1, g2, g3⟩ := key q z i hq hz hi hne
        rcases hnb i hn with q' | q'
        · have := (hh.obj q z0 g1).lt g2 g3; omega
        · exact hh.inj q o z0 _ i g1 ho g2 rfl g3 q'
    intro p p' y y' i h1 h2 h3 h4 h5 h6
    by_cases hp : p = o
    · have : nb = some i := by rw [hp, upd_same] at h5; exact h5
      rw [hp]; exact (side p' y' i h2 h4 h6 this).symm
    · by_cases hp' : p' = o
      · have : nb = some i := by rw [hp', upd_same] at h6; exact h6
        rw [hp']; exact side p y i h1 h3 h5 this
      · obtain ⟨z, g1, g2, g3⟩ := key p y i h1 h3 h5 hp
        obtain ⟨z', g4, g5, g6⟩ := key p' y' i h2 h4 h6 hp'
        exact hh.inj p p' z z' i g1 g4 g2 g5 g3 g6
  · intro i hi
    refine ⟨Nat.lt_of_lt_of_le (hh.ext i hi).1 h.size, fun q => ?_⟩
    rcases hf.muts i q with q | q
    · exact (hh.ext i hi).2 q
    · exact absurd (hh.ext i hi).1 (by omega)
  · intro p hp
    have hlt := (List.getElem?_eq_some_iff.1 ho).1
    simp [renL_length] at hp
    rw [upd_ne _ _ (by omega)]
    exact hh.none p hp

def isO (o : Nat) : Nat → Bool := fun p => p == o
theorem but_isO (o : Nat) : butB (isO o) = but o := rfl
theorem isO_self (o : Nat) : isO o o = true := by simp [isO]
theorem isO_row {o : Nat} {e : TypeId} {xs : List (K e).α} (ho : L[o]? = some (.row e xs)) : ∀ p, isO o p = true → isRow L p = true := by
  intro p hp
  simp [isO] at hp; subst hp
  simp [isRow, ho]

/-- A row told anew. -/
theorem row_res {tl : List Nat} (hr : RelT C (sig C X) N env L η w a) {w' : World} {η' : Eta} {o : Nat} {e : TypeId} {xs xs' : List (K e).α} (ho : L[o]? = some (.row e xs)) (hkp : Kept η w w' tl)
    (hf : Fwd L η w ((renL (but o) L).set o (.row e xs')) η' w' (isO o)) (hh : HeapRel (sig C X) ((renL (but o) L).set o (.row e xs')) η' w') {v : Value}
    (hv : RepV (sig C X) ((renL (but o) L).set o (.row e xs')) η' w' (.own o) v) {k : K1 K} (h : k (.own o) (renE (but o) env) ((renL (but o) L).set o (.row e xs'))) :
    Res C X N L η w a tl k v w' :=
  ⟨.own o, _, _, η', h, hv, hr.step hf hh, ⟨isO o, hf, isO_row ho⟩, hkp⟩

def RepO (G : Sig) (L : Heap K) (η : Eta) (w : World) : Option PV → Option Value → Prop
  | none, v => v = none
  | some x, v => ∃ u, v = some u ∧ RepV G L η w x u

theorem run_bound {G : Sig} {x : Option PV} {v : Option Value} (hx : RepO G L η w x v) {d n : Int} (h : bound x d = some n) {y : Nat} (h0 : 0 ≤ n) (h1 : n ≤ y) :
    (v = none ∧ n = d) ∨ ∃ u, v = some u ∧ ∀ P code, (Instr.sliceBound u y code).run P w = .ok n.toNat w := by
  unfold bound at h
  split at h
  · cases h; exact .inl ⟨hx, rfl⟩
  · cases h
    obtain ⟨u, rfl, hu⟩ := hx
    obtain rfl := repV_int hu
    exact .inr ⟨_, rfl, fun P code => by simp [Instr.sliceBound, asIntOf, h0, h1, Result.andThen]⟩
  · cases h

theorem run_bounds {G : Sig} {lo hi : Option PV} {lv hv : Option Value} (hlo : RepO G L η w lo lv) (hhi : RepO G L η w hi hv) {len cap : Nat} {l h : Int} (h1 : bound lo 0 = some l) (h2 : bound hi len = some h)
    (h0 : 0 ≤ l) (hlh : l ≤ h) (hcap : h ≤ cap) {P : Program} (b : Bool) : (Instr.sliceBounds b len cap lv hv none).run P w = .ok (l.toNat, h.toNat, cap) w := by
  rcases run_bound hhi h2 (y := cap) (by omega) hcap with ⟨rfl, rfl⟩ | ⟨u, rfl, hu⟩
  · rcases run_bound hlo h1 (y := len) h0 (by omega) with ⟨rfl, rfl⟩ | ⟨u, rfl, hu⟩
    · simp [Instr.sliceBounds, Result.andThen]
    · simp [Instr.sliceBounds, Result.andThen, hu]
  · rcases run_bound hlo h1 (y := h.toNat) h0 (by omega) with ⟨rfl, rfl⟩ | ⟨u', rfl, hu'⟩
    · simp [Instr.sliceBounds, Result.andThen, hu]
    · simp [Instr.sliceBounds, Result.andThen, hu, hu']

theorem run_bounds3 {G : Sig} {hi : Option PV} {hv : Option Value} {mx : PV} {mv : Option Value} (hhi : RepO G L η w hi hv) (hmx : RepO G L η w (some mx) mv) {kd : IntKind} (hm : mx = .int kd 0) {len cap : Nat} {b : Bool} (h2 : bound hi 1 = some 0) {P : Program} :
    (Instr.sliceBounds b len cap none hv mv).run P w = .ok (0, 0, 0) w := by
  subst hm
  obtain ⟨u, rfl, hu⟩ := hmx
  obtain rfl := repV_int hu
  rcases run_bound hhi h2 (y := 0) (by omega) (by omega) with ⟨_, q⟩ | ⟨u, rfl, hu⟩
  · cases q
  · have hs : ∀ code, (Instr.sliceBound (.int kd 0) cap code).run P w = .ok 0 w := by intro code; simp [Instr.sliceBound, asIntOf, Result.andThen]
    simp [Instr.sliceBounds, Result.andThen, hu, hs]

theorem td_und {t e : TypeId} (hc : CfgOk C) (h : C.td t = .slice e) : C.P.underlying t = some (.slice e) := by
  unfold Cfg.td at h
  split at h
  · rename_i i hi; have := (hc.ty t i hi).desc; rw [h] at this; exact this
  · cases h
theorem td_str {t : TypeId} (hc : CfgOk C) (h : C.td t = .str) : C.P.underlying t = some .string := by
  unfold Cfg.td at h
  split at h
  · rename_i i hi; have := (hc.ty t i hi).desc; rw [h] at this; exact this
  · cases h

theorem evSlice_ok (hc : CfgOk C) (hr : RelT C (sig C X) N env L η w a) {t : TypeId} {x : PV} {u : Value} {lo hi mx : Option PV} {lv hv mv : Option Value} (hx : RepV (sig C X) L η w x u)
    (hlo : RepO (sig C X) L η w lo lv) (hhi : RepO (sig C X) L η w hi hv) (hmx : RepO (sig C X) L η w mx mv) {k : K1 K} (h : evSlice C t x lo hi mx env L k) :
    ∃ v w', (Instr.sliceAt t u lv hv mv).run C.P w = .ok v w' ∧ Res C X N L η w a [] k v w' := by
  unfold evSlice at h
  split at h
  · rename_i htd
    have hu := td_str hc htd
    split at h
    · rename_i s
      obtain rfl := repV_str hx
      obtain rfl : mv = none := hmx
      split at h
      · rename_i l hh h1 h2
        obtain ⟨⟨q1, q2, q3⟩, hk⟩ := h
        refine ⟨.string (s.extract l.toNat hh.toNat), w, ?_, res_mk hr .same hk (Fwd.refl _ _ _ _) hr.heap (rv_str _)⟩
        have := run_bounds hlo hhi h1 h2 q1 q2 q3 (P := C.P) false
        simp [Instr.sliceAt, Instr.slice, run_underlying hu, Result.andThen, this]
      · exact h.elim
    · exact h.elim
  · rename_i e htd
    have hu := td_und hc htd
    split at h
    · rename_i ie hie
      have hsz := (hc.ty e ie hie).size w
      split at h
      · obtain rfl : mv = none := hmx
        split at h
        · rename_i α enc xs
          split at h
          · rename_i l hh h1 h2
            obtain ⟨hlen, ⟨q1, q2, q3⟩, hk⟩ := h
            obtain ⟨_, hq⟩ := repV_one hx (by simp) rfl
            obtain ⟨A, cap, hA, hcap, hq⟩ := hq
            simp at hA; subst hA
            have hb := run_bounds hlo hhi h1 h2 q1 q2 (cap := cap) (by omega) (P := C.P) true
            refine ⟨.slice (if cap = l.toNat then A else A.map (·.add (l.toNat * ie.size))) (hh.toNat - l.toNat) (cap - l.toNat), w, ?_, res_mk hr .same hk (Fwd.refl _ _ _ _) hr.heap (repV_mk rfl rfl ?_)⟩
            · simp [Instr.sliceAt, Instr.slice, run_underlying hu, Result.andThen, hb, hsz]
            · have hl : ((xs.take hh.toNat).drop l.toNat).length = hh.toNat - l.toNat := by simp; omega
              refine ⟨_, _, by rw [hl], by rw [hl]; omega, ?_⟩
              by_cases hz : hh.toNat - l.toNat = 0
              · left; exact List.eq_nil_of_length_eq_zero (by rw [hl]; exact hz)
              · right
                rcases hq with rfl | ⟨b, off, s, cells, ty, fr, rfl, hs, hM, hb, hel⟩
                · simp at q3; omega
                · have hss : s = ie.size := by
                    have h0 : 0 < xs.length := by omega
                    obtain ⟨cs, c1, c2, _⟩ := hel 0 xs[0] (List.getElem?_eq_getElem h0)
                    rw [← c1, c2.length, hlen _ (List.getElem_mem h0)]
                  subst hss
                  refine ⟨b, off + l.toNat * ie.size, ie.size, cells, ty, fr, ?_, hs, hM, hb, ?_⟩
                  · rw [if_neg (by omega)]; simp [add_plain']
                  · intro i y hi
                    rw [List.getElem?_drop, List.getElem?_take] at hi
                    split at hi
                    · obtain ⟨cs, c1, c2, c3⟩ := hel _ _ hi
                      refine ⟨cs, c1, c2, fun j v hj => ?_⟩
                      have := c3 j v hj
                      rw [Nat.add_mul] at this
                      rw [show off + l.toNat * ie.size + i * ie.size + j = off + (l.toNat * ie.size + i * ie.size) + j by omega]
                      exact this
                    · cases hi
          · exact h.elim
        · rename_i o
          split at h
          · rename_i e' xs _ hh hL
            obtain ⟨⟨q1, q2⟩, hk⟩ := h
            obtain ⟨_, hq⟩ := repV_one hx (by simp) rfl
            obtain ⟨hlt, _, hq⟩ := hq
            obtain ⟨A, cap, hA, hcap, hq2⟩ := hq e' xs hL
            simp at hA; subst hA
            obtain rfl : lv = none := hlo
            have hb := run_bounds (len := xs.length) (lo := none) (l := 0) rfl hhi rfl (show bound (some (.int _ hh)) _ = some hh from rfl) (Int.le_refl _) q1 (cap := cap) (by omega) (P := C.P) true
            have hl : (xs.take hh.toNat).length = hh.toNat := by simp; omega
            have hA0 : A.map (fun a => a.add (0 * ie.size)) = A := by
              cases A with
              | none => rfl
              | some a => simp [Addr.add]
            refine ⟨.slice A hh.toNat cap, w, ?_, ?_⟩
            · simp only [Instr.sliceAt, Instr.slice, Sem.run_bind, run_underlying hu, Result.andThen, hb, hsz, Sem.run_pure, Int.toNat_zero, Nat.sub_zero, hA0, ite_self]
            · have hf : Fwd L η w ((renL (but o) L).set o (.row e' (xs.take hh.toNat))) (upd η o (η o)) w (isO o) := grow_fwd (More.refl w) hL (isO_self o) (η o) (fun b hb => .inr hb)
              have hobj : ObjRel (sig C X) ((renL (but o) L).set o (.row e' (xs.take hh.toNat))) (upd η o (η o)) w o (.row e' (xs.take hh.toNat)) := by
                rcases hr.heap.obj o _ hL with ⟨g1, g2⟩ | ⟨b, cells, g1, g2, g3⟩
                · left; subst g1; exact ⟨by simp, by rw [upd_same]; exact g2⟩
                · right
                  obtain ⟨g3, g4, g5⟩ := g3.fwd hf hr.heap
                  refine ⟨b, cells, by rw [upd_same]; exact g1, g2, g3, Nat.le_trans (Nat.mul_le_mul_right _ (by rw [hl]; omega)) g4, ?_⟩
                  intro i x hi
                  rw [List.getElem?_take] at hi
                  split at hi
                  · exact g5 i x hi
                  · cases hi
              refine row_res hr hL .same hf (grow_heap hr.heap (More.refl w) hL (isO_self o) (η o) (fun b hb => .inr hb) hobj) (repV_mk rfl rfl ⟨by simp [renL_length]; exact hlt, ⟨_, rfl, rfl⟩, ?_⟩) hk
              intro e2 xs2 hL2
              rw [List.getElem?_set_self (by simp [renL_length]; exact hlt)] at hL2
              cases hL2
              refine ⟨A, cap, by rw [hl], by rw [hl]; omega, ?_⟩
              rw [upd_same]; exact hq2
          · exact h.elim
        · exact h.elim
      · rename_i kd m
        split at h
        · rename_i hh hb2 hcod
          obtain rfl : lv = none := hlo
          have hmk : ∀ A len cap, u = .slice A len cap → m = 0 → hh = 0 → k (.own L.length) env (L ++ [.row e []]) → ∃ v w', (Instr.sliceAt t u none hv mv).run C.P w = .ok v w' ∧ Res C X N L η w a [] k v w' := by
            intro A len cap hA hm0 hh0 hk
            subst hA hm0 hh0
            obtain ⟨pf, ph⟩ := push_nil hr.heap e
            have hb := run_bounds3 (len := len) (cap := cap) (b := true) hhi hmx rfl hb2 (P := C.P)
            refine ⟨.slice A 0 0, w, ?_, res_mk hr .same hk pf ph (repV_mk rfl rfl ⟨by simp, ⟨_, rfl, rfl⟩, ?_⟩)⟩
            · simp [Instr.sliceAt, Instr.slice, run_underlying hu, Result.andThen, hb, hsz]
            · intro e2 xs2 hL2
              simp at hL2
              obtain ⟨rfl, hL2⟩ := hL2
              cases hL2
              exact ⟨A, 0, rfl, Nat.le_refl _, .inl rfl⟩
          split at h
          · obtain ⟨⟨rfl, rfl⟩, hk⟩ := h
            obtain ⟨_, hq⟩ := repV_one hx (by simp) rfl
            obtain ⟨A, cap, hA, _, _⟩ := hq
            simp at hA
            exact hmk _ _ _ hA rfl rfl hk
          · rename_i o
            split at h
            · rename_i e' xs hL
              obtain ⟨⟨rfl, rfl⟩, hk⟩ := h
              obtain ⟨_, hq⟩ := repV_one hx (by simp) rfl
              obtain ⟨hlt, _, hq⟩ := hq
              obtain ⟨A, cap, hA, _, _⟩ := hq e' xs hL
              simp at hA
              exact hmk _ _ _ hA rfl rfl hk
            · exact h.elim
          · exact h.elim
        · exact h.elim
      · exact h.elim
    · exact h.elim
  · exact h.elim
end Go.Ab
