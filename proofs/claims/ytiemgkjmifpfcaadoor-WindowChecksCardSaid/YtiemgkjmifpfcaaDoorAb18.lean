import Derived.Test.YtiemgkjmifpfcaaDoorAb17
set_option linter.unusedVariables false
set_option linter.unusedSimpArgs false
namespace Go.Ab
open Go
variable {K : Codes} {C : Cfg K} {X : Nat → Prop} {N : Nat} {env : List PV} {L : Heap K} {η : Eta} {w : World} {a : Act}

theorem Fwd.weak {L' : Heap K} {η' : Eta} {w' : World} {bad bad' : Nat → Bool} (h : Fwd L η w L' η' w' bad) (hb : ∀ o, bad' o = false → bad o = false) : Fwd L η w L' η' w' bad' :=
  ⟨h.os, h.tape, h.output, h.size, h.keep, h.muts, h.len, h.box, h.kind, fun o e xs ho hbad hL => h.row o e xs ho (hb o hbad) hL, h.trk⟩

/-- From the start on. -/
def FwdR (L0 : Heap K) (η0 : Eta) (w0 : World) (L : Heap K) (η : Eta) (w : World) : Prop := Fwd L0 η0 w0 L η w (isRow L0)

def FwdB (L : Heap K) (η : Eta) (w : World) (L' : Heap K) (η' : Eta) (w' : World) : Prop := ∃ bad, Fwd L η w L' η' w' bad ∧ ∀ o, bad o = true → isRow L o = true

theorem FwdR.refl (L : Heap K) (η : Eta) (w : World) : FwdR L η w L η w := Fwd.refl _ _ _ _
theorem FwdB.refl (L : Heap K) (η : Eta) (w : World) : FwdB L η w L η w := ⟨noBad, Fwd.refl _ _ _ _, fun o h => by cases h⟩

theorem FwdR.step {L0 : Heap K} {η0 : Eta} {w0 : World} {L' : Heap K} {η' : Eta} {w' : World} (h : FwdR L0 η0 w0 L η w) (k : FwdB L η w L' η' w') : FwdR L0 η0 w0 L' η' w' := by
  obtain ⟨bad, k, hb⟩ := k
  refine Fwd.trans h k fun o ho hr => ⟨hr, ?_⟩
  cases hbo : bad o with
  | false => rfl
  | true =>
    exfalso
    have := hb o hbo
    unfold isRow at this hr
    split at this
    · rename_i e xs hL
      obtain ⟨xs0, h0⟩ := h.kind o e xs ho hL
      rw [h0] at hr; cases hr
    · cases this

theorem FwdR.more {L0 : Heap K} {η0 : Eta} {w0 w' : World} (h : More w0 w') : FwdR L0 η0 w0 L0 η0 w' := (Fwd.more h).weak fun _ _ => rfl

theorem set_same {env : List PV} {d : Nat} {x : PV} (h : env[d]? = some x) : env.set d x = env := by
  apply List.ext_getElem?
  intro i
  rw [List.getElem?_set]
  split
  · rename_i hdi; subst hdi
    split
    · exact h.symm
    · rename_i hlt; rw [List.getElem?_eq_none (by omega)] at h; cases h
  · rfl

theorem rel_tmp (hr : RelT C (sig C X) N env L η w a) {d : Nat} {x : PV} (h : env[d]? = some x) : ∃ v, a.tmps[d]? = some v ∧ RepV (sig C X) L η w x v := by
  have hlt : d < a.tmps.size := by
    rw [hr.size, ← hr.elen]
    exact (List.getElem?_eq_some_iff.1 h).1
  have := hr.tmp d x h
  rw [Array.getD_eq_getD_getElem?, Array.getElem?_eq_getElem hlt] at this
  exact ⟨_, Array.getElem?_eq_getElem hlt, this⟩

theorem rel_skip (hr : RelT C (sig C X) N env L η w a) (d : Option Tmp) : RelT C (sig C X) N (putE env d (.tup [])) L η w (a.put d undef) :=
  hr.put (.inr ⟨rfl, ⟨[], rfl, rfl⟩⟩)

/-- What is known of an operation under its guard: it is carried out, or it is passed. -/
theorem step_cases (hr : RelT C (sig C X) N env L η w a) {ops : Array Oper} {o : Oper} {q : List PV → Heap K → Bool} {k : List PV → Heap K → Prop} (h : evStep C ops q o env L k) :
    (Region.wanted o (yielded ops a.tmps) = true ∧ q env L = true ∧ evOp C o env L fun x env' L' => k (putE env' o.dst x) L') ∨
    (Region.wanted o (yielded ops a.tmps) = false ∧ k (putE env o.dst (.tup [])) L) := by
  unfold evStep at h
  split at h
  · rename_i hg
    obtain ⟨h1, h2⟩ := chk_iff h
    exact .inl ⟨by simp [Region.wanted, hg], h1, h2⟩
  · rename_i j want hg
    split at h
    · rename_i d hd
      split at h
      · rename_i b hb
        obtain ⟨v, hv, hrv⟩ := rel_tmp hr hb
        obtain rfl := repV_bool hrv
        have hy : yielded ops a.tmps j = some b := by simp [yielded, hd, hv]
        have hw : Region.wanted o (yielded ops a.tmps) = (b == want) := by
          simp only [Region.wanted, hg, hy]
          cases b <;> cases want <;> rfl
        rw [hw]
        cases b with
        | true =>
          rw [set_same hb] at h
          cases want with
          | true => obtain ⟨h1, h2⟩ := chk_iff h; exact .inl ⟨rfl, h1, h2⟩
          | false => exact .inr ⟨rfl, h⟩
        | false =>
          rw [set_same hb] at h
          cases want with
          | false => obtain ⟨h1, h2⟩ := chk_iff h; exact .inl ⟨rfl, h1, h2⟩
          | true => exact .inr ⟨rfl, h⟩
      · rename_i cs hb
        obtain ⟨v, hv, hrv⟩ := rel_tmp hr hb
        obtain ⟨_, hq⟩ := repV_one hrv (by simp) rfl
        obtain ⟨vs, hvs, _⟩ := hq
        simp at hvs; subst hvs
        have hy : yielded ops a.tmps j = none := by simp [yielded, hd, hv]
        exact .inr ⟨by simp [Region.wanted, hg, hy], h⟩
      · exact h.elim
    · exact h.elim

/-- One operation, carried out or passed. -/
theorem step_ok (he : EnvOk C) (hr : RelT C (sig C X) N env L η w a) {ops : Array Oper} {o : Oper} {i : Nat} (hi : ops[i]? = some o) {q : List PV → Heap K → Bool} {k : List PV → Heap K → Prop} (h : evStep C ops q o env L k)
    {T : Act → World → Prop} {Q : Exit → Act → World → Prop}
    (hT : ∀ env' L' η' w' a', k env' L' → RelT C (sig C X) N env' L' η' w' a' → FwdB L η w L' η' w' → (w' = w ∨ (q env L = true ∧ Kept η w w' (touchOp C o env L))) → T a' w') : wpOp C.P ops Q i T a w := by
  unfold wpOp
  rw [hi]
  rcases step_cases hr h with ⟨hw, hq, h⟩ | ⟨hw, h⟩
  · simp only [hw, if_true]
    refine .inl (OpRuns.wp (evOp_ok he hr h) fun v w' hres => ?_)
    obtain ⟨x, env', L', η', hk, hv, hr', hf, hkp⟩ := hres
    exact hT _ _ _ _ _ hk (hr'.put hv) hf (.inr ⟨hq, hkp⟩)
  · simp only [hw, Bool.false_eq_true, if_false]
    exact hT _ _ _ _ _ h (rel_skip hr _) (FwdB.refl _ _ _) (.inl rfl)

/-- What follows a stretch. -/
def Then (C : Cfg K) (X : Nat → Prop) (N : Nat) (L0 : Heap K) (η0 : Eta) (w0 : World) (k : List PV → Heap K → Prop) (T : Act → World → Prop) : Prop :=
  ∀ env L η w a, k env L → RelT C (sig C X) N env L η w a → FwdR L0 η0 w0 L η w → T a w

theorem evOps_ok (he : EnvOk C) {ops : Array Oper} {L0 : Heap K} {η0 : Eta} {w0 : World} {k : List PV → Heap K → Prop} {Q : Exit → Act → World → Prop} (hk : Then C X N L0 η0 w0 k (Q .normal)) :
    ∀ (l : List Nat) (env : List PV) (L : Heap K) (η : Eta) (w : World) (a : Act), evOps C ops l env L k → RelT C (sig C X) N env L η w a → FwdR L0 η0 w0 L η w → wpOps C.P ops Q l a w
  | [], env, L, η, w, a, h, hr, hf => hk env L η w a h hr hf
  | i :: l, env, L, η, w, a, h, hr, hf => by
    rw [wpOps_cons]
    simp only [evOps] at h
    split at h
    · rename_i o hi
      refine step_ok he hr hi h fun env' L' η' w' a' h' hr' hf' _ => ?_
      exact evOps_ok he hk l env' L' η' w' a' h' hr' (hf.step hf')
    · exact h.elim

/-- The memory that a drawn region leaves alone. -/
def Still (ts : List Nat) (η0 : Eta) (w0 w : World) : Prop := ∀ b, b < w0.heap.size → (∀ o, o ∈ ts → η0 o ≠ some b) → w.heap[b]? = w0.heap[b]?

structure DInv (C : Cfg K) (X : Nat → Prop) (ts : List Nat) (L0 : Heap K) (η0 : Eta) (w0 : World) (eff : Bool) (L : Heap K) (η : Eta) (w : World) : Prop where
  heap0 : HeapRel (sig C X) L0 η0 w0
  live : ∀ o, o ∈ ts → ∃ x, L0[o]? = some x ∧ x.live = true
  fwd : FwdR L0 η0 w0 L η w
  still : Still ts η0 w0 w
  same : eff = false → L = L0 ∧ η = η0 ∧ w = w0

theorem DInv.blk {ts : List Nat} {L0 : Heap K} {η0 : Eta} {w0 : World} {eff : Bool} (h : DInv C X ts L0 η0 w0 eff L η w) {p : PV} (hp : okAddr eff L0.length ts p = true) {b : Nat} (hb : b < w.heap.size) (hl : LoadBlk (sig C X) L η p b) :
    b < w0.heap.size ∧ ∀ o, o ∈ ts → η0 o ≠ some b := by
  have box : ∀ o (x : AObj K), x.live = true → L0[o]? = some x → η0 o = some b → ts.contains o = false → b < w0.heap.size ∧ ∀ o, o ∈ ts → η0 o ≠ some b := by
    intro o x hx hL hη ht
    refine ⟨h.heap0.lt ⟨o, x, hL, hx, hη⟩, fun o' ho' hη' => ?_⟩
    obtain ⟨y, hy, hyl⟩ := h.live o' ho'
    have := h.heap0.inj o o' x y b hL hy hx hyl hη hη'
    subst this
    simp [ho'] at ht
  cases p <;> simp only [okAddr] at hp <;> try (cases hp; done)
  case ptr o off =>
    rw [Bool.and_eq_true, Bool.not_eq_true'] at hp
    obtain ⟨⟨cs, hL⟩, hη⟩ := hl
    have hlt : o < L0.length := by have := hp.2; rwa [Nat.blt_eq] at this
    obtain ⟨cs0, h0, hη0⟩ := h.fwd.box o cs hlt hL
    exact box o _ rfl h0 (hη0 ▸ hη) hp.1
  case el x off =>
    obtain ⟨rfl, rfl, rfl⟩ := h.same (by simpa using hp)
    refine ⟨hb, fun o ho hη => hl (.inl ?_)⟩
    obtain ⟨y, hy, hyl⟩ := h.live o ho
    exact ⟨o, y, hy, hyl, hη⟩
  case oel o i off =>
    rw [Bool.and_eq_true, Bool.not_eq_true'] at hp
    obtain ⟨rfl, rfl, rfl⟩ := h.same (by simpa using hp.2)
    obtain ⟨⟨e, xs, hL⟩, hη⟩ := hl
    exact box o _ rfl hL hη hp.1

theorem take_ok (he : EnvOk C) (hr : RelT C (sig C X) N env L η w a) {ts : List Nat} {L0 : Heap K} {η0 : Eta} {w0 : World} {eff : Bool} (hd : DInv C X ts L0 η0 w0 eff L η w) {ops : Array Oper} {o : Oper}
    {k : List PV → Heap K → Prop} (h : evStep C ops (fun e _ => okTake C ts eff L0.length o e) o env L k) :
    ∃ v env', YieldsIf C.P ops (Still ts η0 w0) o v a ∧ k env' L ∧ RelT C (sig C X) N env' L η w (a.put o.dst v) := by
  rcases step_cases hr h with ⟨hw, hq, h⟩ | ⟨hw, h⟩
  · simp only [okTake, Bool.or_eq_true] at hq
    rcases hq with hq | hq
    · obtain ⟨v, x, h1, h2, h3⟩ := quiet_ok he hr hq h
      exact ⟨v, _, .inl ⟨hw, fun w1 _ => h1 w1⟩, h2, hr.put h3⟩
    · split at hq
      · rename_i t p hop
        simp only [evOp, hop] at h
        obtain ⟨u, x, b, h1, h2, h3, h4, h5⟩ := evLoad_ok (k := fun y => k (putE env o.dst y) L) he.cfg hr.heap (evX_ok hr p) h
        obtain ⟨q1, q2⟩ := hd.blk hq h4 h5
        refine ⟨u, _, .inl ⟨hw, fun w1 hS => ?_⟩, h2, hr.put h3⟩
        have := h1 w1 ((hS b q1 q2).trans (hd.still b q1 q2).symm)
        simp [execOp, hop, this, Result.andThen]
      · cases hq
  · exact ⟨undef, _, .inr ⟨hw, rfl⟩, h, rel_skip hr _⟩

theorem allR_mem {p : Nat → Prop} : ∀ {l : List Nat}, allR p l → ∀ i, i ∈ l → p i
  | [], _, i, hi => by simp at hi
  | [j], h, i, hi => by simp at hi; subst hi; exact h
  | j :: j2 :: r, h, i, hi => by
    obtain ⟨h1, h2⟩ := h
    rcases List.mem_cons.1 hi with rfl | hi
    · exact h1
    · exact allR_mem h2 i hi

theorem splitG_ok {k : List PV → Prop} : ∀ (ds : List Nat) (env : List PV), splitG ds env k → k env
  | [], _, h => h
  | d :: r, env, h => by
    simp only [splitG] at h
    split at h
    · rename_i b hb
      cases b with
      | true => rw [set_same hb] at h; exact splitG_ok r env h
      | false => rw [set_same hb] at h; exact splitG_ok r env h
    · exact splitG_ok r env h

theorem evDraw_ok (he : EnvOk C) {ops : Array Oper} (hns : Region.noSelect ops = true) {ts : List Nat} {L0 : Heap K} {η0 : Eta} {w0 : World} {k : List PV → Heap K → Prop} {Q : Exit → Act → World → Prop}
    (hQ : ∀ c a w, ¬ Q (.panic c) a w) (hk : Then C X N L0 η0 w0 k (Q .normal)) :
    ∀ (n : Nat) (eff : Bool) (listed : Array Bool) (env : List PV) (L : Heap K) (η : Eta) (w : World) (a : Act), evDraw C ops ts L0.length n eff listed env L k → RelT C (sig C X) N env L η w a → DInv C X ts L0 η0 w0 eff L η w →
      wpAnyH C.P .any ops Q (Still ts η0 w0) n listed a w
  | 0, eff, listed, env, L, η, w, a, h, hr, hd => by
    obtain ⟨h1, h2⟩ := chk_iff h
    refine ⟨?_, hk env L η w a h2 hr hd.fwd⟩
    show (List.range ops.size).filter (isReady ops listed) = []
    rw [List.filter_eq_nil_iff]
    intro i hi
    have := List.all_eq_true.1 h1 i hi
    simpa using this
  | n + 1, eff, listed, env, L, η, w, a, h, hr, hd => by
    simp only [evDraw] at h
    replace h := splitG_ok _ _ h
    split at h
    · rename_i i hfind
      have hcan := List.find?_some hfind
      have hmem := List.mem_of_find?_eq_some hfind
      unfold canTake at hcan
      split at h
      · rename_i o hi
        rw [hi] at hcan
        simp only [Bool.and_eq_true] at hcan
        obtain ⟨v, env', h1, h2, h3⟩ := take_ok he hr hd h
        refine wpAnyH_take hi hns hcan.2 ?_ (fun c a w hq => (hQ _ _ _ hq).elim) h1 hd.still (evDraw_ok he hns hQ hk n eff _ env' L η w _ h2 h3 hd)
        have : i ∈ Region.ready .any ops listed := List.mem_filter.2 ⟨hmem, hcan.1.1⟩
        simpa using this
      · exact h.elim
    · have all : ∀ rs, Region.ready .any ops listed = rs → (∀ i, i ∈ rs → (match ops[i]? with
          | some o => evStep C ops (fun e L => (touchOp C o e L).all ts.contains) o env L fun env' L' => evDraw C ops ts L0.length n true (listed.setIfInBounds i true) env' L' k
          | none => False)) → rs ≠ [] → wpAnyH C.P .any ops Q (Still ts η0 w0) (n + 1) listed a w := by
        intro rs hrs hall hne
        refine wpAnyH_all hrs hne fun i hi => ?_
        have h := hall i hi
        split at h
        · rename_i o hio
          refine step_ok he hr hio h fun env' L' η' w' a' h' hr' hf' hkp => ?_
          have hS : Still ts η0 w0 w' := by
            rcases hkp with rfl | ⟨hq, hkp⟩
            · exact hd.still
            · intro b hb hn
              rw [hkp b (Nat.lt_of_lt_of_le hb hd.fwd.size) ?_]
              · exact hd.still b hb hn
              · intro o' ho' hη'
                have hts : o' ∈ ts := by
                  have := List.all_eq_true.1 hq o' ho'
                  simpa using this
                obtain ⟨y, hy, _⟩ := hd.live o' hts
                rcases hd.fwd.trk o' b (List.getElem?_eq_some_iff.1 hy).1 hη' with q | q
                · exact hn o' hts q
                · omega
          exact ⟨hS, evDraw_ok he hns hQ hk n true _ env' L' η' w' a' h' hr' ⟨hd.heap0, hd.live, hd.fwd.step hf', hS, fun h => by cases h⟩⟩
        · exact h.elim
      split at h
      · rename_i hrs
        exact wpAnyH_done hrs (hk env L η w a h hr hd.fwd) _
      · rename_i rs hrs
        exact all _ rfl (fun i hi => allR_mem h i hi) hrs

theorem evRegion_ok (he : EnvOk C) (hm : C.P.follows .mixedOrders = true) {id : Nat} {ops : Array Oper} {draw : Bool} {touch : List Nat} {L0 : Heap K} {η0 : Eta} {w0 : World} {k : List PV → Heap K → Prop} {Q : Exit → Act → World → Prop}
    (hQ : ∀ c a w, ¬ Q (.panic c) a w) (hk : Then C X N L0 η0 w0 k (Q .normal)) (h : evRegion C ops draw touch env L k) (hr : RelT C (sig C X) N env L η w a) (hf : FwdR L0 η0 w0 L η w) : (Code.region id ops draw).wp C.P Q a w := by
  unfold evRegion at h
  split at h
  · exact wp_region (evOps_ok he hk _ env L η w a h hr hf)
  · obtain ⟨h1, h⟩ := chk_iff h
    rw [Bool.and_eq_true] at h1
    have hm1 : More w { w with drawn := w.drawn + 1 } := More.of_heap rfl rfl rfl rfl
    have hr1 := hr.more hm1
    refine wp_region_held (S := Still (touch ++ rowsFrom 0 L) η { w with drawn := w.drawn + 1 }) hm ?_
    refine evDraw_ok (L0 := L) (η0 := η) (w0 := { w with drawn := w.drawn + 1 }) he h1.1 hQ ?_ _ _ _ env L η _ a h hr1 ⟨hr1.heap, ?_, FwdR.refl _ _ _, fun _ _ _ => rfl, fun _ => ⟨rfl, rfl, rfl⟩⟩
    · intro env' L' η' w' a' hk' hr' hf'
      exact hk env' L' η' w' a' hk' hr' ((hf.step ⟨noBad, Fwd.more hm1, fun o h => by cases h⟩).step ⟨_, hf', fun o h => h⟩)
    · intro o ho
      have := List.all_eq_true.1 h1.2 o ho
      unfold liveAt at this
      split at this
      · rename_i x hx; exact ⟨x, hx, this⟩
      · cases this
end Go.Ab
