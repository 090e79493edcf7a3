import Derived.Test.YtajpmmjpkpgoeaaDoorAbB
import Derived.Laws.Entries
import Derived.Scope
import Derived.Laws.Strings
import Derived.Laws.StructEq
import Derived.Sort.Grow
import Derived.Deep.Draws
import Derived.Lib.LaidTab
import Derived.Sort.BigQuietIn
set_option linter.unusedVariables false
set_option linter.unusedSimpArgs false
set_option linter.unusedSectionVars false
namespace Go.Ab
open Go
variable [DMode] {K : Codes} {C : Cfg K} {X : Nat -> Prop} {N : Nat} {env : List PV} {L : Heap K} {η : Eta} {w : World} {a : Act}
theorem td_map (hc : CfgOk C) {t k e : TypeId} (h : C.td t = .map k e) : C.P.underlying t = some (.map k e) := by
 simp only [Cfg.td] at h
 cases hi : C.ty t with
 | none => rw [hi] at h; cases h
 | some i => rw [hi] at h; have := (hc.ty t i hi).desc; dsimp only at h; rw [h] at this; exact this
theorem find_mod (kd : IntKind) (n : Int) (val : Value) : ∀ (es : List MapEntry) (i j : Nat) (v : Value), Instr.findNow (.int kd) (.int kd n) es i = some (some (j, v)) ->
 i <= j /\ (∃ e, es[j - i]? = some e /\ e.key = .int kd n /\ e.val = v) /\
 ∀ m, Instr.findNow (.int kd) (.int kd m) (es.modify (j - i) fun e => { e with key := .int kd n, val := val }) i = if m = n then some (some (j, val)) else Instr.findNow (.int kd) (.int kd m) es i
 | [], i, j, v, h => by simp [Instr.findNow] at h
 | e :: es, i, j, v, h => by
  simp only [Instr.findNow] at h
  split at h
  ·rename_i hs
   simp at h
   obtain ⟨rfl, rfl⟩ := h
   have hk : e.key = .int kd n := by
    cases hk : e.key <;> rw [hk] at hs <;> simp [Instr.sameNow] at hs
    obtain ⟨rfl, rfl⟩ := hs; rfl
   refine ⟨Nat.le_refl _, ⟨e, by simp, hk, rfl⟩, fun m => ?_⟩
   rw [Nat.sub_self]
   simp only [List.modify_zero_cons, Instr.findNow, Instr.sameNow, if_true, hk]
   by_cases hm : m = n
   ·subst hm; simp
   ·have : (m == n) = false := by simpa using hm
    rw [this, if_neg hm]
  ·rename_i hs
   obtain ⟨h1, ⟨e1, g1, g2, g3⟩, h3⟩ := find_mod kd n val es (i + 1) j v h
   have hji : j - i = (j - (i + 1)) + 1 := by omega
   refine ⟨by omega, ⟨e1, by rw [hji]; simpa using g1, g2, g3⟩, fun m => ?_⟩
   rw [hji, List.modify_succ_cons]
   simp only [Instr.findNow]
   have hk : ∃ q, e.key = .int kd q /\ q ≠ n := by
    cases hk : e.key <;> rw [hk] at hs <;> simp [Instr.sameNow] at hs
    obtain ⟨rfl, hne⟩ := hs
    exact ⟨_, rfl, fun hh => hne hh.symm⟩
   obtain ⟨q, hq, hqn⟩ := hk
   rw [hq]
   simp only [Instr.sameNow, if_true]
   by_cases hmq : m = q
   ·subst hmq
    simp [hqn]
   ·have : (m == q) = false := by simpa using hmq
    rw [this]
    exact h3 m
  ·cases h
theorem find_push (kd : IntKind) (n : Int) (val : Value) (b : Nat) : ∀ (es : List MapEntry) (i : Nat), Instr.findNow (.int kd) (.int kd n) es i = some none ->
 ∀ m, Instr.findNow (.int kd) (.int kd m) (es ++ [⟨.int kd n, val, b⟩]) i = if m = n then some (some (i + es.length, val)) else Instr.findNow (.int kd) (.int kd m) es i
 | [], i, h, m => by
  simp only [List.nil_append, Instr.findNow, Instr.sameNow, if_true]
  by_cases hm : m = n
  ·subst hm; simp
  ·have : (m == n) = false := by simpa using hm
   rw [this, if_neg hm]
 | e :: es, i, h, m => by
  simp only [Instr.findNow] at h
  split at h
  ·simp at h
  ·rename_i hs
   have ih := find_push kd n val b es (i + 1) h m
   simp only [List.cons_append, Instr.findNow]
   have hk : ∃ q, e.key = .int kd q /\ q ≠ n := by
    cases hk : e.key <;> rw [hk] at hs <;> simp [Instr.sameNow] at hs
    obtain ⟨rfl, hne⟩ := hs
    exact ⟨_, rfl, fun hh => hne hh.symm⟩
   obtain ⟨q, hq, hqn⟩ := hk
   rw [hq]
   simp only [Instr.sameNow, if_true]
   by_cases hmq : m = q
   ·subst hmq
    simp [hqn]
   ·have : (m == q) = false := by simpa using hmq
    rw [this]
    simp only []
    rw [ih]
    by_cases hm : m = n
    ·rw [if_pos hm, if_pos hm]; simp; omega
    ·rw [if_neg hm, if_neg hm]
  ·cases h
theorem evMakeMap_ok (hc : CfgOk C) (hr : RelT C (sig C X) N env L η w a) {t : TypeId} {r : Option Value} {rx : Option PV} (hrx : rx = none -> r = none) {k : K1 K} (h : evMakeMap C t rx env L k) :
 ∃ v w', (Instr.makeMap t r).run C.P w = .ok v w' /\ Res C X N L η w a [] k v w' := by
 unfold evMakeMap at h
 split at h
 ·rename_i kt e ht
  split at h
  ·rename_i kd hk
   obtain rfl := hrx rfl
   obtain ⟨f, hh⟩ := push_map hr.heap kd e
   refine ⟨.map (some w.heap.size), w.alloc (.map #[] 0), ?_, res_mk hr .alloc h f hh (repV_mk rfl rfl ⟨by simp, ⟨_, rfl, rfl⟩, ?_⟩)⟩
   ·simp only [Instr.makeMap, newObj, Sem.run_bind, Sem.run_pure, Result.andThen]
    rfl
   ·intro kd' e' f' hL
    exact ⟨w.heap.size, upd_same _ _ _, rfl⟩
  ·exact h.elim
 ·exact h.elim
theorem run_getMap {P : Program} {w : World} {r : Nat} {es : Array MapEntry} {clock : Nat} (hb : w.heap[r]? = some (.map es clock)) : (getObj r).run P w = .ok (.map es clock) w := by
 simp [getObj, Sem.run, hb]
theorem run_checkKey {P : Program} {t : TypeId} {kd : IntKind} (ht : P.underlying t = some (.int kd)) (em : Bool) (m : Nat) (n : Int) (w : World) : (Instr.checkKey em (m + 1) t (.int kd n)).run P w = .ok () w := by
 simp [Instr.checkKey, run_underlying ht, Result.andThen]
theorem run_findKey {P : Program} {t : TypeId} {kd : IntKind} (ht : P.underlying t = some (.int kd)) {n : Int} {es : List MapEntry} {r : Option (Nat × Value)} (h : Instr.findNow (.int kd) (.int kd n) es 0 = some r) (w : World) :
 (Instr.findKey t (.int kd n) es).run P w = .ok r w := by
 simp [Instr.findKey, run_underlying ht, Result.andThen, h]
theorem intTd {kd : IntKind} {d : TD} (h : isIntTd kd d = true) : d = .int kd := by
 cases d <;> simp [isIntTd] at h
 rw [h]
theorem rep_pair {G : Sig} (ok b : Bool) {x : PV} {v : Value} (hx : RepV G L η w x v) : RepV G L η w (okPair ok x b) (if ok then .tuple #[v, .bool b] else v) := by
 cases ok with
 | false => exact hx
 | true =>
  refine .inr ⟨rfl, [v, .bool b], rfl, v, [.bool b], rfl, ?_, ?_, .bool b, [], rfl, .inl rfl, rfl, rfl⟩
  ·rcases hx with rfl | ⟨h1, _⟩
   ·exact .inr rfl
   ·exact .inl h1
  ·rcases hx with rfl | ⟨_, h2⟩
   ·exact trivial
   ·exact h2
theorem evLookup_ok (hc : CfgOk C) (hr : RelT C (sig C X) N env L η w a) {t : TypeId} {m x : PV} {vm vx : Value} {ok : Bool} (hm : RepV (sig C X) L η w m vm) (hx : RepV (sig C X) L η w x vx) {k : K1 K} (h : evLookup C t m x ok env L k) :
 ∃ v w', (Instr.lookup t vm vx ok).run C.P w = .ok v w' /\ Res C X N L η w a [] k v w' := by
 unfold evLookup at h
 split at h
 ·rename_i kt e o kd n ht
  split at h
  ·rename_i ie kd' e' f hie hL
   obtain ⟨hq, h1, h2⟩ := chk_iff h
   simp only [Bool.and_eq_true, beq_iff_eq] at hq
   obtain ⟨⟨hk, rfl⟩, he⟩ := hq
   have he : e' = e := Nat.eq_of_beq_eq_true he
   obtain rfl := repV_int hx
   obtain ⟨_, hmr⟩ := repV_one hm (by simp) rfl
   obtain ⟨_, _, hmr⟩ := hmr
   obtain ⟨b, hη, hv⟩ := hmr _ _ _ hL
   simp at hv; subst hv
   obtain ⟨b', es, clock, g1, g2, g3⟩ := hr.heap.obj o _ hL
   rw [hη] at g1; cases g1
   have htm := td_map hc ht
   have htk := Cfg.td_int hc (intTd hk)
   have hfn := g3 n
   cases hf : f n with
   | none =>
    rw [hf] at hfn
    obtain ⟨inf, i1, i2, i3, z, i4, i5, i6⟩ := (hc.ty e ie hie).info
    have hz : RepV (sig C X) L η w (zeroPV ie) z := by
     have i6 := i6 (sig C X) L η w
     unfold zeroPV
     cases ha : ie.agg with
     | true => exact .inr ⟨by rw [i5, ha]; rfl, i6⟩
     | false =>
      rw [ha] at i5
      rw [cells_one i5] at i6
      generalize ie.zero = zs at i6
      cases zs with
      | nil => exact .inl rfl
      | cons y r => cases r with
       | nil =>
        obtain ⟨u, r, hu, h0, h1, h2⟩ := i6
        simp at hu
        obtain ⟨rfl, _⟩ := hu
        exact repV_mk h0.1 i5 h1
       | cons _ _ => exact .inl rfl
    refine ⟨_, w, ?_, res_mk hr .same (h2 hf) (Fwd.refl _ _ _ _) hr.heap (rep_pair ok false hz)⟩
    simp [Instr.lookup, run_underlying htm, run_getMap g2, run_checkKey htk, run_findKey htk hfn, run_zeroValue' i1 i4, Result.andThen]
   | some y =>
    rw [hf] at hfn
    obtain ⟨i, v, f1, f2, f3⟩ := hfn
    have hv : RepV (sig C X) L η w ((K e').enc y) v := .inr ⟨f2, Rep.ofF _ _ f3⟩
    refine ⟨_, w, ?_, res_mk hr .same (h1 y hf) (Fwd.refl _ _ _ _) hr.heap (rep_pair ok true hv)⟩
    simp [Instr.lookup, run_underlying htm, run_getMap g2, run_checkKey htk, run_findKey htk f1, Result.andThen]
  ·exact h.elim
 ·exact h.elim
theorem run_setObj {P : Program} {w : World} {b : Nat} {es : Array MapEntry} {c : Nat} (hb : w.heap[b]? = some (.map es c)) (o : Obj) : (setObj b o).run P w = .ok () { w with heap := w.heap.setIfInBounds b o } := by
 simp [setObj, Sem.run, hb]
theorem gone_keep : ∀ (ids : List Nat) (L : Heap K) (o : Nat), o ∉ ids -> (goneAll ids L)[o]? = L[o]?
 | [], L, o, _ => rfl
 | p :: ids, L, o, h => by
  simp only [List.mem_cons, not_or] at h
  rw [goneAll, gone_keep ids _ o h.2, List.getElem?_set_ne (Ne.symm h.1)]
theorem setObj_rew {w : World} {b : Nat} {es es' : Array MapEntry} {c c' : Nat} (hb : w.heap[b]? = some (.map es c)) : Rew0 w { w with heap := w.heap.setIfInBounds b (.map es' c') } b :=
 ⟨rfl, .refl _, rfl, by simp, fun i hi => by simp [Array.getElem?_setIfInBounds_ne (Ne.symm hi)], fun cells t fr h => by rw [hb] at h; cases h⟩
theorem setObj_now {w : World} {b : Nat} {es es' : Array MapEntry} {c c' : Nat} (hb : w.heap[b]? = some (.map es c)) : ({ w with heap := w.heap.setIfInBounds b (.map es' c') } : World).heap[b]? = some (.map es' c') := by
 have := (Array.getElem?_eq_some_iff.1 hb).1
 simp [Array.getElem?_setIfInBounds_self_of_lt this]
theorem map_res (hr : RelT C (sig C X) N env L η w a) {w' : World} {b : Nat} (hw : Rew0 w w' b) {o : Nat} {kd : IntKind} {e : TypeId} {f f' : Int -> Option (K e).α} {tl : List Nat} (htl : o ∈ tl) (ids : List Nat) (ho : L[o]? = some (.mp kd e f)) (hids : ids.contains o = false)
 (hη : η o = some b) (hx : Fwd L η w ((goneAll ids L).set o (.mp kd e f')) η w' noBad -> ObjRel (sig C X) ((goneAll ids L).set o (.mp kd e f')) η w' o (.mp kd e f')) {k : K1 K} (h : k (.tup []) env ((goneAll ids L).set o (.mp kd e f'))) :
 Res C X N L η w a tl k undef w' := by
 have hg := gone_fwd (L := L) (η := η) (w := w) ids
 have hgh := gone_heap hr.heap ids
 have ho' : (goneAll ids L)[o]? = some (.mp kd e f) := by
  rw [gone_keep ids L o (by simpa using hids)]; exact ho
 have hf := set_fwd0 (bad := noBad) (x' := .mp kd e f') hw ho' rfl hη ⟨rfl, rfl⟩
 rw [set_noBad] at hf
 have hf2 := hg.trans0 hf
 have hh := set_heap0 (bad := noBad) (x' := .mp kd e f') hgh hw ho' rfl hη ⟨rfl, rfl⟩ (by rw [set_noBad]; exact hx hf2)
 rw [set_noBad] at hh
 exact res_mk hr (fun i _ hi => hw.keep i fun e => hi o htl (e ▸ hη)) h hf2 hh (.inr ⟨rfl, ⟨[], rfl, rfl⟩⟩)
theorem evMapUpdate_ok (hc : CfgOk C) (hr : RelT C (sig C X) N env L η w a) {t : TypeId} {m x v : PV} {vm vx vv : Value} (hm : RepV (sig C X) L η w m vm) (hx : RepV (sig C X) L η w x vx) (hv : RepV (sig C X) L η w v vv) {k : K1 K} (h : evMapUpdate C t m x v env L k) :
 ∃ w', (Instr.mapUpdate t vm vx vv).run C.P w = .ok () w' /\ Res C X N L η w a (tlOf m) k undef w' := by
 unfold evMapUpdate at h
 split at h
 ·rename_i kt e o kd n ht
  split at h
  ·rename_i kd' e' f y hL hl
   obtain ⟨hq, z, hz, hk2⟩ := chk_iff h
   simp only [Bool.and_eq_true, beq_iff_eq, Bool.not_eq_true'] at hq
   obtain ⟨⟨⟨hk, rfl⟩, he⟩, hids⟩ := hq
   have he : e' = e := Nat.eq_of_beq_eq_true he
   obtain rfl := repV_int hx
   obtain ⟨_, hmr⟩ := repV_one hm (by simp) rfl
   obtain ⟨_, _, hmr⟩ := hmr
   obtain ⟨b, hη, hvm⟩ := hmr _ _ _ hL
   simp at hvm; subst hvm
   obtain ⟨b', es, clock, g1, g2, g3⟩ := hr.heap.obj o _ hL
   rw [hη] at g1; cases g1
   have htm := td_map hc ht
   have htk := Cfg.td_int hc (intTd hk)
   obtain ⟨l1, l2⟩ := lend_ok hr.heap hl hv (gone_off hr.heap (reach L depth v))
   have hfn := g3 n
   have fin : ∀ (es' : Array MapEntry) (clock' : Nat), (∀ q, Instr.findNow (.int kd) (.int kd q) es'.toList 0 = if q = n then Instr.findNow (.int kd) (.int kd n) es'.toList 0 else Instr.findNow (.int kd) (.int kd q) es.toList 0) ->
    (∃ i, Instr.findNow (.int kd) (.int kd n) es'.toList 0 = some (some (i, vv))) -> Res C X N L η w a (tlOf (.mref o)) k undef { w with heap := w.heap.setIfInBounds b (.map es' clock') } := by
    intro es' clock' he1 he2
    refine map_res hr (setObj_rew g2) (f' := upF f n z) (by simp [tlOf]) (reach L depth v) hL hids hη ?_ hk2
    intro hf
    refine ⟨b, es', clock', hη, setObj_now g2, fun q => ?_⟩
    have hmv := (hf.moves (C := sig C X) fun b hb => (hr.heap.ext b hb).1).froz
    by_cases hqn : q = n
    ·subst hqn
     obtain ⟨i, hi⟩ := he2
     have : upF f q z q = some z := if_pos rfl
     rw [this]
     refine ⟨i, vv, hi, by rw [hz]; exact l2, ?_⟩
     rw [hz]
     refine RepF.mono ?_ _ _ l1
     intro b1 o1 hb1 ho1
     have hb2 : ¬ Mx (sig C X) ((goneAll (reach L depth v) L).set o (.mp kd e' (upF f q z))) η b1 := by
      rintro (⟨p, yy, p1, p2, p3⟩ | hX)
      ·apply hb1
       rw [List.getElem?_set] at p1
       split at p1
       ·rename_i hpo
        refine .inl ⟨p, .mp kd e' f, ?_, rfl, p3⟩
        rw [<- hpo, gone_keep _ L o (by simpa using hids)]; exact hL
       ·exact .inl ⟨p, yy, p1, p2, p3⟩
      ·exact hb1 (.inr hX)
     refine ⟨hb2, ?_⟩
     have hne : b1 ≠ b := by
      intro hbb
      subst hbb
      apply hb1
      refine .inl ⟨o, .mp kd e' f, ?_, rfl, hη⟩
      rw [gone_keep _ L o (by simpa using hids)]; exact hL
     simp only [Array.getElem?_setIfInBounds_ne (Ne.symm hne)]; exact ho1
    ·have h3 : upF f n z q = f q := if_neg hqn
     rw [h3]
     have h4 := g3 q
     rw [he1 q, if_neg hqn]
     cases hfq : f q with
     | none => rw [hfq] at h4; exact h4
     | some yq =>
      rw [hfq] at h4
      obtain ⟨i, vq, q1, q2, q3⟩ := h4
      exact ⟨i, vq, q1, q2, RepF.mono hmv _ _ q3⟩
   cases hf : f n with
   | none =>
    rw [hf] at hfn
    refine ⟨_, ?_, fin (es.push { key := .int kd n, val := vv, born := clock }) (clock + 1) ?_ ?_⟩
    ·simp [Instr.mapUpdate, run_underlying htm, run_getMap g2, run_checkKey htk, run_findKey htk hfn, Result.andThen, run_setObj g2]
    ·intro q
     have := find_push kd n vv clock es.toList 0 hfn q
     rw [Array.toList_push, this]
     by_cases hq : q = n
     ·subst hq; rw [if_pos rfl, if_pos rfl, find_push kd q vv clock es.toList 0 hfn q, if_pos rfl]
     ·rw [if_neg hq, if_neg hq]
    ·exact ⟨_, by rw [Array.toList_push, find_push kd n vv clock es.toList 0 hfn n, if_pos rfl]⟩
   | some y0 =>
    rw [hf] at hfn
    obtain ⟨i, v0, f1, f2, f3⟩ := hfn
    obtain ⟨_, ⟨e0, k1, k2, k3⟩, k4⟩ := find_mod kd n vv es.toList 0 i v0 f1
    rw [Nat.sub_zero] at k1 k4
    have hi : es[i]? = some e0 := by rw [<- Array.getElem?_toList]; exact k1
    have hsame : Instr.sameBits 10000 (.int kd n) (.int kd n) = true := by
     show (kd == kd && n == n) = true
     simp
    refine ⟨_, ?_, fin (es.modify i fun e => { e with key := .int kd n, val := vv }) clock ?_ ?_⟩
    ·simp [Instr.mapUpdate, run_underlying htm, run_getMap g2, run_checkKey htk, run_findKey htk f1, Result.andThen, run_setObj g2, Instr.keyThatStays, hi, k2, hsame]
    ·intro q
     rw [Array.toList_modify, k4 q]
     by_cases hq : q = n
     ·subst hq; rw [if_pos rfl, if_pos rfl, k4 q, if_pos rfl]
     ·rw [if_neg hq, if_neg hq]
    ·exact ⟨i, by rw [Array.toList_modify, k4 n, if_pos rfl]⟩
  ·exact h.elim
 ·exact h.elim
end Go.Ab
namespace Go.Ab
open Go
variable [DMode] {K : Codes} {C : Cfg K} {X : Nat -> Prop} {N : Nat} {env : List PV} {L : Heap K} {η : Eta} {w : World} {a : Act}
def OpRuns (P : Program) (o : Oper) (a : Act) (w : World) (R : Value -> World -> Prop) : Prop :=
 (∃ v w', (execOp a.eval o).run P w = .ok (.value v) w' /\ R v w') \/ (∃ w', (execOp a.eval o).run P w = .ok .skip w' /\ R undef w') \/
  ∃ g args, (execOp a.eval o).run P w = .ok (.enter g args) w /\ Calls P g args w (ret R)
theorem OpRuns.wp {P : Program} {o : Oper} {R : Value -> World -> Prop} (h : OpRuns P o a w R) {next : Act -> World -> Prop} {Q : Exit -> Act -> World -> Prop} (hn : ∀ v w', R v w' -> next (a.put o.dst v) w') :
 o.wp P a w next Q := by
 unfold Oper.wp
 rcases h with ⟨v, w', h1, h2⟩ | ⟨w', h1, h2⟩ | ⟨g, args, h1, h2⟩
 ·rw [h1, Oper.upon_value]; exact hn _ _ h2
 ·rw [h1, Oper.upon_skip]; exact hn _ _ h2
 ·rw [h1, Oper.upon_enter]
  exact h2.mono fun e w' he => by cases e <;> first | exact hn _ _ he | exact he.elim
theorem OpRuns.mono {P : Program} {o : Oper} {R R' : Value -> World -> Prop} (h : OpRuns P o a w R) (hr : ∀ v w', R v w' -> R' v w') : OpRuns P o a w R' := by
 rcases h with ⟨v, w', h1, h2⟩ | ⟨w', h1, h2⟩ | ⟨g, args, h1, h2⟩
 ·exact .inl ⟨v, w', h1, hr _ _ h2⟩
 ·exact .inr (.inl ⟨w', h1, hr _ _ h2⟩)
 ·exact .inr (.inr ⟨g, args, h1, h2.mono fun e w' he => by cases e <;> first | exact hr _ _ he | exact he⟩)
def Quiet (C : Cfg K) (X : Nat -> Prop) (o : Oper) (a : Act) (L : Heap K) (η : Eta) (w : World) (k : PV -> Prop) : Prop :=
 ∃ v x, (∀ w1, (execOp a.eval o).run C.P w1 = .ok (.value v) w1) /\ k x /\ RepV (sig C X) L η w x v
theorem quiet_of {o : Oper} {s : Sem Value} {k : PV -> Prop} (hs : execOp a.eval o = (do pure (Next.value (<- s)) : Sem Next)) (h : Gives (sig C X) L η w C.P s k) : Quiet C X o a L η w k := by
 obtain ⟨v, x, h1, h2, h3⟩ := h
 exact ⟨v, x, fun w1 => by rw [hs]; simp [h1 w1, Result.andThen], h2, h3⟩
theorem quiet_pure {o : Oper} {v : Value} {x : PV} {k : PV -> Prop} (hs : execOp a.eval o = (pure (Next.value v) : Sem Next)) (h : k x) (hx : RepV (sig C X) L η w x v) : Quiet C X o a L η w k :=
 ⟨v, x, fun w1 => by rw [hs]; simp, h, hx⟩
theorem evParts (hr : RelT C (sig C X) N env L η w a) : ∀ (ps : List (Nat × Operand)), RepParts (sig C X) L η w (ps.map (evP C env)) (ps.map fun p => (p.1, a.eval p.2))
 | [] => rfl
 | (i, x) :: ps => ⟨_, _, rfl, evX_ok hr x, evParts hr ps⟩
theorem goOf (hr : RelT C (sig C X) N env L η w a) : ∀ (xs : List Operand), (xs.map (evX C env)).all PV.one = true -> Rep.go (sig C X) L η w (xs.map (evX C env)) (xs.map a.eval)
 | [], _ => rfl
 | x :: xs, h => by
  simp only [List.map_cons, List.all_cons, Bool.and_eq_true, PV.one, Bool.not_eq_true'] at h
  obtain ⟨⟨h1, hs⟩, h3⟩ := h
  have h2 : evX C env x ≠ .junk := by intro hx; rw [hx] at hs; cases hs
  obtain ⟨q1, q2⟩ := repV_one (evX_ok hr x) h2 h1
  refine ⟨_, _, rfl, ⟨h1, ?_⟩, q2, goOf hr xs h3⟩
  have := Rep.cells (evX_ok hr x) hs
  rw [cells_one q1] at this
  exact Rep.go_one this _ (by simp)
theorem moveQ (hr : RelT C (sig C X) N env L η w a) {x : Operand} {t : TypeId} {k : K1 K} (hp : plainMove x = true) (h : evMove C x t env L k) : k (evX C env x) env L := by
 cases x with
 | const v =>
  simp only [plainMove, Bool.not_eq_true'] at hp
  simp only [evMove, hp] at h
  exact h
 | tmp t => exact h
 | global g => exact h
 | func f => exact h
theorem convQ (hc : CfgOk C) {s d : TypeId} {x : PV} {u : Value} {k : K1 K} (hs : ∀ e, C.td s ≠ .slice e) (hd0 : ∀ e, C.td d ≠ .slice e) (hx : RepV (sig C X) L η w x u) (h : evConvert C s d x env L k) :
 Gives (sig C X) L η w C.P (convert s d u) (fun y => k y env L) := by
 unfold evConvert at h
 split at h
 ·rename_i ks kd _ n hs hd
  obtain rfl := repV_int hx
  exact gives _ _ (fun w => by simp [convert, run_underlying (td_int hc hs), run_underlying (td_int hc hd), Conv.intToInt, Result.andThen]) h (rv_int _ _)
 ·rename_i n hs hd
  obtain rfl := repV_str hx
  exact gives _ _ (fun w => by simp [convert, run_underlying (td_str hc hs), run_underlying (td_str hc hd), Result.andThen]) h (rv_str _)
 ·rename_i e _ _ _ hs' _
  exact absurd hs' (hs e)
 ·rename_i e _ hs' _
  exact absurd hs' (hs e)
 ·rename_i e _ _ hd'
  exact absurd hd' (hd0 e)
 ·exact h.elim
theorem specialQ (he : EnvOk C) (hr : RelT C (sig C X) N env L η w a) {b : Builtin} {c : Call} {o : Oper} (ho : o.op = .call c) (hc : c.callee = .builtin b) (hb : b = .len \/ b = .max \/ b = .min) {k : K1 K}
 (h : evSpecial C b c.argTypes.toList (c.args.toList.map (evX C env)) env L k) : Quiet C X o a L η w (fun y => k y env L) := by
 have hx := evXs hr c.args.toList
 obtain ⟨cs, hcs⟩ : ∃ cs, ∀ w, (execOp a.eval o).run C.P w = (builtin b c.argTypes o.type cs (c.args.map a.eval)).run C.P w := by
  refine ⟨?_, ?_⟩
  rotate_left
  ·intro w
   simp only [execOp, ho, resolve, hc, Sem.run_bind, Sem.run_pure, Result.andThen, invoke]
   rfl
 have hargs : (c.args.map a.eval) = ⟨c.args.toList.map a.eval⟩ := by
  apply Array.ext'; simp
 rw [hargs] at hcs
 generalize c.args.toList.map a.eval = vs at hx hcs
 generalize c.args.toList.map (evX C env) = xs at hx h
 have hts : c.argTypes = ⟨c.argTypes.toList⟩ := rfl
 rw [hts] at hcs
 generalize c.argTypes.toList = ts at h hcs
 have fin : ∀ {s : Sem Value}, (∀ w, (builtin b ⟨ts⟩ o.type cs ⟨vs⟩).run C.P w = (do pure (Next.value (<- s)) : Sem Next).run C.P w) -> Gives (sig C X) L η w C.P s (fun y => k y env L) -> Quiet C X o a L η w (fun y => k y env L) := by
  rintro s h1 ⟨v, x, h2, h3, h4⟩
  exact ⟨v, x, fun w1 => by rw [hcs, h1]; simp [h2 w1, Result.andThen], h3, h4⟩
 unfold evSpecial at h
 split at h
 ·rename_i t x
  obtain ⟨v, r, rfl, hv, hr'⟩ := hx
  simp only [RepVs] at hr'; subst hr'
  exact fin (fun _ => rfl) (evLen_ok he.cfg hr.heap hv h)
 ·simp at hb
 ·rename_i kd p r
  obtain ⟨v, vs, rfl, hv, hvs⟩ := hx
  obtain rfl := repV_int hv
  obtain ⟨q, h1, h2⟩ := evMinMax_ok true kd r p vs hvs h
  exact fin (fun _ => rfl) (gives _ _ (fun w => by simpa [Builtin.max_] using h1 w) h2 (rv_int _ _))
 ·rename_i kd p r
  obtain ⟨v, vs, rfl, hv, hvs⟩ := hx
  obtain rfl := repV_int hv
  obtain ⟨q, h1, h2⟩ := evMinMax_ok false kd r p vs hvs h
  exact fin (fun _ => rfl) (gives _ _ (fun w => by simpa [Builtin.min_] using h1 w) h2 (rv_int _ _))
 ·exact h.elim
theorem quiet_ok (he : EnvOk C) (hr : RelT C (sig C X) N env L η w a) {o : Oper} {k : K1 K} (hq : quietOp C o = true) (h : evOp C o env L k) : Quiet C X o a L η w (fun y => k y env L) := by
 obtain ⟨dst, op, ty, pos, after, guard⟩ := o
 cases op <;> dsimp only [quietOp] at hq <;> first | (cases hq; done) | skip
 case move x => exact quiet_pure rfl (moveQ hr hq h) (evX_ok hr x)
 case assign x => exact quiet_pure rfl (moveQ hr hq h) (evX_ok hr x)
 case pick c x y =>
  have hc := evX_ok hr c
  simp only [evOp] at h
  split at h
  ·rename_i t hcb
   rw [hcb] at hc
   have hcv := repV_bool hc
   split at h
   ·exact ⟨_, _, fun w1 => by simp [execOp, hcv, asBool, Result.andThen], h, evX_ok hr x⟩
   ·exact ⟨_, _, fun w1 => by simp [execOp, hcv, asBool, Result.andThen], h, evX_ok hr y⟩
  ·exact h.elim
 case build t ps =>
  have := evBuild_ok (k := fun y => k y env L) he.cfg (evParts hr ps.toList) h
  refine quiet_of ?_ this
  simp only [execOp]
  congr 2
  apply Array.ext'; simp
 case nilCheck x =>
  obtain ⟨h1, h2⟩ := evNilCheck_ok (k := fun y => k y env L) (evX_ok hr x) h
  refine ⟨a.eval x, _, fun w1 => ?_, h1, evX_ok hr x⟩
  rcases h2 with ⟨q, hv⟩ | ⟨g, y, z, hv⟩ | ⟨t, v, hv⟩ <;> simp [execOp, hv]
 case binOp op t x y z =>
  refine quiet_of rfl (evBin_ok he.cfg hr.heap (evX_ok hr x) (evX_ok hr y) ?_ h)
  intro c hc
  subst hc; rfl
 case unOp op t x => exact quiet_of rfl (evUn_ok (evX_ok hr x) h)
 case convert s d x =>
  refine quiet_of rfl (convQ he.cfg ?_ ?_ (evX_ok hr x) h)
  ·intro e hs
   simp [hs] at hq
  ·intro e hd
   cases hs : C.td s <;> simp [hs, hd] at hq
 case makeInterface t x => exact quiet_of rfl (evMakeIface_ok he.cfg (evX_ok hr x) h)
 case makeFunc f p q =>
  obtain ⟨hq, h⟩ := chk_iff h
  rw [Bool.and_eq_true] at hq
  refine ⟨.func f (p.map a.eval) (q.map a.eval), _, fun w1 => by simp [execOp, Instr.makeFunc, Result.andThen], h, repV_mk rfl rfl ⟨_, _, ?_, goOf hr _ hq.1, goOf hr _ hq.2⟩⟩
  congr 2 <;> apply Array.ext' <;> simp
 case fieldAddr t x f => exact quiet_of rfl (evFieldAddr_ok he.cfg (evX_ok hr x) h)
 case field t x f => exact quiet_of rfl (evField_ok he.cfg (evX_ok hr x) h)
 case indexAddr t x i => exact quiet_of rfl (evIndexAddr_ok he.cfg hr.heap (evX_ok hr x) (evX_ok hr i) h)
 case index t x i => exact quiet_of rfl (evIndex_ok he.cfg (evX_ok hr x) (evX_ok hr i) h)
 case typeAssert x xt t ok => exact quiet_of rfl (evAssert_ok he.cfg (evX_ok hr x) h)
 case extract x j => exact quiet_of rfl (evExtract_ok (evX_ok hr x) h)
 case call c =>
  simp only [evOp, evCall] at h
  split at hq
  ·rename_i hcl; rw [hcl] at h; exact specialQ he hr rfl hcl (.inl rfl) h
  ·rename_i hcl; rw [hcl] at h; exact specialQ he hr rfl hcl (.inr (.inl rfl)) h
  ·rename_i hcl; rw [hcl] at h; exact specialQ he hr rfl hcl (.inr (.inr rfl)) h
  ·cases hq
theorem runs_op {P : Program} {o : Oper} {c : Call} (ho : o.op = .call c) {R : Value -> World -> Prop} (h : Runs P (callSem a.eval c o.type) w R) : OpRuns P o a w R := by
 have he : execOp a.eval o = callSem a.eval c o.type := by simp only [execOp, ho]; rfl
 rcases h with ⟨g, args, h1, h2⟩ | ⟨v, w', h1, h2⟩
 ·exact .inr (.inr ⟨g, args, by rw [he]; exact h1, h2⟩)
 ·exact .inl ⟨v, w', by rw [he]; exact h1, h2⟩
theorem value_op {P : Program} {o : Oper} {s : Sem Value} (hs : execOp a.eval o = (do pure (Next.value (<- s)) : Sem Next)) {R : Value -> World -> Prop} (h : ∃ v w', s.run P w = .ok v w' /\ R v w') : OpRuns P o a w R := by
 obtain ⟨v, w', h1, h2⟩ := h
 exact .inl ⟨v, w', by rw [hs]; simp [h1, Result.andThen], h2⟩
theorem evOp_ok (he : EnvOk C) (hr : RelT C (sig C X) N env L η w a) {o : Oper} {k : K1 K} (h : evOp C o env L k) : OpRuns C.P o a w (Res C X N L η w a (touchOp C o env L) k) := by
 cases hq : quietOp C o with
 | true =>
  obtain ⟨v, x, h1, h2, h3⟩ := quiet_ok he hr hq h
  exact .inl ⟨v, w, h1 w, res_mk hr .same h2 (Fwd.refl _ _ _ _) hr.heap h3⟩
 | false =>
  obtain ⟨dst, op, ty, pos, after, guard⟩ := o
  cases op <;> dsimp only [quietOp] at hq <;> first | (cases hq; done) | (exact h.elim) | skip
  case move x => exact .inl ⟨_, w, rfl, evMove_ok he.cfg hr h⟩
  case assign x => exact .inl ⟨_, w, rfl, evMove_ok he.cfg hr h⟩
  case alloc t => exact value_op rfl (evAlloc_ok he.cfg hr h)
  case box t x => exact value_op rfl (evBox_ok he.cfg hr (evX_ok hr x) h)
  case buildSlice t n ps =>
   have : ∃ v w', (Instr.buildSlice t n ⟨ps.toList.map fun p => (p.1, a.eval p.2)⟩).run C.P w = .ok v w' /\ Res C X N L η w a [] k v w' := by
    simp only [evOp] at h
    split at h
    ·exact evBuildFns_ok he.cfg hr (evParts hr ps.toList) h
    ·exact evBuildSlice_ok he.cfg hr (evParts hr ps.toList) h
   refine value_op ?_ this
   simp only [execOp]
   congr 2
   apply Array.ext'; simp
  case load t p =>
   obtain ⟨u, x, b, h1, h2, h3, _⟩ := evLoad_ok he.cfg hr.heap (evX_ok hr p) h
   exact value_op rfl ⟨u, w, h1 w rfl, res_mk hr .same h2 (Fwd.refl _ _ _ _) hr.heap h3⟩
  case store t p x =>
   obtain ⟨w', h1, h2⟩ := evStore_ok he.cfg hr (evX_ok hr p) (evX_ok hr x) h
   exact .inr (.inl ⟨w', by simp [execOp, h1, Result.andThen], h2⟩)
  case convert s d x => exact value_op rfl (evConvert_ok he.cfg hr (evX_ok hr x) h)
  case slice t x lo hi mx =>
   have ho : ∀ z : Option Operand, RepO (sig C X) L η w (z.map (evX C env)) (z.map a.eval) := by
    intro z
    cases z with
    | none => rfl
    | some z => exact ⟨_, rfl, evX_ok hr z⟩
   exact value_op rfl (evSlice_ok he.cfg hr (evX_ok hr x) (ho lo) (ho hi) (ho mx) h)
  case call c => exact runs_op rfl (evCall_ok he hr h)
  case makeMap t r =>
   refine value_op rfl (evMakeMap_ok he.cfg hr ?_ h)
   intro hq
   cases r with
   | none => rfl
   | some r => cases hq
  case lookup t m x ok => exact value_op rfl (evLookup_ok he.cfg hr (evX_ok hr m) (evX_ok hr x) h)
  case mapUpdate t m x v =>
   obtain ⟨w', h1, h2⟩ := evMapUpdate_ok he.cfg hr (evX_ok hr m) (evX_ok hr x) (evX_ok hr v) h
   exact .inr (.inl ⟨w', by simp [execOp, h1, Result.andThen], h2⟩)
  case insert t m x v =>
   obtain ⟨w', h1, h2⟩ := evMapUpdate_ok he.cfg hr (evX_ok hr m) (evX_ok hr x) (evX_ok hr v) h
   exact .inr (.inl ⟨w', by simp [execOp, h1, Result.andThen], h2⟩)
end Go.Ab
namespace Go.Ab
open Go
variable [DMode] {K : Codes} {C : Cfg K} {X : Nat -> Prop} {N : Nat} {env : List PV} {L : Heap K} {η : Eta} {w : World} {a : Act}
theorem Fwd.weak {L' : Heap K} {η' : Eta} {w' : World} {bad bad' : Nat -> Bool} (h : Fwd L η w L' η' w' bad) (hb : ∀ o, bad' o = false -> bad o = false) : Fwd L η w L' η' w' bad' :=
 ⟨h.os, h.tape, h.output, h.size, h.keep, h.muts, h.len, h.box, h.kind, fun o e xs ho hbad hL => h.row o e xs ho (hb o hbad) hL, h.trk, h.mp⟩
def FwdR (L0 : Heap K) (η0 : Eta) (w0 : World) (L : Heap K) (η : Eta) (w : World) : Prop := Fwd L0 η0 w0 L η w (isRow L0)
def FwdB (L : Heap K) (η : Eta) (w : World) (L' : Heap K) (η' : Eta) (w' : World) : Prop := ∃ bad, Fwd L η w L' η' w' bad /\ ∀ o, bad o = true -> isRow L o = true
theorem FwdR.refl (L : Heap K) (η : Eta) (w : World) : FwdR L η w L η w := Fwd.refl _ _ _ _
theorem FwdB.refl (L : Heap K) (η : Eta) (w : World) : FwdB L η w L η w := ⟨noBad, Fwd.refl _ _ _ _, fun o h => by cases h⟩
theorem FwdR.step {L0 : Heap K} {η0 : Eta} {w0 : World} {L' : Heap K} {η' : Eta} {w' : World} (h : FwdR L0 η0 w0 L η w) (k : FwdB L η w L' η' w') : FwdR L0 η0 w0 L' η' w' := by
 obtain ⟨bad, k, hb⟩ := k
 refine Fwd.trans h k fun o ho hr => ⟨hr, ?_⟩
 cases hbo : bad o with
 | false => rfl
 | true =>
  exfalso
  have := hb o hbo
  unfold isRow at this hr
  split at this
  ·rename_i e xs hL
   obtain ⟨xs0, h0⟩ := h.kind o e xs ho hL
   rw [h0] at hr; cases hr
  ·cases this
theorem FwdR.more {L0 : Heap K} {η0 : Eta} {w0 w' : World} (h : More w0 w') : FwdR L0 η0 w0 L0 η0 w' := (Fwd.more h).weak fun _ _ => rfl
theorem set_same {env : List PV} {d : Nat} {x : PV} (h : env[d]? = some x) : env.set d x = env := by
 apply List.ext_getElem?
 intro i
 rw [List.getElem?_set]
 split
 ·rename_i hdi; subst hdi
  split
  ·exact h.symm
  ·rename_i hlt; rw [List.getElem?_eq_none (by omega)] at h; cases h
 ·rfl
theorem rel_tmp (hr : RelT C (sig C X) N env L η w a) {d : Nat} {x : PV} (h : env[d]? = some x) : ∃ v, a.tmps[d]? = some v /\ RepV (sig C X) L η w x v := by
 have hlt : d < a.tmps.size := by
  rw [hr.size, <- hr.elen]
  exact (List.getElem?_eq_some_iff.1 h).1
 have := hr.tmp d x h
 rw [Array.getD_eq_getD_getElem?, Array.getElem?_eq_getElem hlt] at this
 exact ⟨_, Array.getElem?_eq_getElem hlt, this⟩
theorem rel_skip (hr : RelT C (sig C X) N env L η w a) (d : Option Tmp) : RelT C (sig C X) N (putE env d (.tup [])) L η w (a.put d undef) :=
 hr.put (.inr ⟨rfl, ⟨[], rfl, rfl⟩⟩)
theorem step_cases (hr : RelT C (sig C X) N env L η w a) {ops : Array Oper} {o : Oper} {q : List PV -> Heap K -> Bool} {k : List PV -> Heap K -> Prop} (h : evStep C ops q o env L k) :
 (Region.wanted o (yielded ops a.tmps) = true /\ q env L = true /\ evOp C o env L fun x env' L' => k (putE env' o.dst x) L') \/
 (Region.wanted o (yielded ops a.tmps) = false /\ k (putE env o.dst (.tup [])) L) := by
 unfold evStep at h
 split at h
 ·rename_i hg
  obtain ⟨h1, h2⟩ := chk_iff h
  exact .inl ⟨by simp [Region.wanted, hg], h1, h2⟩
 ·rename_i j want hg
  split at h
  ·rename_i d hd
   split at h
   ·rename_i b hb
    obtain ⟨v, hv, hrv⟩ := rel_tmp hr hb
    obtain rfl := repV_bool hrv
    have hy : yielded ops a.tmps j = some b := by simp [yielded, hd, hv]
    have hw : Region.wanted o (yielded ops a.tmps) = (b == want) := by
     simp only [Region.wanted, hg, hy]
     cases b <;> cases want <;> rfl
    rw [hw]
    cases b with
    | true =>
     rw [set_same hb] at h
     cases want with
     | true => obtain ⟨h1, h2⟩ := chk_iff h; exact .inl ⟨rfl, h1, h2⟩
     | false => exact .inr ⟨rfl, h⟩
    | false =>
     rw [set_same hb] at h
     cases want with
     | false => obtain ⟨h1, h2⟩ := chk_iff h; exact .inl ⟨rfl, h1, h2⟩
     | true => exact .inr ⟨rfl, h⟩
   ·rename_i cs hb
    obtain ⟨v, hv, hrv⟩ := rel_tmp hr hb
    obtain ⟨_, hq⟩ := repV_one hrv (by simp) rfl
    obtain ⟨vs, hvs, _⟩ := hq
    simp at hvs; subst hvs
    have hy : yielded ops a.tmps j = none := by simp [yielded, hd, hv]
    exact .inr ⟨by simp [Region.wanted, hg, hy], h⟩
   ·exact h.elim
  ·exact h.elim
theorem step_ok (he : EnvOk C) (hr : RelT C (sig C X) N env L η w a) {ops : Array Oper} {o : Oper} {i : Nat} (hi : ops[i]? = some o) {q : List PV -> Heap K -> Bool} {k : List PV -> Heap K -> Prop} (h : evStep C ops q o env L k)
 {T : Act -> World -> Prop} {Q : Exit -> Act -> World -> Prop}
 (hT : ∀ env' L' η' w' a', k env' L' -> RelT C (sig C X) N env' L' η' w' a' -> FwdB L η w L' η' w' -> (w' = w \/ (q env L = true /\ Kept η w w' (touchOp C o env L))) -> T a' w') : wpOp C.P ops Q i T a w := by
 unfold wpOp
 rw [hi]
 rcases step_cases hr h with ⟨hw, hq, h⟩ | ⟨hw, h⟩
 ·simp only [hw, if_true]
  refine .inl (OpRuns.wp (evOp_ok he hr h) fun v w' hres => ?_)
  obtain ⟨x, env', L', η', hk, hv, hr', hf, hkp⟩ := hres
  exact hT _ _ _ _ _ hk (hr'.put hv) hf (.inr ⟨hq, hkp⟩)
 ·simp only [hw, Bool.false_eq_true, if_false]
  exact hT _ _ _ _ _ h (rel_skip hr _) (FwdB.refl _ _ _) (.inl rfl)
def Then (C : Cfg K) (X : Nat -> Prop) (N : Nat) (L0 : Heap K) (η0 : Eta) (w0 : World) (k : List PV -> Heap K -> Prop) (T : Act -> World -> Prop) : Prop :=
 ∀ env L η w a, k env L -> RelT C (sig C X) N env L η w a -> FwdR L0 η0 w0 L η w -> T a w
theorem evOps_ok (he : EnvOk C) {ops : Array Oper} {L0 : Heap K} {η0 : Eta} {w0 : World} {k : List PV -> Heap K -> Prop} {Q : Exit -> Act -> World -> Prop} (hk : Then C X N L0 η0 w0 k (Q .normal)) :
 ∀ (l : List Nat) (env : List PV) (L : Heap K) (η : Eta) (w : World) (a : Act), evOps C ops l env L k -> RelT C (sig C X) N env L η w a -> FwdR L0 η0 w0 L η w -> wpOps C.P ops Q l a w
 | [], env, L, η, w, a, h, hr, hf => hk env L η w a h hr hf
 | i :: l, env, L, η, w, a, h, hr, hf => by
  rw [wpOps_cons]
  simp only [evOps] at h
  split at h
  ·rename_i o hi
   refine step_ok he hr hi h fun env' L' η' w' a' h' hr' hf' _ => ?_
   exact evOps_ok he hk l env' L' η' w' a' h' hr' (hf.step hf')
  ·exact h.elim
def Still (ts : List Nat) (η0 : Eta) (w0 w : World) : Prop := ∀ b, b < w0.heap.size -> (∀ o, o ∈ ts -> η0 o ≠ some b) -> w.heap[b]? = w0.heap[b]?
structure DInv (C : Cfg K) (X : Nat -> Prop) (ts us : List Nat) (L0 : Heap K) (η0 : Eta) (w0 : World) (eff : Bool) (L : Heap K) (η : Eta) (w : World) : Prop where
 heap0 : HeapRel (sig C X) L0 η0 w0
 live : ∀ o, o ∈ ts -> ∃ x, L0[o]? = some x /\ x.live = true
 fwd : FwdR L0 η0 w0 L η w
 still : Still ts η0 w0 w
 same : eff = false -> L = L0 /\ η = η0 /\ w = w0
 rest : ∀ o x, L0[o]? = some x -> x.live = true -> o ∈ ts \/ o ∈ us
theorem DInv.blk {ts us : List Nat} {L0 : Heap K} {η0 : Eta} {w0 : World} {eff : Bool} (h : DInv C X ts us L0 η0 w0 eff L η w) {p : PV} (hp : okAddr eff L0.length ts p = true) {b : Nat} (hb : b < w.heap.size) (hl : LoadBlk (sig C X) L η p b) :
 b < w0.heap.size /\ ∀ o, o ∈ ts -> η0 o ≠ some b := by
 have box : ∀ o (x : AObj K), x.live = true -> L0[o]? = some x -> η0 o = some b -> ts.contains o = false -> b < w0.heap.size /\ ∀ o, o ∈ ts -> η0 o ≠ some b := by
  intro o x hx hL hη ht
  refine ⟨h.heap0.lt ⟨o, x, hL, hx, hη⟩, fun o' ho' hη' => ?_⟩
  obtain ⟨y, hy, hyl⟩ := h.live o' ho'
  have := h.heap0.inj o o' x y b hL hy hx hyl hη hη'
  subst this
  simp [ho'] at ht
 cases p <;> simp only [okAddr] at hp <;> try (cases hp; done)
 case ptr o off =>
  rw [Bool.and_eq_true, Bool.not_eq_true'] at hp
  obtain ⟨⟨cs, hL⟩, hη⟩ := hl
  have hlt : o < L0.length := by have := hp.2; rwa [Nat.blt_eq] at this
  obtain ⟨cs0, h0, hη0⟩ := h.fwd.box o cs hlt hL
  exact box o _ rfl h0 (hη0 ▸ hη) hp.1
 case el x off =>
  obtain ⟨rfl, rfl, rfl⟩ := h.same (by simpa using hp)
  refine ⟨hb, fun o ho hη => hl (.inl ?_)⟩
  obtain ⟨y, hy, hyl⟩ := h.live o ho
  exact ⟨o, y, hy, hyl, hη⟩
 case oel o i off =>
  rw [Bool.and_eq_true, Bool.not_eq_true'] at hp
  obtain ⟨rfl, rfl, rfl⟩ := h.same (by simpa using hp.2)
  obtain ⟨⟨e, xs, hL⟩, hη⟩ := hl
  exact box o _ rfl hL hη hp.1
theorem take_ok (he : EnvOk C) (hr : RelT C (sig C X) N env L η w a) {ts us : List Nat} {L0 : Heap K} {η0 : Eta} {w0 : World} {eff : Bool} (hd : DInv C X ts us L0 η0 w0 eff L η w) {ops : Array Oper} {o : Oper}
 {k : List PV -> Heap K -> Prop} (h : evStep C ops (fun e _ => okTake C ts eff L0.length o e) o env L k) :
 ∃ v env', YieldsIf C.P ops (Still ts η0 w0) o v a /\ k env' L /\ RelT C (sig C X) N env' L η w (a.put o.dst v) := by
 rcases step_cases hr h with ⟨hw, hq, h⟩ | ⟨hw, h⟩
 ·simp only [okTake, Bool.or_eq_true] at hq
  rcases hq with hq | hq
  ·obtain ⟨v, x, h1, h2, h3⟩ := quiet_ok he hr hq h
   exact ⟨v, _, .inl ⟨hw, fun w1 _ => h1 w1⟩, h2, hr.put h3⟩
  ·split at hq
   ·rename_i t p hop
    simp only [evOp, hop] at h
    obtain ⟨u, x, b, h1, h2, h3, h4, h5⟩ := evLoad_ok (k := fun y => k (putE env o.dst y) L) he.cfg hr.heap (evX_ok hr p) h
    obtain ⟨q1, q2⟩ := hd.blk hq h4 h5
    refine ⟨u, _, .inl ⟨hw, fun w1 hS => ?_⟩, h2, hr.put h3⟩
    have := h1 w1 ((hS b q1 q2).trans (hd.still b q1 q2).symm)
    simp [execOp, hop, this, Result.andThen]
   ·cases hq
 ·exact ⟨undef, _, .inr ⟨hw, rfl⟩, h, rel_skip hr _⟩
theorem allR_mem {p : Nat -> Prop} : ∀ {l : List Nat}, allR p l -> ∀ i, i ∈ l -> p i
 | [], _, i, hi => by simp at hi
 | [j], h, i, hi => by simp at hi; subst hi; exact h
 | j :: j2 :: r, h, i, hi => by
  obtain ⟨h1, h2⟩ := h
  rcases List.mem_cons.1 hi with rfl | hi
  ·exact h1
  ·exact allR_mem h2 i hi
theorem splitG_ok {k : List PV -> Prop} : ∀ (ds : List Nat) (env : List PV), splitG ds env k -> k env
 | [], _, h => h
 | d :: r, env, h => by
  simp only [splitG] at h
  split at h
  ·rename_i b hb
   cases b with
   | true => rw [set_same hb] at h; exact splitG_ok r env h
   | false => rw [set_same hb] at h; exact splitG_ok r env h
  ·exact splitG_ok r env h
theorem evDraw_ok (he : EnvOk C) {ops : Array Oper} (hns : Region.noSelect ops = true) {ts us : List Nat} {L0 : Heap K} {η0 : Eta} {w0 : World} {k : List PV -> Heap K -> Prop} {Q : Exit -> Act -> World -> Prop}
 (hQ : ∀ c a w, ¬ Q (.panic c) a w) (hk : Then C X N L0 η0 w0 k (Q .normal)) :
 ∀ (n : Nat) (eff : Bool) (listed : Array Bool) (env : List PV) (L : Heap K) (η : Eta) (w : World) (a : Act), evDraw C ops ts us L0.length n eff listed env L k -> RelT C (sig C X) N env L η w a -> DInv C X ts us L0 η0 w0 eff L η w ->
  wpAnyH C.P .any ops Q (Still ts η0 w0) n listed a w
 | 0, eff, listed, env, L, η, w, a, h, hr, hd => by
  obtain ⟨h1, h2⟩ := chk_iff h
  refine ⟨?_, hk env L η w a h2 hr hd.fwd⟩
  show (List.range ops.size).filter (isReady ops listed) = []
  rw [List.filter_eq_nil_iff]
  intro i hi
  have := List.all_eq_true.1 h1 i hi
  simpa using this
 | n + 1, eff, listed, env, L, η, w, a, h, hr, hd => by
  simp only [evDraw] at h
  replace h := splitG_ok _ _ h
  split at h
  ·rename_i i hfind
   have hcan := List.find?_some hfind
   have hmem := List.mem_of_find?_eq_some hfind
   unfold canTake at hcan
   split at h
   ·rename_i o hi
    rw [hi] at hcan
    simp only [Bool.and_eq_true] at hcan
    obtain ⟨v, env', h1, h2, h3⟩ := take_ok he hr hd h
    refine wpAnyH_take hi hns hcan.2 ?_ (fun c a w hq => (hQ _ _ _ hq).elim) h1 hd.still (evDraw_ok he hns hQ hk n eff _ env' L η w _ h2 h3 hd)
    have : i ∈ Region.ready .any ops listed := List.mem_filter.2 ⟨hmem, hcan.1.1⟩
    simpa using this
   ·exact h.elim
  ·have all : ∀ rs, Region.ready .any ops listed = rs -> (∀ i, i ∈ rs -> (match ops[i]? with
    | some o => evStep C ops (fun e L => (touchOp C o e L).all (okTouch ts us L0.length L)) o env L fun env' L' => evDraw C ops ts us L0.length n true (listed.setIfInBounds i true) env' L' k
    | none => False)) -> rs ≠ [] -> wpAnyH C.P .any ops Q (Still ts η0 w0) (n + 1) listed a w := by
    intro rs hrs hall hne
    refine wpAnyH_all hrs hne fun i hi => ?_
    have h := hall i hi
    split at h
    ·rename_i o hio
     refine step_ok he hr hio h fun env' L' η' w' a' h' hr' hf' hkp => ?_
     have hS : Still ts η0 w0 w' := by
      rcases hkp with rfl | ⟨hq, hkp⟩
      ·exact hd.still
      ·intro b hb hn
       rw [hkp b (Nat.lt_of_lt_of_le hb hd.fwd.size) ?_]
       ·exact hd.still b hb hn
       ·intro o' ho' hη'
        have hq' := List.all_eq_true.1 hq o' ho'
        unfold okTouch at hq'
        rw [Bool.or_eq_true] at hq'
        rcases hq' with hts | hnew
        ·have hts : o' ∈ ts := by simpa using hts
         obtain ⟨y, hy, _⟩ := hd.live o' hts
         rcases hd.fwd.trk o' b (List.getElem?_eq_some_iff.1 hy).1 hη' with q | q
         ·exact hn o' hts q
         ·omega
        ·simp only [Bool.and_eq_true] at hnew
         obtain ⟨⟨g1, g2⟩, g3⟩ := hnew
         have g1 := Nat.le_of_ble_eq_true g1
         unfold liveAt at g2
         split at g2
         ·rename_i x hx
          rcases hd.fwd.muts b ⟨o', x, hx, g2, hη'⟩ with ⟨p, y, p1, p2, p3⟩ | q
          ·rcases hd.rest p y p1 p2 with r | r
           ·exact hn p r p3
           ·have hb2 := List.all_eq_true.1 g3 p r
            have hplt : p < L0.length := (List.getElem?_eq_some_iff.1 p1).1
            unfold boxAt at hb2
            split at hb2
            ·rename_i cs hcs
             obtain ⟨_, _, e2⟩ := hd.fwd.box p cs hplt hcs
             have := hr.heap.inj o' p x _ b hx hcs g2 rfl hη' (e2.trans p3)
             omega
            ·cases hb2
          ·omega
         ·cases g2
     exact ⟨hS, evDraw_ok he hns hQ hk n true _ env' L' η' w' a' h' hr' ⟨hd.heap0, hd.live, hd.fwd.step hf', hS, (fun h => by cases h), hd.rest⟩⟩
    ·exact h.elim
   split at h
   ·rename_i hrs
    exact wpAnyH_done hrs (hk env L η w a h hr hd.fwd) _
   ·rename_i rs hrs
    exact all _ rfl (fun i hi => allR_mem h i hi) hrs
theorem liveFrom_mem (ts : List Nat) : ∀ (L : Heap K) (i o : Nat) (x : AObj K), L[o]? = some x -> x.live = true -> i + o ∈ ts \/ i + o ∈ liveFrom ts i L
 | [], i, o, x, h, _ => by simp at h
 | y :: L, i, 0, x, h, hx => by
  simp only [List.getElem?_cons_zero, Option.some.injEq] at h
  subst h
  simp only [liveFrom]
  cases ht : ts.contains i with
  | true => left; simpa using ht
  | false => right; simp [hx]
 | y :: L, i, o + 1, x, h, hx => by
  simp only [List.getElem?_cons_succ] at h
  have := liveFrom_mem ts L (i + 1) o x h hx
  rw [show i + 1 + o = i + (o + 1) by omega] at this
  refine this.imp id fun q => ?_
  simp only [liveFrom]
  split
  ·exact List.mem_cons_of_mem _ q
  ·exact q
theorem evRegion_ok (he : EnvOk C) (hm : C.P.follows .mixedOrders = true) {id : Nat} {ops : Array Oper} {draw : Bool} {touch : List Nat} {L0 : Heap K} {η0 : Eta} {w0 : World} {k : List PV -> Heap K -> Prop} {Q : Exit -> Act -> World -> Prop}
 (hQ : ∀ c a w, ¬ Q (.panic c) a w) (hk : Then C X N L0 η0 w0 k (Q .normal)) (h : evRegion C ops draw touch env L k) (hr : RelT C (sig C X) N env L η w a) (hf : FwdR L0 η0 w0 L η w) : (Code.region id ops draw).wp C.P Q a w := by
 unfold evRegion at h
 split at h
 ·exact wp_region (evOps_ok he hk _ env L η w a h hr hf)
 ·obtain ⟨h1, h⟩ := chk_iff h
  rw [Bool.and_eq_true] at h1
  have hm1 : More w { w with drawn := w.drawn + 1 } := More.of_heap rfl rfl ⟨rfl, fun _ => Nat.le_succ _⟩ rfl
  have hr1 := hr.more hm1
  refine wp_region_held (S := Still (tlist touch L) η { w with drawn := w.drawn + 1 }) hm ?_
  refine evDraw_ok (L0 := L) (η0 := η) (w0 := { w with drawn := w.drawn + 1 }) he h1.1 hQ ?_ _ _ _ env L η _ a h hr1 ⟨hr1.heap, ?_, FwdR.refl _ _ _, fun _ _ _ => rfl, (fun _ => ⟨rfl, rfl, rfl⟩), fun o x h1 h2 => by have := liveFrom_mem (tlist touch L) L 0 o x h1 h2; rwa [Nat.zero_add] at this⟩
  ·intro env' L' η' w' a' hk' hr' hf'
   exact hk env' L' η' w' a' hk' hr' ((hf.step ⟨noBad, Fwd.more hm1, fun o h => by cases h⟩).step ⟨_, hf', fun o h => h⟩)
  ·intro o ho
   have := List.all_eq_true.1 h1.2 o ho
   unfold liveAt at this
   split at this
   ·rename_i x hx; exact ⟨x, hx, this⟩
   ·cases this
end Go.Ab
namespace Go.Ab
open Go
variable [DMode] {K : Codes} {C : Cfg K} {X : Nat -> Prop} {N : Nat} {env : List PV} {L : Heap K} {η : Eta} {w : World} {a : Act}
theorem addNew_pre : ∀ (ys l : List Nat), ∃ r, addNew l ys = l ++ r
 | [], l => ⟨[], by simp [addNew]⟩
 | y :: ys, l => by
  simp only [addNew]
  split
  ·exact addNew_pre ys l
  ·obtain ⟨r, hr⟩ := addNew_pre ys (l ++ [y])
   exact ⟨y :: r, by rw [hr]; simp⟩
theorem addNew_nodup : ∀ (ys l : List Nat), l.Nodup -> (addNew l ys).Nodup
 | [], l, h => h
 | y :: ys, l, h => by
  simp only [addNew]
  split
  ·exact addNew_nodup ys l h
  ·rename_i hc
   refine addNew_nodup ys _ ?_
   rw [List.nodup_append]
   refine ⟨h, by simp, ?_⟩
   intro x hx z hz
   simp at hz; subst hz
   intro e; subst e
   simp [hx] at hc
theorem closeRefs_pre (L : Heap K) : ∀ (n i : Nat) (l : List Nat), ∃ r, closeRefs L n i l = l ++ r
 | 0, _, l => ⟨[], by simp [closeRefs]⟩
 | n + 1, i, l => by
  simp only [closeRefs]
  split
  ·split
   ·rename_i cs _
    obtain ⟨r, hr⟩ := addNew_pre (refs.go cs) l
    obtain ⟨r2, hr2⟩ := closeRefs_pre L n (i + 1) (addNew l (refs.go cs))
    exact ⟨r ++ r2, by rw [hr2, hr]; simp⟩
   ·exact closeRefs_pre L n (i + 1) l
  ·exact ⟨[], by simp⟩
theorem closeRefs_nodup (L : Heap K) : ∀ (n i : Nat) (l : List Nat), l.Nodup -> (closeRefs L n i l).Nodup
 | 0, _, l, h => h
 | n + 1, i, l, h => by
  simp only [closeRefs]
  split
  ·split
   ·exact closeRefs_nodup L n _ _ (addNew_nodup _ _ h)
   ·exact closeRefs_nodup L n _ _ h
  ·exact h
theorem idxIn_get : ∀ (l : List Nat) (i o j : Nat), idxIn l i o = some j -> i <= j /\ l[j - i]? = some o
 | [], i, o, j, h => by simp [idxIn] at h
 | p :: r, i, o, j, h => by
  simp only [idxIn] at h
  split at h
  ·rename_i hp
   cases h
   simp at hp; subst hp
   exact ⟨Nat.le_refl _, by simp⟩
  ·obtain ⟨h1, h2⟩ := idxIn_get r (i + 1) o j h
   refine ⟨by omega, ?_⟩
   rw [show j - i = (j - (i + 1)) + 1 by omega]
   simpa using h2
theorem pickL_get (L : Heap K) : ∀ (l : List Nat) (i : Nat) (x : AObj K), (pickL L l)[i]? = some x -> ∃ o, l[i]? = some o /\ (L[o]? = some x \/ x = .gone)
 | [], i, x, h => by simp [pickL] at h
 | o :: r, 0, x, h => by
  simp only [pickL, List.getElem?_cons_zero, Option.some.injEq] at h
  refine ⟨o, rfl, ?_⟩
  split at h
  ·rename_i y hy; subst h; exact .inl hy
  ·exact .inr h.symm
 | o :: r, i + 1, x, h => by
  simp only [pickL, List.getElem?_cons_succ] at h
  simpa using pickL_get L r i x h
theorem pickL_length (L : Heap K) : ∀ (l : List Nat), (pickL L l).length = l.length
 | [] => rfl
 | _ :: r => congrArg (· + 1) (pickL_length L r)
theorem nodup_inj {l : List Nat} (h : l.Nodup) {i j : Nat} (hi : i < l.length) (hj : j < l.length) (e : l[i] = l[j]) : i = j := by
 have := List.pairwise_iff_getElem.1 h
 rcases Nat.lt_trichotomy i j with q | q | q
 ·exact absurd e (this i j hi hj q)
 ·exact q
 ·exact absurd e.symm (this j i hj hi q)
def etaOf (l : List Nat) (η : Eta) : Eta := fun i => (l[i]?).bind η
theorem ren_get {L : Heap K} {l : List Nat} {ρ : Nat -> Option Nat} {i : Nat} {x : AObj K} (h : (renL ρ (pickL L l))[i]? = some x) (hl : x.live = true) : ∃ o y, l[i]? = some o /\ L[o]? = some y /\ x = renO ρ y := by
 rw [renL_get] at h
 obtain ⟨y, h1, h2⟩ := Option.map_eq_some_iff.1 h
 obtain ⟨o, h3, h4⟩ := pickL_get L l i y h1
 rcases h4 with h4 | h4
 ·exact ⟨o, y, h3, h4, h2.symm⟩
 ·subst h4; rw [<- h2] at hl; cases hl
theorem renO_box {ρ : Nat -> Option Nat} {y : AObj K} {cs : List PV} (h : .box cs = renO ρ y) : ∃ cs0, y = .box cs0 /\ cs = PV.ren.go ρ cs0 := by
 cases y <;> simp [renO] at h
 exact ⟨_, rfl, h⟩
theorem renO_mp {ρ : Nat -> Option Nat} {y : AObj K} {kd : IntKind} {e : TypeId} {f : Int -> Option (K e).α} (h : .mp kd e f = renO ρ y) : y = .mp kd e f := by
 cases y with
 | box cs => cases h
 | row _ _ => cases h
 | gone => cases h
 | mp kd' e' f' => exact h.symm
theorem renO_row {ρ : Nat -> Option Nat} {y : AObj K} {e : TypeId} {xs : List (K e).α} (h : .row e xs = renO ρ y) : y = .row e xs := by
 cases y with
 | box cs => cases h
 | mp _ _ _ => cases h
 | gone => cases h
 | row e' xs' => exact h.symm
section
variable {G : Sig} {l : List Nat}
theorem pick_mut {ρ : Nat -> Option Nat} {b : Nat} (h : Mut (renL ρ (pickL L l)) (etaOf l η) b) : Mut L η b := by
 obtain ⟨i, x, h1, h2, h3⟩ := h
 obtain ⟨o, y, h4, h5, rfl⟩ := ren_get h1 h2
 refine ⟨o, y, h5, by rw [<- renO_live]; exact h2, ?_⟩
 simpa [etaOf, h4] using h3
theorem pick_moves : Moves G L η w (renL (idxIn l 0) (pickL L l)) (etaOf l η) w (idxIn l 0) where
 froz := fun b o hM hb => ⟨fun q => hM (q.imp pick_mut id), hb⟩
 len := by
  intro o o' _ h
  obtain ⟨_, h⟩ := idxIn_get l 0 o o' h
  simp [renL_length, pickL_length]
  exact (List.getElem?_eq_some_iff.1 h).1
 box := by
  intro o o' cs' _ h hL
  obtain ⟨_, h⟩ := idxIn_get l 0 o o' h
  obtain ⟨o2, y, h1, h2, h3⟩ := ren_get hL rfl
  rw [Nat.sub_zero] at h
  rw [h] at h1; cases h1
  obtain ⟨cs0, rfl, _⟩ := renO_box h3
  exact ⟨cs0, h2, by simp [etaOf, h]⟩
 row := by
  intro o o' e xs' _ h hL
  obtain ⟨_, h⟩ := idxIn_get l 0 o o' h
  obtain ⟨o2, y, h1, h2, h3⟩ := ren_get hL rfl
  rw [Nat.sub_zero] at h
  rw [h] at h1; cases h1
  obtain rfl := renO_row h3
  exact ⟨xs', h2, rfl, by simp [etaOf, h], fun b cells t fr _ hb => ⟨cells, t, fr, hb, rfl⟩⟩
 mp := by
  intro o o' kd e f' _ h hL
  obtain ⟨_, h⟩ := idxIn_get l 0 o o' h
  obtain ⟨o2, y, h1, h2, h3⟩ := ren_get hL rfl
  rw [Nat.sub_zero] at h
  rw [h] at h1; cases h1
  obtain rfl := renO_mp h3
  exact ⟨f', h2, by simp [etaOf, h]⟩
theorem pick_heap (hn : l.Nodup) (hh : HeapRel G L η w) : HeapRel G (renL (idxIn l 0) (pickL L l)) (etaOf l η) w where
 obj := by
  intro i x h
  cases hl : x.live with
  | false => cases x <;> first | exact trivial | cases hl
  | true =>
   obtain ⟨o, y, h1, h2, rfl⟩ := ren_get h hl
   exact (hh.obj o y h2).mono pick_moves (by simp [etaOf, h1]) (fun _ _ => rfl)
 inj := by
  intro i i' x x' b h1 h2 h3 h4 h5 h6
  obtain ⟨o, y, g1, g2, rfl⟩ := ren_get h1 h3
  obtain ⟨o', y', g1', g2', rfl⟩ := ren_get h2 h4
  have := hh.inj o o' y y' b g2 g2' (by rw [<- renO_live]; exact h3) (by rw [<- renO_live]; exact h4) (by simpa [etaOf, g1] using h5) (by simpa [etaOf, g1'] using h6)
  subst this
  have hi := (List.getElem?_eq_some_iff.1 g1)
  have hi' := (List.getElem?_eq_some_iff.1 g1')
  obtain ⟨p1, p2⟩ := hi
  obtain ⟨p1', p2'⟩ := hi'
  exact nodup_inj hn p1 p1' (p2.trans p2'.symm)
 ext := fun b hb => ⟨(hh.ext b hb).1, fun q => (hh.ext b hb).2 (pick_mut q)⟩
 none := by
  intro i hi
  simp [renL_length, pickL_length] at hi
  simp [etaOf, List.getElem?_eq_none hi]
theorem range_get {m i : Nat} {r : List Nat} (h : i < m) : (List.range m ++ r)[i]? = some i := by
 rw [List.getElem?_append_left (by simpa using h)]
 simp [h]
theorem pick_fwd {L0 : Heap K} {η0 : Eta} {w0 : World} {r : List Nat} (hl : l = List.range L0.length ++ r) (h : FwdR L0 η0 w0 L η w) : FwdR L0 η0 w0 (renL (idxIn l 0) (pickL L l)) (etaOf l η) w where
 os := h.os
 tape := h.tape
 output := h.output
 size := h.size
 keep := h.keep
 muts := fun b q => h.muts b (pick_mut q)
 len := by simp [renL_length, pickL_length, hl]
 box := by
  intro o cs' ho hL
  obtain ⟨o2, y, h1, h2, h3⟩ := ren_get hL rfl
  have hlo : l[o]? = some o := by rw [hl]; exact range_get ho
  rw [hlo] at h1; cases h1
  obtain ⟨cs0, rfl, _⟩ := renO_box h3
  obtain ⟨cs, q1, q2⟩ := h.box o cs0 ho h2
  exact ⟨cs, q1, by simp [etaOf, hlo, q2]⟩
 kind := by
  intro o e xs' ho hL
  obtain ⟨o2, y, h1, h2, h3⟩ := ren_get hL rfl
  have hlo : l[o]? = some o := by rw [hl]; exact range_get ho
  rw [hlo] at h1; cases h1
  obtain rfl := renO_row h3
  exact h.kind o e xs' ho h2
 row := by
  intro o e xs' ho hb hL
  obtain ⟨o2, y, h1, h2, h3⟩ := ren_get hL rfl
  have hlo : l[o]? = some o := by rw [hl]; exact range_get ho
  rw [hlo] at h1; cases h1
  obtain rfl := renO_row h3
  obtain ⟨xs, q1, q2, q3, q4⟩ := h.row o e xs' ho hb h2
  exact ⟨xs, q1, q2, by simp [etaOf, hlo, q3], q4⟩
 trk := by
  intro o b ho hb
  have hlo : l[o]? = some o := by rw [hl]; exact range_get ho
  exact h.trk o b ho (by simpa [etaOf, hlo] using hb)
 mp := by
  intro o kd e f' ho hL
  obtain ⟨o2, y, h1, h2, h3⟩ := ren_get hL rfl
  have hlo : l[o]? = some o := by rw [hl]; exact range_get ho
  rw [hlo] at h1; cases h1
  obtain rfl := renO_mp h3
  obtain ⟨f, q1, q2⟩ := h.mp o kd e f' ho h2
  exact ⟨f, q1, by simp [etaOf, hlo, q2]⟩
end
theorem rootsOf_spec (L : Heap K) (m : Nat) (ys : List PV) : (closeRefs L 64 0 (addNew (List.range m) (refs.go ys))).Nodup /\ ∃ r, closeRefs L 64 0 (addNew (List.range m) (refs.go ys)) = List.range m ++ r := by
 refine ⟨closeRefs_nodup L _ _ _ (addNew_nodup _ _ List.nodup_range), ?_⟩
 obtain ⟨r, hr⟩ := addNew_pre (refs.go ys) (List.range m)
 obtain ⟨r2, hr2⟩ := closeRefs_pre L 64 0 (addNew (List.range m) (refs.go ys))
 exact ⟨r ++ r2, by rw [hr2, hr]; simp⟩
theorem RepVs.mono {G : Sig} {L' : Heap K} {η' : Eta} {w' : World} {ρ : Nat -> Option Nat} (h : Moves G L η w L' η' w' ρ) : ∀ {xs : List PV} {vs : List Value}, RepVs G L η w xs vs -> RepVs G L' η' w' (renE ρ xs) vs
 | [], _, hx => hx
 | x :: xs, vs, hx => by
  obtain ⟨v, r, rfl, h1, h2⟩ := hx
  exact ⟨v, r, rfl, RepV.mono h h1, RepVs.mono h h2⟩
theorem canon_env {L0 : Heap K} {η0 : Eta} {w0 : World} {T : List PV -> Heap K -> Prop} (hr : RelT C (sig C X) N env L η w a) (hf : FwdR L0 η0 w0 L η w) (h : canon L0.length env L T) :
 ∃ env' L' η', T env' L' /\ RelT C (sig C X) N env' L' η' w a /\ FwdR L0 η0 w0 L' η' w := by
 unfold canon at h
 obtain ⟨hn, r, hr'⟩ := rootsOf_spec L L0.length env
 generalize closeRefs L 64 0 (addNew (List.range L0.length) (refs.go env)) = l at hn hr' h
 have hm : Moves (sig C X) L η w (renL (idxIn l 0) (pickL L l)) (etaOf l η) w (idxIn l 0) := pick_moves
 refine ⟨_, _, etaOf l η, h, ⟨pick_heap hn hr.heap, by rw [renE, PV.ren_go_length]; exact hr.elen, hr.size, hr.defers, ?_, ?_⟩, pick_fwd hr' hf⟩
 ·intro t x hx
  rw [renE, PV.ren_go_get] at hx
  obtain ⟨y, hy, rfl⟩ := Option.map_eq_some_iff.1 hx
  exact RepV.mono hm (hr.tmp t y hy)
 ·exact fun g x hg => GlobAt.mono hm.froz (hr.glob g x hg)
theorem canon_res {G : Sig} {L0 : Heap K} {η0 : Eta} {w0 : World} {T : List PV -> Heap K -> Prop} {ys : List PV} {vs : List Value} (hh : HeapRel G L η w) (hv : RepVs G L η w ys vs) (hf : FwdR L0 η0 w0 L η w) (h : canon L0.length ys L T) :
 ∃ ys' L' η', T ys' L' /\ RepVs G L' η' w ys' vs /\ HeapRel G L' η' w /\ FwdR L0 η0 w0 L' η' w := by
 unfold canon at h
 obtain ⟨hn, r, hr'⟩ := rootsOf_spec L L0.length ys
 generalize closeRefs L 64 0 (addNew (List.range L0.length) (refs.go ys)) = l at hn hr' h
 exact ⟨_, _, etaOf l η, h, hv.mono pick_moves, pick_heap hn hh, pick_fwd hr' hf⟩
theorem mask_get (live : List Nat) : ∀ (xs : List PV) (i t : Nat) (x : PV), (mask live i xs)[t]? = some x -> x = .junk \/ xs[t]? = some x
 | [], i, t, x, h => by simp [mask] at h
 | y :: xs, i, 0, x, h => by
  simp only [mask, List.getElem?_cons_zero, Option.some.injEq] at h
  split at h
  ·exact .inr (by simp [h])
  ·exact .inl h.symm
 | y :: xs, i, t + 1, x, h => by
  simp only [mask, List.getElem?_cons_succ] at h
  simpa using mask_get live xs (i + 1) t x h
theorem mask_length (live : List Nat) : ∀ (xs : List PV) (i : Nat), (mask live i xs).length = xs.length
 | [], _ => rfl
 | _ :: xs, i => congrArg (· + 1) (mask_length live xs (i + 1))
theorem mask_rel (hr : RelT C (sig C X) N env L η w a) (live : List Nat) : RelT C (sig C X) N (mask live 0 env) L η w a :=
 ⟨hr.heap, by rw [mask_length]; exact hr.elen, hr.size, hr.defers, fun t x hx => by
  rcases mask_get live env 0 t x hx with rfl | h
  ·exact .inl rfl
  ·exact hr.tmp t x h, hr.glob⟩
def postT (P : Program) (Q : Exit -> Act -> World -> Prop) : List AItem -> Exit -> Act -> World -> Prop
 | [] => Q
 | .code c :: r => Exit.then (fun a w => c.wp P (postT P Q r) a w) (postT P Q r)
 | .endB i :: r => Exit.inBlock i (postT P Q r)
theorem postT_panic {P : Program} {Q : Exit -> Act -> World -> Prop} (hQ : ∀ c a w, ¬ Q (.panic c) a w) : ∀ (r : List AItem) (c : List PanicEntry) (a : Act) (w : World), ¬ postT P Q r (.panic c) a w
 | [], c, a, w => hQ c a w
 | .code _ :: r, c, a, w => postT_panic hQ r c a w
 | .endB _ :: r, c, a, w => postT_panic hQ r c a w
theorem postT_ret {P : Program} {Q : Exit -> Act -> World -> Prop} : ∀ (r : List AItem) (a : Act) (w : World), Q .ret a w -> postT P Q r .ret a w
 | [], _, _, h => h
 | .code _ :: r, a, w, h => postT_ret r a w h
 | .endB _ :: r, a, w, h => postT_ret r a w h
theorem postT_exit {P : Program} {Q : Exit -> Act -> World -> Prop} {id : Nat} : ∀ (r r' : List AItem) (a : Act) (w : World), afterExit id r = some r' -> postT P Q r' .normal a w -> postT P Q r (.exit id) a w
 | [], r', a, w, h, _ => by simp [afterExit] at h
 | .code _ :: r, r', a, w, h, hp => postT_exit r r' a w h hp
 | .endB i :: r, r', a, w, h, hp => by
  simp only [afterExit] at h
  show Exit.inBlock i (postT P Q r) (.exit id) a w
  simp only [Exit.inBlock]
  split at h
  ·rename_i hi; cases h
   rw [if_pos hi.symm]; exact hp
  ·rename_i hi
   rw [if_neg (fun e => hi e.symm)]
   exact postT_exit r r' a w h hp
theorem lone_inj {fr fr' : Frame} {cs cs' : List Frame} {w w' : World} (h : lone fr cs w = lone fr' cs' w') : fr = fr' := by
 simp only [lone, Machine.mk.injEq] at h
 have := h.2.1
 simp at this
 exact this.1
theorem steps_inLoop {P : Program} {b : Frame} {a : Act} {k : List Item} {cs : List Frame} {w : World} {c : Code} {m' : Machine} (h : Steps P (lone (b.at a (.code (.loop c) :: k)) cs w) m')
 (hne : m' ≠ lone (b.at a (.code (.loop c) :: k)) cs w) : Steps P (lone (b.at a (.inLoop c :: k)) cs w) m' := by
 obtain ⟨n, hn⟩ := h
 cases n with
 | zero =>
  simp only [runN] at hn
  cases hn
  exact absurd rfl hne
 | succ n =>
  simp only [runN, step_loop] at hn
  exact .head step_inLoop ⟨n, hn⟩
theorem exitTo_le {id : Nat} : ∀ (k k' : List Item), exitTo id k = some k' -> k'.length <= k.length
 | [], k', h => by simp [exitTo] at h
 | x :: k, k', h => by
  cases x <;> simp only [exitTo] at h
  all_goals first
   | (split at h
      ·cases h; simp
      ·have := exitTo_le k k' h; simp; omega)
   | (have := exitTo_le k k' h; simp; omega)
theorem wp_loop_once {P : Program} {c : Code} {Q : Exit -> Act -> World -> Prop} (hg : ∀ l a w, ¬ Q (.goto l) a w) (ho : ∀ a w, ¬ Q .outgrown a w)
 (h : c.wp P (Exit.then (fun a w => (Code.loop c).wp P Q a w) Q) a w) : (Code.loop c).wp P Q a w := by
 intro b k cs
 obtain ⟨e, a₁, w₁, hq, harr⟩ := h b (.inLoop c :: k) cs
 cases e with
 | normal =>
  obtain ⟨e₂, a₂, w₂, hq₂, harr₂⟩ := hq b k cs
  refine ⟨e₂, a₂, w₂, hq₂, .of_steps (.head step_loop harr) ?_⟩
  cases e₂ with
  | normal =>
   refine steps_inLoop harr₂ fun e => ?_
   have := congrArg Frame.todo (lone_inj e)
   have := congrArg List.length this
   simp [Frame.at] at this
  | exit id =>
   intro k' hk
   refine steps_inLoop (harr₂ k' hk) fun e => ?_
   have := congrArg Frame.todo (lone_inj e)
   have := congrArg List.length this
   have := exitTo_le _ _ hk
   simp_all [Frame.at]
   omega
  | goto l => exact (hg _ _ _ hq₂).elim
  | ret =>
   obtain ⟨todo, hs⟩ := harr₂
   refine ⟨todo, steps_inLoop hs fun e => ?_⟩
   have := congrArg Frame.mode (lone_inj e)
   simp [Frame.at] at this
  | panic ch =>
   obtain ⟨todo, hs⟩ := harr₂
   refine ⟨todo, steps_inLoop hs fun e => ?_⟩
   have := congrArg Frame.mode (lone_inj e)
   simp [Frame.at] at this
  | outgrown => exact (ho _ _ hq₂).elim
 | exit id => exact ⟨_, a₁, w₁, hq, .of_steps (.one step_loop) (.pass (x := .inLoop c) rfl (fun _ _ => .inl (by simp)) harr)⟩
 | goto l => exact ⟨_, a₁, w₁, hq, .of_steps (.one step_loop) (.pass (x := .inLoop c) rfl (fun _ _ => .inl (by simp)) harr)⟩
 | ret => exact ⟨_, a₁, w₁, hq, .of_steps (.one step_loop) (.pass (x := .inLoop c) rfl (fun _ _ => .inl (by simp)) harr)⟩
 | panic ch => exact ⟨_, a₁, w₁, hq, .of_steps (.one step_loop) (.pass (x := .inLoop c) rfl (fun _ _ => .inl (by simp)) harr)⟩
 | outgrown => exact ⟨_, a₁, w₁, hq, .of_steps (.one step_loop) (.pass (x := .inLoop c) rfl (fun _ _ => .inl (by simp)) harr)⟩
end Go.Ab
namespace Go.Ab
open Go
variable [DMode] {K : Codes} {C : Cfg K} {X : Nat -> Prop} {N : Nat} {env : List PV} {L : Heap K} {η : Eta} {w : World} {a : Act}
def Fin (C : Cfg K) (X : Nat -> Prop) (L0 : Heap K) (η0 : Eta) (w0 : World) (k : List PV -> Heap K -> Prop) (v : Value) (w' : World) : Prop :=
 ∃ rs L' η', k rs L' /\ RepV (sig C X) L' η' w' (retPV rs) v /\ HeapRel (sig C X) L' η' w' /\ FwdR L0 η0 w0 L' η' w'
def resSem (a : Act) : ResultVar -> Sem Value
 | .tmp t => pure (a.tmps.getD t undef)
 | .cell p t => do loadVar t (<- asAddr (a.tmps.getD p undef))
theorem evRes_ok (hc : CfgOk C) (hr : RelT C (sig C X) N env L η w a) : ∀ (res : List ResultVar) (k : List PV -> Prop), evRes C env L res k ->
 ∃ xs vs, (res.mapM (resSem a)).run C.P w = .ok vs w /\ RepVs (sig C X) L η w xs vs /\ k xs
 | [], k, h => ⟨[], [], by simp, rfl, h⟩
 | .tmp t :: r, k, h => by
  simp only [evRes] at h
  split at h
  ·rename_i x hx
   obtain ⟨xs, vs, h1, h2, h3⟩ := evRes_ok hc hr r _ h
   exact ⟨x :: xs, _ :: vs, by simp [resSem, h1, Result.andThen], ⟨_, _, rfl, hr.tmp t x hx, h2⟩, h3⟩
  ·exact h.elim
 | .cell p t :: r, k, h => by
  simp only [evRes] at h
  split at h
  ·rename_i x hx
   obtain ⟨u, y, b, h1, h2, h3, h4, h5⟩ := evLoad_ok hc hr.heap (hr.tmp p x hx) h
   obtain ⟨xs, vs, g1, g2, g3⟩ := evRes_ok hc hr r _ h2
   refine ⟨y :: xs, u :: vs, ?_, ⟨_, _, rfl, h3, g2⟩, g3⟩
   have hl := h1 w rfl
   have hv : ∃ A, a.tmps.getD p undef = .pointer (some A) := by
    have hp := hr.tmp p x hx
    unfold LoadBlk at h5
    split at h5
    ·obtain ⟨_, hq⟩ := repV_one hp (by simp) rfl
     obtain ⟨_, _, hq⟩ := hq
     obtain ⟨⟨cs, hL⟩, _⟩ := h5
     obtain ⟨b', _, hv⟩ := hq cs hL
     simp only [List.cons.injEq, and_true] at hv
     exact ⟨_, hv⟩
    ·obtain ⟨_, hq⟩ := repV_one hp (by simp) rfl
     obtain ⟨_, _, hq⟩ := hq
     obtain ⟨⟨e, xs, hL⟩, _⟩ := h5
     obtain ⟨_, _, b', _, hv⟩ := hq e xs hL
     simp only [List.cons.injEq, and_true] at hv
     exact ⟨_, hv⟩
    ·obtain ⟨_, hq⟩ := repV_one hp (by simp) rfl
     obtain ⟨b', _, _, _, _, _, hv, _⟩ := hq
     simp only [List.cons.injEq, and_true] at hv
     exact ⟨_, hv⟩
    ·obtain ⟨_, hq⟩ := repV_one hp (by simp) rfl
     obtain ⟨b', _, _, _, _, _, hv, _⟩ := hq
     simp only [List.cons.injEq, and_true] at hv
     exact ⟨_, hv⟩
    ·exact h5.elim
   obtain ⟨A, hv⟩ := hv
   rw [hv] at hl
   simp only [Instr.loadAt, Instr.sureAddr, Sem.run_bind, Sem.run_pure, Result.andThen] at hl
   simp [resSem, hv, asAddr, hl, g1, Result.andThen]
  ·exact h.elim
theorem solidRes_ok (hh : HeapRel (sig C X) L η w) (J : List Nat) : ∀ (xs ys : List PV) (ids : List Nat) (vs : List Value), solidRes C L xs = some (ys, ids) -> RepVs (sig C X) L η w xs vs ->
 Off (sig C X) L η ids (Mx (sig C X) (goneAll J L) η) -> RepVs (sig C X) (goneAll J L) η w ys vs
 | [], ys, ids, vs, h, hx, _ => by
  simp [solidRes] at h; obtain ⟨rfl, rfl⟩ := h; exact hx
 | x :: xs, ys, ids, vs, h, hx, ho => by
  simp only [solidRes] at h
  split at h
  ·rename_i ys' ids' h1
   obtain ⟨v, r, rfl, hv, hr⟩ := hx
   split at h
   ·rename_i t y
    split at h
    ·rename_i z hz
     cases h
     refine ⟨v, r, rfl, ?_, solidRes_ok hh J xs ys' _ r h1 hr ho.right⟩
     obtain ⟨q1, q2⟩ := repV_one hv (by simp) rfl
     have hF := (solid_ok hh depth).1 _ _ _ hz q2 ho.left
     exact repV_mk (by rw [solid_agg _ _ _ hz]; rfl) q1 (Rep.ofF _ _ hF)
    ·cases h
   ·cases h
    exact ⟨v, r, rfl, (gone_fwd J).repV hh hv, solidRes_ok hh J xs ys' _ r h1 hr ho⟩
  ·cases h
theorem goT_of {G : Sig} : ∀ {xs : List PV} {vs : List Value}, RepVs G L η w xs vs -> Rep.goT G L η w xs vs
 | [], _, h => h
 | x :: xs, vs, h => by
  obtain ⟨v, r, rfl, h1, h2⟩ := h
  refine ⟨v, r, rfl, ?_, ?_, goT_of h2⟩
  ·rcases h1 with h1 | h1
   ·exact .inr h1
   ·exact .inl h1.1
  ·rcases h1 with rfl | h1
   ·exact trivial
   ·exact h1.2
theorem repV_ret {G : Sig} {xs : List PV} {vs : List Value} (h : RepVs G L η w xs vs) : RepV G L η w (retPV xs) (if h : (⟨vs⟩ : Array Value).size = 1 then (⟨vs⟩ : Array Value)[0] else .tuple ⟨vs⟩) := by
 match xs, vs, h with
 | [], vs, h =>
  simp only [RepVs] at h; subst h
  exact .inr ⟨rfl, [], rfl, rfl⟩
 | [x], vs, h =>
  obtain ⟨v, r, rfl, h1, h2⟩ := h
  simp only [RepVs] at h2; subst h2
  exact h1
 | x :: y :: xs, vs, h =>
  have hg := goT_of h
  obtain ⟨v, r, rfl, h1, u, r', rfl, h2, h3⟩ := h
  exact .inr ⟨rfl, _, rfl, hg⟩
theorem fin_ok (hc : CfgOk C) {f : Fun} {fn : Func} (hres : fn.results = ⟨f.res⟩) {L0 : Heap K} {η0 : Eta} {w0 : World} (hm : L0.length = f.m) {k : List PV -> Heap K -> Prop} (h : evFin C f env L k) (hr : RelT C (sig C X) N env L η w a) (hf : FwdR L0 η0 w0 L η w) :
 a.defers = [] /\ ∃ v, (results fn a.tmps).run C.P w = .ok v w /\ ret (Fin C X L0 η0 w0 k) (.returned v) w := by
 refine ⟨hr.defers, ?_⟩
 obtain ⟨xs, vs, h1, h2, h3⟩ := evRes_ok hc hr _ _ h
 split at h3
 ·rename_i ys ids hs
  rw [<- hm] at h3
  have hv := solidRes_ok hr.heap ids xs ys ids vs hs h2 (gone_off hr.heap ids)
  obtain ⟨ys', L', η', q1, q2, q3, q4⟩ := canon_res (gone_heap hr.heap ids) hv (hf.step ⟨noBad, gone_fwd ids, fun o h => by cases h⟩) h3
  refine ⟨_, ?_, ys', L', η', q1, repV_ret q2, q3, q4⟩
  have : results fn a.tmps = (do
   let vs <- fn.results.mapM (resSem a)
   pure (if h : vs.size = 1 then vs[0] else .tuple vs)) := rfl
  rw [this, hres, Array.mapM_eq_mapM_toList]
  simp only [Sem.run_bind, Sem.run_map, h1, Result.andThen, Sem.run_pure]
 ·exact h3.elim
def AT (C : Cfg K) (X : Nat -> Prop) (N : Nat) (fn : Func) (L0 : Heap K) (η0 : Eta) (w0 : World) (k : List PV -> Heap K -> Prop) (todo : List AItem) (env : List PV) (L : Heap K) : Prop :=
 ∀ η w a, RelT C (sig C X) N env L η w a -> FwdR L0 η0 w0 L η w -> postT C.P (bodyPost C.P fn (ret (Fin C X L0 η0 w0 k))) todo .normal a w
theorem post_panic {fn : Func} {R : Value -> World -> Prop} : ∀ c a w, ¬ bodyPost C.P fn (ret R) (.panic c) a w := fun _ _ _ h => h.2.elim
theorem postT_goto {P : Program} {fn : Func} {R : Value -> World -> Prop} : ∀ (r : List AItem) (l : Nat) (a : Act) (w : World), ¬ postT P (bodyPost P fn (ret R)) r (.goto l) a w
 | [], _, _, _ => fun h => h
 | .code _ :: r, l, a, w => postT_goto r l a w
 | .endB _ :: r, l, a, w => postT_goto r l a w
theorem postT_out {P : Program} {fn : Func} {R : Value -> World -> Prop} : ∀ (r : List AItem) (a : Act) (w : World), ¬ postT P (bodyPost P fn (ret R)) r .outgrown a w
 | [], _, _ => fun h => h
 | .code _ :: r, a, w => postT_out r a w
 | .endB _ :: r, a, w => postT_out r a w
theorem cond_rel (hr : RelT C (sig C X) N env L η w a) {x : Operand} {t : Bool} (hx : evX C env x = .bool t) : a.eval x = .bool t /\ condE x env t = env := by
 have h := evX_ok hr x
 rw [hx] at h
 refine ⟨repV_bool h, ?_⟩
 cases x with
 | tmp d =>
  simp only [evX, List.getD_eq_getElem?_getD] at hx
  simp only [condE]
  cases hd : env[d]? with
  | none => rw [hd] at hx; cases hx
  | some y => rw [hd] at hx; simp at hx; subst hx; exact set_same hd
 | _ => rfl
theorem evT_ok (he : EnvOk C) (hmix : C.P.follows .mixedOrders = true) {f : Fun} {fn : Func} (hres : fn.results = ⟨f.res⟩) {L0 : Heap K} {η0 : Eta} {w0 : World} (hm : L0.length = f.m) {k : List PV -> Heap K -> Prop} :
 ∀ (n : Nat) (force : Bool) (todo : List AItem) (env : List PV) (L : Heap K), evT C f (AT C X N fn L0 η0 w0 k) k n force todo env L -> AT C X N fn L0 η0 w0 k todo env L
 | 0, _, _, _, _, h => h.elim
 | n + 1, force, todo, env, L, h => by
  have ih := fun force todo env L => evT_ok he hmix hres (η0 := η0) (w0 := w0) hm (k := k) n force todo env L
  have cut : ∀ (id : Option Nat) (todo : List AItem), evCut f id todo env L (AT C X N fn L0 η0 w0 k) -> AT C X N fn L0 η0 w0 k todo env L := by
   intro id todo h η w a hr hf
   unfold evCut at h
   rw [<- hm] at h
   split at h
   ·obtain ⟨env', L', η', h1, h2, h3⟩ := canon_env (mask_rel hr _) hf h
    exact h1 η' w a h2 h3
   ·obtain ⟨env', L', η', h1, h2, h3⟩ := canon_env hr hf h
    exact h1 η' w a h2 h3
  have fin : ∀ η w a, evFin C f env L k -> RelT C (sig C X) N env L η w a -> FwdR L0 η0 w0 L η w -> bodyPost C.P fn (ret (Fin C X L0 η0 w0 k)) .ret a w := fun η w a h hr hf => fin_ok he.cfg hres hm h hr hf
  unfold evT at h
  split at h
  ·exact fun η w a hr hf => fin η w a h hr hf
  ·exact fun η w a hr hf => ih _ _ _ _ h η w a hr hf
  ·rename_i c r
   intro η w a hr hf
   show c.wp C.P (postT C.P (bodyPost C.P fn (ret (Fin C X L0 η0 w0 k))) r) a w
   split at h
   ·exact wp_skip (ih _ _ _ _ h η w a hr hf)
   ·exact wp_seq (ih _ _ _ _ h η w a hr hf)
   ·rename_i x p q
    split at h
    ·rename_i t hx
     obtain ⟨hv, hce⟩ := cond_rel hr hx
     refine wp_cond_split hv ?_ ?_
     ·intro ht; subst ht
      rw [hce] at h
      exact ih _ _ _ _ h η w a hr hf
     ·intro ht; subst ht
      rw [hce] at h
      exact ih _ _ _ _ h η w a hr hf
    ·exact h.elim
   ·exact wp_block (ih _ _ _ _ h η w a hr hf)
   ·split at h
    ·exact wp_loop_once (postT_goto r) (postT_out r) (ih _ _ _ _ h η w a hr hf)
    ·exact cut _ _ h η w a hr hf
   ·split at h
    ·rename_i r' hex
     exact wp_exit (postT_exit r r' a w hex (ih _ _ _ _ h η w a hr hf))
    ·exact h.elim
   ·exact wp_ret (postT_ret r a w (fin η w a h hr hf))
   ·split at h
    ·exact cut _ _ h η w a hr hf
    ·exact evRegion_ok (L0 := L0) (η0 := η0) (w0 := w0) he hmix (postT_panic post_panic r) (fun env' L' η' w' a' h' hr' hf' => ih _ _ _ _ h' η' w' a' hr' hf') h hr hf
   ·exact wp_label (ih _ _ _ _ h η w a hr hf)
   ·exact wp_scope_straight (wp_mono (ih _ _ _ _ h η w a hr hf) fun e a w q => by
     cases e with
     | goto l => exact postT_goto r l a w q
     | _ => exact q)
   ·exact h.elim
def FunF (C : Cfg K) (g : FuncId) (m : Nat) (F : List PV -> Heap K -> (List PV -> Heap K -> Prop) -> Prop) : Prop :=
 ∀ (X : Nat -> Prop) (ys : List PV) (L0 : Heap K) (k : List PV -> Heap K -> Prop), L0.length = m -> F ys L0 k -> ∀ (η : Eta) (w : World) (vs : List Value),
  HeapRel (sig C X) L0 η w -> GlobOk C (Mx (sig C X) L0 η) w -> RepVs (sig C X) L0 η w ys vs -> Runs C.P (callFunc g ⟨vs⟩) w (Fin C X L0 η w k)
structure FnOk (P : Program) (g : FuncId) (fn : Func) (code : Code) : Prop where
 isfn : P.funcs[g]? = some fn
 body : fn.body = some code
 name : (fn.name == "runtime.NumGoroutine") = false
theorem FnOk.call {P : Program} {g : FuncId} {fn : Func} {code : Code} (h : FnOk P g fn code) (args : Array Value) (w : World) : (callFunc g args).run P w = .ok (.enter g args) w := by
 have hn : ¬ fn.name = "runtime.NumGoroutine" := by
  have := h.name
  simpa using this
 simp [callFunc, h.isfn, hn, h.body, Result.andThen]
def startEnv (N : Nat) (ys : List PV) : List PV := ys ++ List.replicate (N - ys.length) .junk
theorem repVs_get {G : Sig} : ∀ {xs : List PV} {vs : List Value} {t : Nat} {x : PV}, RepVs G L η w xs vs -> xs[t]? = some x -> ∃ v, vs[t]? = some v /\ RepV G L η w x v
 | [], _, _, _, _, h => by simp at h
 | y :: xs, vs, 0, x, hr, h => by
  obtain ⟨v, r, rfl, h1, h2⟩ := hr
  simp at h; subst h
  exact ⟨v, rfl, h1⟩
 | y :: xs, vs, t + 1, x, hr, h => by
  obtain ⟨v, r, rfl, h1, h2⟩ := hr
  simpa using repVs_get h2 (by simpa using h)
theorem repVs_length {G : Sig} : ∀ {xs : List PV} {vs : List Value}, RepVs G L η w xs vs -> vs.length = xs.length
 | [], _, h => by simp only [RepVs] at h; subst h; rfl
 | y :: xs, vs, hr => by
  obtain ⟨v, r, rfl, h1, h2⟩ := hr
  simp [repVs_length h2]
theorem fun_ok {g : FuncId} {fn : Func} {code : Code} (hfn : FnOk C.P g fn code) (hN : fn.ntmps = N) {m : Nat} {F : List PV -> Heap K -> (List PV -> Heap K -> Prop) -> Prop}
 (hAT : ∀ (X : Nat -> Prop) (L0 : Heap K) (η0 : Eta) (w0 : World) (k : List PV -> Heap K -> Prop) (ys : List PV), L0.length = m -> F ys L0 k -> ys.length <= N /\ AT C X N fn L0 η0 w0 k [.code code] (startEnv N ys) L0) : FunF C g m F := by
 intro X ys L0 k hL hF η w vs hh hg hv
 refine .inl ⟨g, ⟨vs⟩, hfn.call _ _, ?_⟩
 obtain ⟨hle, hat⟩ := hAT X L0 η w k ys hL hF
 have hlen := repVs_length hv
 refine calls_of_wp hfn.isfn hfn.body ?_
 refine hat η w _ ⟨hh, by simp [startEnv]; omega, by simp [hN, hlen]; omega, rfl, ?_, hg⟩ (FwdR.refl _ _ _)
 intro t x hx
 simp only [startEnv] at hx
 by_cases ht : t < ys.length
 ·rw [List.getElem?_append_left ht] at hx
  obtain ⟨v, h1, h2⟩ := repVs_get hv hx
  rw [Array.getD_eq_getD_getElem?, Array.getElem?_append_left (by simp [hlen, ht])]
  simp [h1]
  exact h2
 ·rw [List.getElem?_append_right (by omega), List.getElem?_replicate] at hx
  split at hx
  ·cases hx; exact .inl rfl
  ·cases hx
def MonoS (F : SpecS) : Prop := ∀ ys Φ Ψ, (∀ rs, Φ rs -> Ψ rs) -> F ys Φ -> F ys Ψ
theorem pure_fun {g : FuncId} {F : SpecS} (hmono : MonoS F) (h : FunF C g 0 fun ys L k => L = [] /\ F ys fun rs => k rs []) : FunS C g F := by
 intro Z ys Φ hF w vs hZ hg hv
 have hh : HeapRel (sig C Z) ([] : Heap K) noEta w :=
  ⟨fun o x h => by simp at h, fun o o' x x' b h => by simp at h, fun b hb => ⟨hZ b hb, fun ⟨o, x, h, _⟩ => by simp at h⟩, fun _ _ => rfl⟩
 have hMx : ∀ b, ¬ Z b -> ¬ Mx (sig C Z) ([] : Heap K) noEta b := by
  rintro b hb (⟨o, x, h, _⟩ | h)
  ·simp at h
  ·exact hb h
 have hvs : ∀ {xs : List PV} {us : List Value}, RepFs C.I Z w xs us -> RepVs (sig C Z) ([] : Heap K) noEta w xs us := by
  intro xs
  induction xs with
  | nil => intro us h; exact h
  | cons x xs ih =>
   intro us h
   obtain ⟨v, r, rfl, ⟨h1, h2⟩, h3⟩ := h
   exact ⟨v, r, rfl, .inr ⟨h2, Rep.ofF _ _ (RepF.mono (fun b o hb ho => ⟨hMx b hb, ho⟩) _ _ h1)⟩, ih h3⟩
 refine (h Z ys [] (fun rs L' => L' = [] /\ Φ rs) rfl ⟨rfl, hmono _ _ _ (fun rs h => ⟨rfl, h⟩) hF⟩ noEta w vs hh (fun g x hx => GlobAt.mono (fun b o hb ho => ⟨hMx b hb, ho⟩) (hg g x hx)) (hvs hv)).mono ?_
 rintro v w' ⟨rs, L', η', ⟨rfl, hΦ⟩, h1, h2, h3⟩
 have hm : Moves (sig C Z) ([] : Heap K) η' w' ([] : Heap K) noEta w' some :=
  ⟨fun b o hb ho => ⟨fun q => hb (q.imp (fun ⟨o, x, h, _⟩ => by simp at h) id), ho⟩, fun _ _ h => by simp at h, fun _ _ _ h => by simp at h, fun _ _ _ _ h => by simp at h, fun _ _ _ _ _ h => by simp at h, rfl, rfl⟩
 have := RepV.mono hm h1
 rw [PV.ren_id] at this
 exact ⟨rs, hΦ, this, ⟨h3.os, h3.tape, h3.output, h3.size, fun b hb => h3.keep b hb fun ⟨o, x, h, _⟩ => by simp at h⟩⟩
end Go.Ab
namespace Go.Ab
open Go
variable [DMode] {K : Codes} {C : Cfg K}
def zc : PV -> Value -> Bool
 | .int k n, .int k' n' => decide (k = k') && decide (n = n')
 | .bool b, .bool b' => b == b'
 | .str s, .string s' => s.data.toList.isEmpty && s'.data.toList.isEmpty
 | .raw (.slice none 0 0), .slice none 0 0 => true
 | .raw (.pointer none), .pointer none => true
 | .raw .nilFunc, .nilFunc => true
 | .err .nil, .nilIface => true
 | _, _ => false
def zcs : List PV -> List Value -> Bool
 | [], [] => true
 | x :: xs, v :: vs => zc x v && zcs xs vs
 | _, _ => false
theorem zc_ok {G : Sig} {L : Heap K} {η : Eta} {w : World} {x : PV} {v : Value} (h : zc x v = true) : x.isAgg = false /\ v.oneCell' = true /\ Rep G L η w x [v] := by
 unfold zc at h
 split at h
 ·simp only [Bool.and_eq_true, decide_eq_true_eq] at h
  obtain ⟨rfl, rfl⟩ := h
  exact ⟨rfl, rfl, rfl⟩
 ·simp at h; subst h; exact ⟨rfl, rfl, rfl⟩
 ·rename_i s s'
  simp only [Bool.and_eq_true, List.isEmpty_iff] at h
  have : s = s' := by
   cases s with
   | mk d => cases s' with
    | mk d' =>
     have h1 : d = #[] := by apply Array.ext'; exact h.1
     have h2 : d' = #[] := by apply Array.ext'; exact h.2
     rw [h1, h2]
  subst this
  exact ⟨rfl, rfl, rfl⟩
 ·exact ⟨rfl, rfl, rfl, rfl⟩
 ·exact ⟨rfl, rfl, rfl, rfl⟩
 ·exact ⟨rfl, rfl, rfl, rfl⟩
 ·exact ⟨rfl, rfl, _, rfl, rfl⟩
 ·cases h
theorem zcs_ok {G : Sig} {L : Heap K} {η : Eta} {w : World} : ∀ {xs : List PV} {vs : List Value}, zcs xs vs = true -> Rep.go G L η w xs vs
 | [], [], _ => rfl
 | x :: xs, v :: vs, h => by
  simp only [zcs, Bool.and_eq_true] at h
  obtain ⟨h1, h2, h3⟩ := zc_ok (G := G) (L := L) (η := η) (w := w) h.1
  exact ⟨v, vs, rfl, ⟨h1, h2⟩, h3, zcs_ok h.2⟩
 | [], _ :: _, h => by simp [zcs] at h
 | _ :: _, [], h => by simp [zcs] at h
def fsChk (P : Program) : List Field -> List (Nat × TypeId) -> Bool
 | [], [] => true
 | f :: fs, (o, ft) :: ps => Nat.beq f.offset o && Nat.beq f.type ft && (match P.info? ft with
  | some i => !Nat.beq i.size 0
  | none => false) && fsChk P fs ps
 | _, _ => false
def tdChk (P : Program) (t : TypeId) : TD -> Bool
 | .bool => match P.underlying t with | some .bool => true | _ => false
 | .int k => match P.underlying t with | some (.int k') => decide (k' = k) | _ => false
 | .str => match P.underlying t with | some .string => true | _ => false
 | .slice e => match P.underlying t with | some (.slice e') => Nat.beq e' e | _ => false
 | .struct fs => match P.underlying t with | some (.struct fields) => fsChk P fields.toList fs | _ => false
 | .array n e => match P.underlying t with | some (.array n' e') => Nat.beq n' n && Nat.beq e' e | _ => false
 | .ptr e => match P.underlying t with | some (.pointer e') => Nat.beq e' e | _ => false
 | .iface => match P.underlying t with | some (.interface _) => true | _ => false
 | .func => match P.underlying t with | some (.func _ _ _) => true | _ => false
 | .map k e => match P.underlying t with | some (.map k' e') => Nat.beq k' k && Nat.beq e' e | _ => false
 | .other => false
theorem fsChk_ok {P : Program} : ∀ {fields : List Field} {fs : List (Nat × TypeId)}, fsChk P fields fs = true ->
 (fields.mapM (fun f => (P.info? f.type).map fun i => (f.offset, i.size)) = some (fs.map fun p => (p.1, P.cellsOf p.2))) /\ ∀ (i o ft : Nat), fs[i]? = some (o, ft) -> ∃ f, fields[i]? = some f /\ f.offset = o /\ f.type = ft /\ P.cellsOf ft ≠ 0
 | [], [], _ => ⟨rfl, fun i o ft h => by simp at h⟩
 | f :: fields, (o, ft) :: fs, h => by
  simp only [fsChk, Bool.and_eq_true] at h
  obtain ⟨⟨⟨h1, h2⟩, h3⟩, h4⟩ := h
  have h1 := Nat.eq_of_beq_eq_true h1
  have h2 := Nat.eq_of_beq_eq_true h2
  obtain ⟨q1, q2⟩ := fsChk_ok h4
  split at h3
  ·rename_i i hi
   have hc : P.cellsOf ft = i.size := by simp [Program.cellsOf, hi]
   have hne : i.size ≠ 0 := by
    intro e; rw [e] at h3; exact absurd h3 (by decide)
   refine ⟨?_, ?_⟩
   ·rw [List.mapM_cons, h2, hi, q1]
    simp [hc, h1]
   ·intro j o' ft' hj
    cases j with
    | zero =>
     simp at hj
     obtain ⟨rfl, rfl⟩ := hj
     exact ⟨f, rfl, h1, h2, by rw [hc]; exact hne⟩
    | succ j => simpa using q2 j o' ft' (by simpa using hj)
  ·cases h3
 | [], _ :: _, h => by simp [fsChk] at h
 | _ :: _, [], h => by simp [fsChk] at h
theorem tdChk_ok {t : TypeId} {d : TD} (h : tdChk C.P t d = true) : TDok C t d := by
 cases d <;> simp only [tdChk] at h <;> simp only [TDok]
 case other => cases h
 case struct fs =>
  split at h
  ·rename_i fields hu
   obtain ⟨h1, h2⟩ := fsChk_ok h
   exact ⟨fields, hu, h1, fun i o ft hi => by
    obtain ⟨f, g1, g2⟩ := h2 i o ft hi
    exact ⟨f, by rw [<- Array.getElem?_toList]; exact g1, g2⟩⟩
  ·cases h
 case iface => split at h; rename_i ms hu; exact ⟨ms, hu⟩; cases h
 case func => split at h; rename_i a b c hu; exact ⟨a, b, c, hu⟩; cases h
 case bool => split at h; rename_i hu; exact hu; cases h
 case str => split at h; rename_i hu; exact hu; cases h
 case int k => split at h; rename_i k' hu; rw [decide_eq_true_eq] at h; subst h; exact hu; cases h
 case slice e => split at h; rename_i e' hu; have h := Nat.eq_of_beq_eq_true h; subst h; exact hu; cases h
 case ptr e => split at h; rename_i e' hu; have h := Nat.eq_of_beq_eq_true h; subst h; exact hu; cases h
 case map k e =>
  split at h
  ·rename_i n' e' hu
   rw [Bool.and_eq_true] at h
   have h1 := Nat.eq_of_beq_eq_true h.1
   have h2 := Nat.eq_of_beq_eq_true h.2
   subst h1 h2; exact hu
  ·cases h
 case array n e =>
  split at h
  ·rename_i n' e' hu
   rw [Bool.and_eq_true] at h
   have h1 := Nat.eq_of_beq_eq_true h.1
   have h2 := Nat.eq_of_beq_eq_true h.2
   subst h1 h2; exact hu
  ·cases h
def tyChk (P : Program) (t : TypeId) (i : TInfo) : Bool :=
 (match P.info? t with
 | some inf => Nat.beq inf.size i.size && Nat.beq inf.bytes i.bytes && (match inf.zero with
  | some z => (isAggV z == i.agg) && zcs i.zero z.cells.toList
  | none => false)
 | none => false) && Nat.beq i.zero.length i.size && tdChk P t i.td && (i.agg == i.td.isAgg)
theorem tyChk_ok {t : TypeId} {i : TInfo} (h : tyChk C.P t i = true) : TyOk C t i := by
 simp only [tyChk, Bool.and_eq_true] at h
 obtain ⟨⟨⟨h1, h2⟩, h3⟩, h4⟩ := h
 refine ⟨?_, Nat.eq_of_beq_eq_true h2, tdChk_ok h3, by simpa using h4⟩
 split at h1
 ·rename_i inf hinf
  rw [Bool.and_eq_true, Bool.and_eq_true] at h1
  obtain ⟨⟨g1, g2⟩, g3⟩ := h1
  split at g3
  ·rename_i z hz
   rw [Bool.and_eq_true] at g3
   exact ⟨inf, hinf, Nat.eq_of_beq_eq_true g1, Nat.eq_of_beq_eq_true g2, z, hz, by simpa using g3.1, fun G L η w => zcs_ok g3.2⟩
  ·cases g3
 ·cases h1
def tysChk (P : Program) : Nat -> List (Option TInfo) -> Bool
 | _, [] => true
 | t, x :: r => (match x with
  | some i => tyChk P t i
  | none => true) && tysChk P (t + 1) r
theorem tysChk_ok : ∀ (l : List (Option TInfo)) (s : Nat), tysChk C.P s l = true -> ∀ (t : Nat) (i : TInfo), (l[t]?).bind id = some i -> TyOk C (s + t) i
 | [], s, _, t, i, h => by simp at h
 | x :: r, s, hc, t, i, h => by
  simp only [tysChk, Bool.and_eq_true] at hc
  cases t with
  | zero =>
   simp at h
   subst h
   exact tyChk_ok hc.1
  | succ t =>
   have := tysChk_ok r (s + 1) hc.2 t i (by simpa using h)
   rw [show s + (t + 1) = s + 1 + t by omega]
   exact this
end Go.Ab
namespace Go.Ab
open Go
variable [DMode] {K : Codes} {C : Cfg K} {X : Nat -> Prop} {L L' : Heap K} {η η' : Eta} {w w' : World} {l : List Nat}
def backN (l : List Nat) (n i : Nat) : Option Nat := match l[i]? with
 | some o => some o
 | none => some (n + (i - l.length))
def merge1 (l : List Nat) (L' : Heap K) (n : Nat) (bad : List Nat) : Nat -> Heap K -> Heap K
 | _, [] => []
 | o, x :: r => (match idxIn l 0 o with
  | some i => match L'[i]? with
   | some y => renO (backN l n) y
   | none => .gone
  | none => renO (butAll bad) x) :: merge1 l L' n bad (o + 1) r
def mergeL (l : List Nat) (L L' : Heap K) (bad : List Nat) : Heap K := merge1 l L' L.length bad 0 L ++ renL (backN l L.length) (L'.drop l.length)
def lift (m : Nat) (F : List PV -> Heap K -> (List PV -> Heap K -> Prop) -> Prop) : Spec K := fun ys L Φ =>
 chk (Nat.beq (roots L ys).length m && (roots L ys).all fun o => Nat.blt o L.length)
  (F (renE (idxIn (roots L ys) 0) ys) (renL (idxIn (roots L ys) 0) (pickL L (roots L ys))) fun rs L' =>
   Φ (renE (backN (roots L ys) L.length) rs) (mergeL (roots L ys) L L' ((roots L ys).filter (isRow L))) ((roots L ys).filter (isRow L)))
def etaM (l : List Nat) (n : Nat) (η η' : Eta) : Eta := fun p => match idxIn l 0 p with
 | some i => η' i
 | none => if p < n then η p else η' (l.length + (p - n))
theorem idxIn_mem : ∀ (l : List Nat) (i o : Nat), o ∈ l -> ∃ j, idxIn l i o = some j
 | [], _, _, h => by simp at h
 | p :: r, i, o, h => by
  simp only [idxIn]
  split
  ·exact ⟨i, rfl⟩
  ·rename_i hp
   rcases List.mem_cons.1 h with rfl | h
   ·simp at hp
   ·exact idxIn_mem r (i + 1) o h
theorem idxIn_at (hn : l.Nodup) {i o : Nat} (h : l[i]? = some o) : idxIn l 0 o = some i := by
 obtain ⟨j, hj⟩ := idxIn_mem l 0 o (List.mem_of_getElem? h)
 obtain ⟨_, q⟩ := idxIn_get l 0 o j hj
 rw [Nat.sub_zero] at q
 obtain ⟨p1, p2⟩ := List.getElem?_eq_some_iff.1 h
 obtain ⟨p1', p2'⟩ := List.getElem?_eq_some_iff.1 q
 rw [hj, nodup_inj hn p1' p1 (p2'.trans p2.symm)]
theorem merge1_length (l : List Nat) (L' : Heap K) (n : Nat) (bad : List Nat) : ∀ (r : Heap K) (o : Nat), (merge1 l L' n bad o r).length = r.length
 | [], _ => rfl
 | _ :: r, o => congrArg (· + 1) (merge1_length l L' n bad r (o + 1))
theorem merge1_get (l : List Nat) (L' : Heap K) (n : Nat) (bad : List Nat) : ∀ (r : Heap K) (o p : Nat) (x : AObj K), (merge1 l L' n bad o r)[p]? = some x ->
 ∃ z, r[p]? = some z /\ x = (match idxIn l 0 (o + p) with
  | some i => match L'[i]? with
   | some y => renO (backN l n) y
   | none => .gone
  | none => renO (butAll bad) z)
 | [], o, p, x, h => by simp [merge1] at h
 | z :: r, o, 0, x, h => by
  simp only [merge1, List.getElem?_cons_zero, Option.some.injEq] at h
  exact ⟨z, rfl, h.symm⟩
 | z :: r, o, p + 1, x, h => by
  simp only [merge1, List.getElem?_cons_succ] at h
  obtain ⟨y, h1, h2⟩ := merge1_get l L' n bad r (o + 1) p x h
  exact ⟨y, by simpa using h1, by rw [h2, show o + 1 + p = o + (p + 1) by omega]⟩
def Mine (l : List Nat) (L L' : Heap K) (η η' : Eta) (p : Nat) (x : AObj K) : Prop := ∃ i y, L'[i]? = some y /\ x = renO (backN l L.length) y /\ etaM l L.length η η' p = η' i /\ backN l L.length i = some p /\ (p < L.length -> l[i]? = some p)
def Others (l : List Nat) (L : Heap K) (η η' : Eta) (bad : List Nat) (p : Nat) (x : AObj K) : Prop := ∃ y, p < L.length /\ idxIn l 0 p = none /\ L[p]? = some y /\ x = renO (butAll bad) y /\ etaM l L.length η η' p = η p
theorem merge_get {bad : List Nat} (hall : ∀ o, o ∈ l -> o < L.length) {p : Nat} {x : AObj K} (h : (mergeL l L L' bad)[p]? = some x) (hx : x.live = true) : Mine l L L' η η' p x \/ Others l L η η' bad p x := by
 unfold mergeL at h
 by_cases hp : p < L.length
 ·rw [List.getElem?_append_left (by rw [merge1_length]; exact hp)] at h
  obtain ⟨z, h1, h2⟩ := merge1_get _ _ _ _ _ _ _ _ h
  rw [Nat.zero_add] at h2
  split at h2
  ·rename_i i hi
   split at h2
   ·rename_i y hy
    left
    obtain ⟨_, q⟩ := idxIn_get l 0 p i hi
    rw [Nat.sub_zero] at q
    exact ⟨i, y, hy, h2, by simp [etaM, hi], by simp [backN, q], fun _ => q⟩
   ·subst h2; cases hx
  ·rename_i hi
   exact .inr ⟨z, hp, hi, h1, h2, by simp [etaM, hi, hp]⟩
 ·rw [List.getElem?_append_right (by rw [merge1_length]; omega), merge1_length, renL_get, List.getElem?_drop] at h
  obtain ⟨y, h1, h2⟩ := Option.map_eq_some_iff.1 h
  left
  have hi : idxIn l 0 p = none := by
   cases hq : idxIn l 0 p with
   | none => rfl
   | some i =>
    obtain ⟨_, q⟩ := idxIn_get l 0 p i hq
    exact absurd (hall p (List.mem_of_getElem? q)) hp
  refine ⟨_, y, h1, h2.symm, by simp [etaM, hi, hp], ?_, fun h => absurd h hp⟩
  have : l[l.length + (p - L.length)]? = none := List.getElem?_eq_none (by omega)
  simp only [backN, this]
  congr 1; omega
theorem merge_of (hn : l.Nodup) (hall : ∀ o, o ∈ l -> o < L.length) {bad : List Nat} {i : Nat} {y : AObj K} (h : L'[i]? = some y) : ∃ p, (mergeL l L L' bad)[p]? = some (renO (backN l L.length) y) /\ etaM l L.length η η' p = η' i /\ backN l L.length i = some p := by
 cases hl : l[i]? with
 | some o =>
  have hi := idxIn_at hn hl
  have ho := hall o (List.mem_of_getElem? hl)
  refine ⟨o, ?_, by simp [etaM, hi], by simp [backN, hl]⟩
  unfold mergeL
  rw [List.getElem?_append_left (by rw [merge1_length]; exact ho)]
  have hlt : o < (merge1 l L' L.length bad 0 L).length := by rw [merge1_length]; exact ho
  obtain ⟨z, h1, h2⟩ := merge1_get l L' L.length bad L 0 o _ (List.getElem?_eq_getElem hlt)
  rw [Nat.zero_add, hi] at h2
  simp only [h] at h2
  rw [List.getElem?_eq_getElem hlt, h2]
 | none =>
  have hge : l.length <= i := by
   rcases Nat.lt_or_ge i l.length with q | q
   ·rw [List.getElem?_eq_getElem q] at hl; cases hl
   ·exact q
  have hi : idxIn l 0 (L.length + (i - l.length)) = none := by
   cases hq : idxIn l 0 (L.length + (i - l.length)) with
   | none => rfl
   | some j =>
    obtain ⟨_, q⟩ := idxIn_get l 0 _ j hq
    have := hall _ (List.mem_of_getElem? q); omega
  refine ⟨L.length + (i - l.length), ?_, ?_, by simp [backN, hl]⟩
  ·unfold mergeL
   rw [List.getElem?_append_right (by rw [merge1_length]; omega), merge1_length, renL_get, List.getElem?_drop]
   rw [show l.length + (L.length + (i - l.length) - L.length) = i by omega, h]
   rfl
  ·simp only [etaM, hi]
   rw [if_neg (by omega)]
   congr 1; omega
theorem mergeL_length (bad : List Nat) : (mergeL l L L' bad).length = L.length + (L'.length - l.length) := by
 simp [mergeL, merge1_length, renL_length]
theorem RepVs.mono2 {G G' : Sig} {ρ : Nat -> Option Nat} (h : Moves2 G G' L η w L' η' w' ρ) : ∀ {xs : List PV} {vs : List Value}, RepVs G L η w xs vs -> RepVs G' L' η' w' (renE ρ xs) vs
 | [], _, hx => hx
 | x :: xs, vs, hx => by
  obtain ⟨v, r, rfl, h1, h2⟩ := hx
  exact ⟨v, r, rfl, RepV.mono h h1, RepVs.mono2 h h2⟩
theorem ret_ren (ρ : Nat -> Option Nat) (rs : List PV) : (retPV rs).ren ρ = retPV (renE ρ rs) := by
 match rs with
 | [] => rfl
 | [r] => rfl
 | r :: s :: t => rfl
def Other (l : List Nat) (L : Heap K) (η : Eta) (b : Nat) : Prop := ∃ p y, idxIn l 0 p = none /\ L[p]? = some y /\ y.live = true /\ η p = some b
def X0 (G : Sig) (l : List Nat) (L : Heap K) (η : Eta) (b : Nat) : Prop := Mx G L η b /\ ¬ Mut (renL (idxIn l 0) (pickL L l)) (etaOf l η) b
theorem x0_of {G : Sig} (hn : l.Nodup) (hh : HeapRel G L η w) {b : Nat} (h : Other l L η b \/ G.X b) : X0 G l L η b := by
 rcases h with ⟨p, y, h1, h2, h3, h4⟩ | h
 ·refine ⟨.inl ⟨p, y, h2, h3, h4⟩, ?_⟩
  rintro ⟨i, x, g1, g2, g3⟩
  obtain ⟨o, z, q1, q2, rfl⟩ := ren_get g1 g2
  have := hh.inj p o y z b h2 q2 h3 (by rw [<- renO_live]; exact g2) h4 (by simpa [etaOf, q1] using g3)
  subst this
  rw [idxIn_at hn q1] at h1; cases h1
 ·exact ⟨.inr h, fun q => (hh.ext b h).2 (pick_mut q)⟩
end Go.Ab
namespace Go.Ab
open Go
variable [DMode] {K : Codes} {C : Cfg K} {X : Nat -> Prop} {L L' : Heap K} {η η' : Eta} {w w' : World} {l : List Nat}
def subHeap (l : List Nat) (L : Heap K) : Heap K := renL (idxIn l 0) (pickL L l)
theorem sub_moves {G : Sig} : Moves2 G { G with X := X0 G l L η } L η w (subHeap l L) (etaOf l η) w (idxIn l 0) where
 froz := by
  intro b o hM hb
  refine ⟨?_, hb⟩
  rintro (q | q)
  ·exact hM (.inl (pick_mut q))
  ·exact hM q.1
 len := (pick_moves (G := G) (η := η) (w := w)).len
 box := (pick_moves (G := G) (w := w)).box
 row := (pick_moves (G := G) (w := w)).row
 mp := (pick_moves (G := G) (w := w)).mp
 I := rfl
 sz := rfl
theorem sub_heap {G : Sig} (hn : l.Nodup) (hh : HeapRel G L η w) : HeapRel { G with X := X0 G l L η } (subHeap l L) (etaOf l η) w where
 obj := by
  intro i x h
  cases hl : x.live with
  | false => cases x <;> first | exact trivial | cases hl
  | true =>
   obtain ⟨o, y, h1, h2, rfl⟩ := ren_get h hl
   exact (hh.obj o y h2).mono sub_moves (by simp [etaOf, h1]) (fun _ _ => rfl)
 inj := (pick_heap hn hh).inj
 ext := by
  intro b hb
  refine ⟨?_, hb.2⟩
  rcases hb.1 with q | q
  ·exact hh.lt q
  ·exact (hh.ext b q).1
 none := (pick_heap hn hh).none
structure After (G : Sig) (l : List Nat) (L : Heap K) (η : Eta) (w : World) (L' : Heap K) (η' : Eta) (w' : World) : Prop where
 nd : l.Nodup
 all : ∀ o, o ∈ l -> o < L.length
 heap : HeapRel G L η w
 heap' : HeapRel { G with X := X0 G l L η } L' η' w'
 fwd : FwdR (subHeap l L) (etaOf l η) w L' η' w'
theorem sub_length : (subHeap l L).length = l.length := by simp [subHeap, renL_length, pickL_length]
section
theorem After.mut {G : Sig} (h : After G l L η w L' η' w') {bad : List Nat} {b : Nat} (hb : Mut (mergeL l L L' bad) (etaM l L.length η η') b) : Mut L' η' b \/ Other l L η b := by
 obtain ⟨p, x, h1, h2, h3⟩ := hb
 rcases merge_get (η := η) (η' := η') h.all h1 h2 with ⟨i, y, g1, rfl, g3, _⟩ | ⟨y, _, g2, g3, rfl, g5⟩
 ·exact .inl ⟨i, y, g1, by rw [<- renO_live]; exact h2, by rw [<- g3]; exact h3⟩
 ·exact .inr ⟨p, y, g2, g3, by rw [<- renO_live]; exact h2, by rw [<- g5]; exact h3⟩
theorem After.keep {G : Sig} (h : After G l L η w L' η' w') {b : Nat} (hb : X0 G l L η b) : b < w.heap.size /\ w'.heap[b]? = w.heap[b]? := by
 have hlt : b < w.heap.size := by
  rcases hb.1 with q | q
  ·exact h.heap.lt q
  ·exact (h.heap.ext b q).1
 exact ⟨hlt, h.fwd.keep b hlt hb.2⟩
theorem After.othL {G : Sig} (h : After G l L η w L' η' w') {b : Nat} (hb : Other l L η b) : Mut L η b := by
 obtain ⟨p, y, _, h2, h3, h4⟩ := hb
 exact ⟨p, y, h2, h3, h4⟩
theorem After.fwdM {G : Sig} (h : After G l L η w L' η' w') : Fwd L η w (mergeL l L L' (l.filter (isRow L))) (etaM l L.length η η') w' (fun o => (l.filter (isRow L)).contains o) where
 os := h.fwd.os
 tape := h.fwd.tape
 output := h.fwd.output
 size := h.fwd.size
 keep := fun b hb hm => h.fwd.keep b hb fun q => hm (pick_mut q)
 muts := by
  intro b hb
  rcases h.mut hb with q | q
  ·rcases h.fwd.muts b q with q | q
   ·exact .inl (pick_mut q)
   ·exact .inr q
  ·exact .inl (h.othL q)
 len := by rw [mergeL_length]; omega
 box := by
  intro o cs' ho hL
  rcases merge_get (η := η) (η' := η') h.all hL rfl with ⟨i, y, g1, g2, g3, _, g5⟩ | ⟨y, _, g2, g3, g4, g5⟩
  ·obtain ⟨cs0, rfl, _⟩ := renO_box g2
   have hl := g5 ho
   have hi : i < (subHeap l L).length := by rw [sub_length]; exact (List.getElem?_eq_some_iff.1 hl).1
   obtain ⟨cs1, q1, q2⟩ := h.fwd.box i cs0 hi g1
   obtain ⟨o2, z, r1, r2, r3⟩ := ren_get q1 rfl
   rw [hl] at r1; cases r1
   obtain ⟨cs2, rfl, _⟩ := renO_box r3
   exact ⟨cs2, r2, by rw [g3, q2]; simp [etaOf, hl]⟩
  ·obtain ⟨cs0, rfl, _⟩ := renO_box g4
   exact ⟨cs0, g3, g5⟩
 kind := by
  intro o e xs' ho hL
  rcases merge_get (η := η) (η' := η') h.all hL rfl with ⟨i, y, g1, g2, g3, _, g5⟩ | ⟨y, _, g2, g3, g4, g5⟩
  ·obtain rfl := renO_row g2
   have hl := g5 ho
   have hi : i < (subHeap l L).length := by rw [sub_length]; exact (List.getElem?_eq_some_iff.1 hl).1
   obtain ⟨xs1, q1⟩ := h.fwd.kind i e xs' hi g1
   obtain ⟨o2, z, r1, r2, r3⟩ := ren_get q1 rfl
   rw [hl] at r1; cases r1
   obtain rfl := renO_row r3
   exact ⟨xs1, r2⟩
  ·obtain rfl := renO_row g4
   exact ⟨xs', g3⟩
 row := by
  intro o e xs' ho hbad hL
  rcases merge_get (η := η) (η' := η') h.all hL rfl with ⟨i, y, g1, g2, g3, _, g5⟩ | ⟨y, _, g2, g3, g4, g5⟩
  ·exfalso
   obtain rfl := renO_row g2
   have hl := g5 ho
   have hi : i < (subHeap l L).length := by rw [sub_length]; exact (List.getElem?_eq_some_iff.1 hl).1
   obtain ⟨xs1, q1⟩ := h.fwd.kind i e xs' hi g1
   obtain ⟨o2, z, r1, r2, r3⟩ := ren_get q1 rfl
   rw [hl] at r1; cases r1
   obtain rfl := renO_row r3
   have : o ∈ l.filter (isRow L) := List.mem_filter.2 ⟨List.mem_of_getElem? hl, by simp [isRow, r2]⟩
   simp at hbad this
   exact absurd (hbad this.1) (by simp [this.2])
  ·obtain rfl := renO_row g4
   refine ⟨xs', g3, rfl, g5, fun b cells t fr hη hb => ⟨cells, t, fr, ?_, rfl⟩⟩
   have hx : X0 G l L η b := x0_of h.nd h.heap (.inl ⟨o, _, g2, g3, rfl, hη⟩)
   rw [(h.keep hx).2]; exact hb
 trk := by
  intro o b ho hb
  simp only [etaM] at hb
  split at hb
  ·rename_i i hi
   obtain ⟨_, q⟩ := idxIn_get l 0 o i hi
   rw [Nat.sub_zero] at q
   have hi : i < (subHeap l L).length := by rw [sub_length]; exact (List.getElem?_eq_some_iff.1 q).1
   rcases h.fwd.trk i b hi hb with r | r
   ·left; simpa [etaOf, q] using r
   ·exact .inr r
  ·rw [if_pos ho] at hb; exact .inl hb
 mp := by
  intro o kd e f' ho hL
  rcases merge_get (η := η) (η' := η') h.all hL rfl with ⟨i, y, g1, g2, g3, _, g5⟩ | ⟨y, _, g2, g3, g4, g5⟩
  ·obtain rfl := renO_mp g2
   have hl := g5 ho
   have hi : i < (subHeap l L).length := by rw [sub_length]; exact (List.getElem?_eq_some_iff.1 hl).1
   obtain ⟨f1, q1, q2⟩ := h.fwd.mp i kd e f' hi g1
   obtain ⟨o2, z, r1, r2, r3⟩ := ren_get q1 rfl
   rw [hl] at r1; cases r1
   obtain rfl := renO_mp r3
   exact ⟨f1, r2, by rw [g3, q2]; simp [etaOf, hl]⟩
  ·obtain rfl := renO_mp g4
   exact ⟨f', g3, g5⟩
theorem After.mx {G : Sig} (h : After G l L η w L' η' w') {bad : List Nat} {b : Nat} : ¬ Mx { G with X := X0 G l L η } L' η' b -> ¬ Mx G (mergeL l L L' bad) (etaM l L.length η η') b := by
 rintro hb (q | q)
 ·rcases h.mut q with q | q
  ·exact hb (.inl q)
  ·exact hb (.inr (x0_of h.nd h.heap (.inl q)))
 ·exact hb (.inr (x0_of h.nd h.heap (.inr q)))
theorem After.back_moves {G : Sig} (h : After G l L η w L' η' w') {bad : List Nat} : Moves2 { G with X := X0 G l L η } G L' η' w' (mergeL l L L' bad) (etaM l L.length η η') w' (backN l L.length) where
 froz := fun b o hb ho => ⟨h.mx hb, ho⟩
 len := by
  intro i p hi hb
  rw [mergeL_length]
  simp only [backN] at hb
  split at hb
  ·rename_i o ho; cases hb
   have := h.all _ (List.mem_of_getElem? ho); omega
  ·rename_i hl
   cases hb
   have : l.length <= i := by
    rcases Nat.lt_or_ge i l.length with q | q
    ·rw [List.getElem?_eq_getElem q] at hl; cases hl
    ·exact q
   omega
 box := by
  intro i p cs' hi hb hL
  obtain ⟨y, hy⟩ : ∃ y, L'[i]? = some y := ⟨_, List.getElem?_eq_getElem hi⟩
  obtain ⟨p2, g1, g2, g3⟩ := merge_of (η := η) (η' := η') h.nd h.all (bad := bad) hy
  rw [hb] at g3; cases g3
  rw [hL] at g1
  obtain ⟨cs0, rfl, _⟩ := renO_box (Option.some.inj g1)
  exact ⟨cs0, hy, g2⟩
 row := by
  intro i p e xs' hi hb hL
  obtain ⟨y, hy⟩ : ∃ y, L'[i]? = some y := ⟨_, List.getElem?_eq_getElem hi⟩
  obtain ⟨p2, g1, g2, g3⟩ := merge_of (η := η) (η' := η') h.nd h.all (bad := bad) hy
  rw [hb] at g3; cases g3
  rw [hL] at g1
  obtain rfl := renO_row (Option.some.inj g1)
  exact ⟨xs', hy, rfl, g2, fun b cells t fr _ hb => ⟨cells, t, fr, hb, rfl⟩⟩
 mp := by
  intro i p kd e f' hi hb hL
  obtain ⟨y, hy⟩ : ∃ y, L'[i]? = some y := ⟨_, List.getElem?_eq_getElem hi⟩
  obtain ⟨p2, g1, g2, g3⟩ := merge_of (η := η) (η' := η') h.nd h.all (bad := bad) hy
  rw [hb] at g3; cases g3
  rw [hL] at g1
  obtain rfl := renO_mp (Option.some.inj g1)
  exact ⟨f', hy, g2⟩
 I := rfl
 sz := rfl
theorem After.heapM {G : Sig} (h : After G l L η w L' η' w') : HeapRel G (mergeL l L L' (l.filter (isRow L))) (etaM l L.length η η') w' where
 obj := by
  intro p x hx
  cases hl : x.live with
  | false => cases x <;> first | exact trivial | cases hl
  | true =>
   rcases merge_get (η := η) (η' := η') h.all hx hl with ⟨i, y, g1, rfl, g3, g4, _⟩ | ⟨y, g1, g2, g3, rfl, g5⟩
   ·exact (h.heap'.obj i y g1).mono h.back_moves g3 (fun _ _ => rfl)
   ·have hm := h.fwdM.moves (C := G) (fun b hb => (h.heap.ext b hb).1)
    refine (h.heap.obj p y g3).mono hm g5 (fun b hb => ?_)
    exact (h.keep (x0_of h.nd h.heap (.inl ⟨p, y, g2, g3, by rw [<- renO_live]; exact hl, hb⟩))).2
 inj := by
  intro p p' x x' b h1 h2 h3 h4 h5 h6
  rcases merge_get (η := η) (η' := η') h.all h1 h3 with ⟨i, y, g1, rfl, g3, g4, _⟩ | ⟨y, g1, g2, g3, rfl, g5⟩ <;>
  rcases merge_get (η := η) (η' := η') h.all h2 h4 with ⟨i', y', g1', rfl, g3', g4', _⟩ | ⟨y', g1', g2', g3', rfl, g5'⟩
  ·have := h.heap'.inj i i' y y' b g1 g1' (by rw [<- renO_live]; exact h3) (by rw [<- renO_live]; exact h4) (by rw [<- g3]; exact h5) (by rw [<- g3']; exact h6)
   subst this
   rw [g4] at g4'; cases g4'; rfl
  ·exfalso
   have hx := x0_of (b := b) h.nd h.heap (.inl ⟨p', y', g2', g3', by rw [<- renO_live]; exact h4, by rw [<- g5']; exact h6⟩)
   exact (h.heap'.ext b hx).2 ⟨i, y, g1, by rw [<- renO_live]; exact h3, by rw [<- g3]; exact h5⟩
  ·exfalso
   have hx := x0_of (b := b) h.nd h.heap (.inl ⟨p, y, g2, g3, by rw [<- renO_live]; exact h3, by rw [<- g5]; exact h5⟩)
   exact (h.heap'.ext b hx).2 ⟨i', y', g1', by rw [<- renO_live]; exact h4, by rw [<- g3']; exact h6⟩
  ·exact h.heap.inj p p' y y' b g3 g3' (by rw [<- renO_live]; exact h3) (by rw [<- renO_live]; exact h4) (by rw [<- g5]; exact h5) (by rw [<- g5']; exact h6)
 ext := by
  intro b hb
  refine ⟨Nat.lt_of_lt_of_le (h.heap.ext b hb).1 h.fwd.size, fun q => ?_⟩
  rcases h.mut q with q | q
  ·exact (h.heap'.ext b (x0_of h.nd h.heap (.inr hb))).2 q
  ·exact (h.heap.ext b hb).2 (h.othL q)
 none := by
  intro p hp
  rw [mergeL_length] at hp
  have hle := h.fwd.len
  rw [sub_length] at hle
  have hi : idxIn l 0 p = none := by
   cases hq : idxIn l 0 p with
   | none => rfl
   | some j =>
    obtain ⟨_, q⟩ := idxIn_get l 0 _ j hq
    have := h.all _ (List.mem_of_getElem? q); omega
  simp only [etaM, hi]
  rw [if_neg (by omega)]
  exact h.heap'.none _ (by omega)
end
theorem lift_ok {g : FuncId} {m : Nat} {F : List PV -> Heap K -> (List PV -> Heap K -> Prop) -> Prop} (h : FunF C g m F) : FunG C g (lift m F) := by
 intro X ys L Φ hF η w vs hh hg hv
 obtain ⟨hc, hF⟩ := chk_iff hF
 rw [Bool.and_eq_true] at hc
 have hlen := Nat.eq_of_beq_eq_true hc.1
 have hall : ∀ o, o ∈ roots L ys -> o < L.length := by
  intro o ho
  have := List.all_eq_true.1 hc.2 o ho
  rwa [Nat.blt_eq] at this
 have hn : (roots L ys).Nodup := closeRefs_nodup L _ _ _ (addNew_nodup _ _ List.nodup_nil)
 obtain ⟨l, hl⟩ : ∃ l, l = roots L ys := ⟨_, rfl⟩
 rw [<- hl] at hF hlen hall hn
 have hsub := sub_heap hn hh
 have hmv : Moves2 (sig C X) { sig C X with X := X0 (sig C X) l L η } L η w (subHeap l L) (etaOf l η) w (idxIn l 0) := sub_moves
 refine (h (X0 (sig C X) l L η) _ (subHeap l L) _ (by rw [sub_length]; exact hlen) hF (etaOf l η) w vs hsub (fun g x hx => GlobAt.mono hmv.froz (hg g x hx)) (hv.mono2 hmv)).mono ?_
 rintro v w' ⟨rs, L', η', hΦ, h1, h2, h3⟩
 have ha : After (sig C X) l L η w L' η' w' := ⟨hn, hall, hh, h2, h3⟩
 refine ⟨_, _, etaM l L.length η η', _, hΦ, ?_, ha.heapM, ha.fwdM, ?_, ?_⟩
 ·have := RepV.mono (ha.back_moves (bad := l.filter (isRow L))) h1
  rw [ret_ren] at this
  exact this
 ·intro o ho
  have : o ∈ l.filter (isRow L) := by simpa using ho
  exact (List.mem_filter.1 this).2
 ·intro b hb hno
  rw [<- hl] at hno
  refine ha.fwd.keep b hb ?_
  rintro ⟨i, x, g1, g2, g3⟩
  obtain ⟨o, z, q1, q2, rfl⟩ := ren_get g1 g2
  exact hno o (List.mem_of_getElem? q1) (by simpa [etaOf, q1] using g3)
end Go.Ab
namespace Go.Ab
open Go
variable [DMode] {K : Codes} {C : Cfg K}
inductive Conv : List PV -> List PV -> Prop where
 | nil : Conv [] []
 | same (x : PV) {xs ys : List PV} : Conv xs ys -> Conv (x :: xs) (x :: ys)
 | sl {α β : Type} {e : α -> PV} {f : β -> PV} {l : List α} {m : List β} {xs ys : List PV} : m.map f = l.map e -> Conv xs ys -> Conv (.sl α e l :: xs) (.sl β f m :: ys)
def bodyOf (f : Func) : Code := match f.body with
 | some c => c
 | none => .skip
def hasRegion (id : Nat) : Code -> Bool
 | .region i _ _ => Nat.beq i id
 | .seq a b => hasRegion id a || hasRegion id b
 | .cond _ a b => hasRegion id a || hasRegion id b
 | .block _ a => hasRegion id a
 | .loop a => hasRegion id a
 | .scope a => hasRegion id a
 | _ => false
def atLoop (id : Nat) : Nat -> List AItem -> List AItem
 | 0, l => l
 | n + 1, l => match l with
  | [] => []
  | .endB _ :: r => atLoop id n r
  | .code c :: r => match c with
   | .seq a b => match hasRegion id a with
    | true => atLoop id n (.code a :: .code b :: r)
    | false => atLoop id n (.code b :: r)
   | .cond _ a b => match hasRegion id a with
    | true => atLoop id n (.code a :: r)
    | false => match hasRegion id b with
     | true => atLoop id n (.code b :: r)
     | false => atLoop id n r
   | .block i a => match hasRegion id a with
    | true => atLoop id n (.code a :: .endB i :: r)
    | false => atLoop id n r
   | .loop a => match firstRegion a with
    | some j => match Nat.beq j id with
     | true => .code (.loop a) :: r
     | false => match hasRegion id a with
      | true => atLoop id n (.code a :: .code (.loop a) :: r)
      | false => atLoop id n r
    | none => atLoop id n r
   | .scope a => match hasRegion id a with
    | true => atLoop id n (.code a :: r)
    | false => atLoop id n r
   | _ => atLoop id n r
def td (f : Func) (id : Nat) : List AItem := atLoop id 200 [.code (bodyOf f)]
end Go.Ab
namespace Go.Ab
open Go
variable [DMode] {K : Codes} {C : Cfg K}
def MethOk (P : Program) (t : TypeId) (name : String) (g : FuncId) : Prop := ∀ v w, (method (P.types.size + Made.depth) t v name).run P w = .ok (g, v) w
theorem MethOk.call {P : Program} {t : TypeId} {name : String} {g : FuncId} (h : MethOk P t name g) (v : Value) (vs : List Value) (w : World) : (callMethod (.iface t v) name ⟨vs⟩).run P w = (callFunc g ⟨v :: vs⟩).run P w := by
 simp [callMethod, Result.andThen]
 rw [h v w]
end Go.Ab
namespace Go.Ab
open Go
variable [DMode] {K : Codes} {C : Cfg K}
theorem law_walk {g : FuncId} {fn : Func} {code : Code} {F : SpecS} (hfn : FnOk C.P g fn code) (hf : FunS C g F) {ys : List PV} {vs : List Value} {w : World} (hF : F ys fun rs => rs = [.bool true])
 (hg : GlobOk C (fun _ => False) w) (hv : RepFs C.I (fun _ => False) w ys vs) :
 Calls C.P g ⟨vs⟩ w (fun e w' => e = .returned (.bool true) /\ Go.RowKit.Below w.heap.size w w') := by
 rcases hf (fun _ => False) ys _ hF w vs (fun _ h => h.elim) hg hv with ⟨g', args, h1, h2⟩ | ⟨v, w', h1, _⟩
 ·rw [hfn.call] at h1
  simp only [Result.ok.injEq, Next.enter.injEq, and_true] at h1
  obtain ⟨rfl, rfl⟩ := h1
  refine h2.mono fun e w' he => ?_
  cases e with
  | returned v =>
   obtain ⟨rs, rfl, hr, hm⟩ := he
   have := repV_bool hr
   subst this
   exact ⟨rfl, hm.os, hm.tape.1, hm.output, hm.size, hm.keep⟩
  | panicked c => exact he.elim
  | outgrown => exact he.elim
 ·rw [hfn.call] at h1
  cases h1
end Go.Ab
namespace Go.Ab
open Go
variable [DMode] {K : Codes} {C : Cfg K} {X : Nat -> Prop} {N : Nat}
def envGo : Nat -> Nat -> List (Nat × PV) -> List PV
 | 0, _, _ => []
 | n + 1, i, [] => .junk :: envGo n (i + 1) []
 | n + 1, i, (j, x) :: r => bif Nat.beq i j then x :: envGo n (i + 1) r else .junk :: envGo n (i + 1) ((j, x) :: r)
def envAt (n : Nat) (l : List (Nat × PV)) : List PV := envGo n 0 l
def Closed (C : Cfg K) (f : Fun) (k : List PV -> Heap K -> Prop) (A : KA K) : Prop := ∀ (n : Nat) (force : Bool) (todo : List AItem) (env : List PV) (L : Heap K), evT C f A k n force todo env L -> A todo env L
theorem funF_of (he : EnvOk C) (hmix : C.P.follows .mixedOrders = true) {g : FuncId} {fn : Func} {code : Code} (hfn : FnOk C.P g fn code) (hN : Nat.beq fn.ntmps N = true) {f : Fun} (hres : fn.results = ⟨f.res⟩)
 {F : List PV -> Heap K -> (List PV -> Heap K -> Prop) -> Prop}
 (h : ∀ (A : KA K) (k : List PV -> Heap K -> Prop) (ys : List PV) (L : Heap K), Closed C f k A -> F ys L k -> Nat.ble ys.length N = true /\ A [.code code] (startEnv N ys) L) : FunF C g f.m F := by
 refine fun_ok (N := N) hfn (Nat.eq_of_beq_eq_true hN) ?_
 intro X L0 η0 w0 k ys hL hF
 obtain ⟨h1, h2⟩ := h (AT C X N fn L0 η0 w0 k) k ys L0 (fun n force todo env L h => evT_ok he hmix hres hL n force todo env L h) hF
 exact ⟨Nat.le_of_ble_eq_true h1, h2⟩
theorem funS_of (he : EnvOk C) (hmix : C.P.follows .mixedOrders = true) {g : FuncId} {fn : Func} {code : Code} (hfn : FnOk C.P g fn code) (hN : Nat.beq fn.ntmps N = true) {f : Fun} (hres : fn.results = ⟨f.res⟩) (hm0 : f.m = 0)
 {F : SpecS} (hm : MonoS F)
 (h : ∀ (A : KA K) (k : List PV -> Heap K -> Prop) (ys : List PV), Closed C f k A -> F ys (fun rs => k rs []) -> Nat.ble ys.length N = true /\ A [.code code] (startEnv N ys) []) : FunS C g F := by
 refine pure_fun hm ?_
 rw [<- hm0]
 refine funF_of he hmix hfn hN hres ?_
 rintro A k ys L hA ⟨rfl, hF⟩
 exact h A k ys hA hF
omit [DMode] in
theorem wrap_id (n : Int) (h0 : -9223372036854775808 <= n) (h1 : n <= 9223372036854775807) : IntKind.i64.wrap n = n := by
 unfold IntKind.wrap
 simp [IntKind.bits, IntKind.signed]
 omega
end Go.Ab
namespace Go.Ab
open Go
variable [DMode] {K : Codes} {C : Cfg K}
def fitF (ty : TypeId -> Option TInfo) : List Field -> Nat -> List PV -> Bool
 | [], _, [] => true
 | f :: fs, o, x :: xs => f.name != "_" && Nat.beq f.offset o && (match ty f.type, x with
  | some { td := .bool, .. }, .bool _ => true
  | some { td := .int k, .. }, .int k' _ => decide (k = k')
  | some { td := .str, .. }, .str _ => true
  | _, _ => false) && fitF ty fs (o + 1) xs
 | _, _, _ => false
def eqsOf (P : Program) (ty : TypeId -> Option TInfo) (t : TypeId) (xs : List PV) : Bool :=
 match P.underlying t with
 | some (.struct fields) => !P.stoodInHeld t && !P.eqGuardType P.depth t && fitF ty fields.toList 0 xs
 | _ => false
theorem isAgg_of {P : Program} {t : TypeId} {d : TypeDesc} (h : P.underlying t = some d) (hd : notAggD d = true) (w : World) : (isAgg t).run P w = .ok false w := by
 simp only [isAgg, Sem.run_bind, run_underlying h, Result.andThen_ok]
 cases d <;> simp_all [notAggD]
theorem part_run {P : Program} {t : TypeId} {d : TypeDesc} (h : P.underlying t = some d) (hd : notAggD d = true) {us : List Value} {o : Nat} {v : Value} (hv : us[o]? = some v) (w : World) : (part t ⟨us⟩ o).run P w = .ok v w := by
 simp [part, isAgg_of h hd, Result.andThen, hv]
theorem eqF (hty : ∀ t i, C.ty t = some i -> TyOk C t i) (d : Nat) (us vs : List Value) (w : World) : ∀ (fields : List Field) (o : Nat) (xs ys : List PV) (r : Bool), fitF C.ty fields o xs = true -> eqCells xs ys = some r ->
 ScL xs (us.drop o) -> ScL ys (vs.drop o) -> (Op.eqFields (d + 1) ⟨us⟩ ⟨vs⟩ fields).run C.P w = .ok r w
 | [], o, xs, ys, r, hf, he, _, _ => by
  cases xs with
  | nil => cases ys <;> simp [eqCells] at he; subst he; simp [Op.eqFields]
  | cons x xs => simp [fitF] at hf
 | f :: fs, o, [], ys, r, hf, _, _, _ => by simp [fitF] at hf
 | f :: fs, o, x :: xs, [], r, _, he, _, _ => by cases x <;> simp [eqCells] at he
 | f :: fs, o, x :: xs, y :: ys, r, hf, he, hx, hy => by
  simp only [fitF, Bool.and_eq_true] at hf
  obtain ⟨⟨⟨h1, h2⟩, h3⟩, h4⟩ := hf
  have h1 : f.name ≠ "_" := by simpa using h1
  have h2 := Nat.eq_of_beq_eq_true h2
  obtain ⟨u, ur, hu, hsx, hxr⟩ := hx
  obtain ⟨v, vr, hv, hsy, hyr⟩ := hy
  have hu0 : us[o]? = some u := by
   have := congrArg (·[0]?) hu
   simpa using this
  have hv0 : vs[o]? = some v := by
   have := congrArg (·[0]?) hv
   simpa using this
  have hur : us.drop (o + 1) = ur := by
   have := congrArg List.tail hu
   simpa using this
  have hvr : vs.drop (o + 1) = vr := by
   have := congrArg List.tail hv
   simpa using this
  have key : ∃ (q r' : Bool) (dd : TypeDesc), C.P.underlying f.type = some dd /\ notAggD dd = true /\ eqCells xs ys = some r' /\ r = (q && r') /\ (Op.equalIn (d + 1) f.type u v).run C.P w = .ok q w := by
   split at h3
   ·rename_i i1 i2 i3 i4 i5 b hq
    obtain ⟨i, hi⟩ : ∃ i, C.ty f.type = some i := ⟨_, hq⟩
    have htd := (hty _ _ hq).desc
    simp only [TDok] at htd
    cases y <;> first | (simp [eqCells] at he; done) | skip
    obtain ⟨r', h5, h6⟩ := Option.map_eq_some_iff.1 he
    simp only [Sc] at hsx hsy
    subst hsx hsy
    exact ⟨_, r', _, htd, rfl, h5, h6.symm, run_equalIn_bool' w d _ _ _ htd⟩
   ·rename_i k i2 i3 i4 i5 k' n hq
    have htd := (hty _ _ hq).desc
    simp only [TDok] at htd
    simp only [decide_eq_true_eq] at h3
    subst h3
    cases y <;> first | (simp [eqCells] at he; done) | skip
    simp only [eqCells] at he
    split at he
    case isFalse => cases he
    rename_i hkk
    subst hkk
    obtain ⟨r', h5, h6⟩ := Option.map_eq_some_iff.1 he
    simp only [Sc] at hsx hsy
    subst hsx hsy
    exact ⟨_, r', _, htd, rfl, h5, h6.symm, run_equalIn_int w d _ _ _ _ _ htd⟩
   ·rename_i i2 i3 i4 i5 b hq
    have htd := (hty _ _ hq).desc
    simp only [TDok] at htd
    cases y <;> first | (simp [eqCells] at he; done) | skip
    obtain ⟨r', h5, h6⟩ := Option.map_eq_some_iff.1 he
    simp only [Sc] at hsx hsy
    subst hsx hsy
    refine ⟨_, r', _, htd, rfl, h5, h6.symm, ?_⟩
    rw [beq_toListBytes]
    exact run_equalIn_string w d _ _ _ htd
   ·cases h3
  obtain ⟨q, r', dd, k1, k2, k3, rfl, k5⟩ := key
  simp only [Op.eqFields, if_pos h1, h2, Sem.run_bind, part_run k1 k2 hu0, part_run k1 k2 hv0, Result.andThen_ok, k5]
  cases q with
  | false => simp
  | true =>
   simp only [Bool.not_true, Bool.false_eq_true, if_false, Bool.true_and]
   exact eqF hty d us vs w fs (o + 1) xs ys r' h4 k3 (by rw [hur]; exact hxr) (by rw [hvr]; exact hyr)
theorem eqs_ok (hty : ∀ t i, C.ty t = some i -> TyOk C t i) {t : TypeId} {xs : List PV} (h : eqsOf C.P C.ty t xs = true) : EqOk C t xs := by
 unfold eqsOf at h
 split at h
 ·rename_i fields hu
  simp only [Bool.and_eq_true, Bool.not_eq_true'] at h
  obtain ⟨⟨h1, h2⟩, h3⟩ := h
  refine ⟨h2, fun ys us vs r w he hx hy => ?_⟩
  have hfs : C.P.fieldsOf t = fields := by simp [Program.fieldsOf, hu]
  show (Op.equalIn (9998 + 1 + 1) t (.agg ⟨us⟩) (.agg ⟨vs⟩)).run C.P w = _
  rw [run_equalIn_struct w _ t _ _ (by rw [hfs]; exact hu) h1, hfs]
  exact eqF hty 9998 us vs w _ 0 xs ys r h3 he (by simpa using hx) (by simpa using hy)
 ·cases h
end Go.Ab
namespace Go.Ab
open Go
variable [DMode] {K : Codes} {C : Cfg K} {X : Nat -> Prop} {L : Heap K} {η : Eta} {w : World}
end Go.Ab
namespace Go.Ab
open Go
variable [DMode] {K : Codes} {C : Cfg K}
theorem FunF.imp {g : FuncId} {m : Nat} {F F' : List PV -> Heap K -> (List PV -> Heap K -> Prop) -> Prop} (h : FunF C g m F) (hi : ∀ ys L k, F' ys L k -> F ys L k) : FunF C g m F' :=
 fun X ys L0 k hL hF => h X ys L0 k hL (hi _ _ _ hF)
end Go.Ab
namespace Go.Ab
open Go
variable [DMode] {K : Codes} {C : Cfg K}
end Go.Ab
namespace Go.Ab
open Go
variable [DMode] {K : Codes} {C : Cfg K}
theorem More.below (hd : DMode.dm = false) {n : Nat} {w w' : World} (h : Go.RowKit.Below n w w') (hn : w.heap.size <= n) : More w w' := ⟨h.os, ⟨h.tape, fun e => by rw [hd] at e; cases e⟩, h.output, h.size, fun b hb => h.block b (Nat.lt_of_lt_of_le hb hn)⟩
theorem funS_ofCalls {g : FuncId} {fn : Func} {code : Code} (hfn : FnOk C.P g fn code) {F : SpecS}
 (h : ∀ (Z : Nat -> Prop) (ys : List PV) (Φ : List PV -> Prop), F ys Φ -> ∀ (w : World) (vs : List Value), (∀ b, Z b -> b < w.heap.size) -> GlobOk C Z w -> RepFs C.I Z w ys vs ->
  Calls C.P g ⟨vs⟩ w fun e w' => ∃ v rs, e = .returned v /\ Φ rs /\ RepV (sig C Z) ([] : Heap K) noEta w' (retPV rs) v /\ More w w') : FunS C g F := by
 intro Z ys Φ hF w vs hZ hg hv
 refine .inl ⟨g, ⟨vs⟩, hfn.call _ _, (h Z ys Φ hF w vs hZ hg hv).mono ?_⟩
 rintro e w' ⟨v, rs, rfl, hΦ, hr, hm⟩
 exact ⟨rs, hΦ, hr, hm⟩
end Go.Ab
namespace Go.Ab
open Go
variable [DMode]
theorem var_heap {P : Program} {w : World} {name : String} {g : Nat} {cs : Array Value} (hg : P.globalNamed name = some g) (h : w.var? P name = some cs) : ∃ t fr, w.heap[g]? = some (.cells cs t fr) := by
 unfold World.var? at h
 rw [hg] at h
 simp only [Option.bind_some] at h
 split at h
 ·rename_i cs' t fr hh
  cases h
  exact ⟨t, fr, hh⟩
 ·cases h
theorem globAt_of {I : Ids} {w : World} {g : Nat} {cs : Array Value} {t : TypeId} {fr : Nat × Nat} {x : PV} (hh : w.heap[g]? = some (.cells cs t fr)) (hr : RepF I (fun _ => False) w x cs.toList) (hl : cs.size = x.cells.length) : GlobAt I (fun _ => False) w g x :=
 ⟨⟨g, 0, cs, t, fr, cs.toList, rfl, fun h => h, hh, hr, fun j v hj => by simpa using hj⟩, fun h => h, cs, t, fr, hh, hl⟩
end Go.Ab
namespace Go
section
variable {F : Fence} {n : Nat} {P : Program} {ops : Array Oper} {md : Region.Mode} {C : World -> Prop}
def Oper.isDefer (o : Oper) : Bool := match o.op with | .defer _ => true | _ => false
def Region.noDefer (ops : Array Oper) : Bool := ops.toList.all fun o => !o.isDefer
theorem Region.noDefer_spec {ops : Array Oper} (h : Region.noDefer ops = true) {i : Nat} {o : Oper} (hi : ops[i]? = some o) : ∀ c, o.op ≠ .defer c := fun c hc => by
 have h1 := List.all_eq_true.1 h o (Array.mem_toList_iff.2 (Array.mem_of_getElem? hi))
 simp [Oper.isDefer, hc] at h1
theorem Oper.wpIn_of_quietR {o : Oper} {a : Act} {K : Act -> Prop} {K' : Act -> World -> Prop} {Q' : Exit -> Act -> World -> Prop} {w : World} (hd : ∀ c, o.op ≠ .defer c) (hw : C w) (h : ∀ a w', C w' -> K a -> K' a w')
 (ha : o.askedIn F P a C) (hh : o.quietIn F n P a C K) : o.wpIn F n P a w K' Q' := by
 obtain ⟨v, h1, h2⟩ := hh
 have h3 := h1 w hw
 unfold Oper.quietAtIn at h3
 unfold Oper.wpIn
 refine ⟨ha w hw, ?_⟩
 rw [Oper.semAt_eq _ _ _ hd]
 generalize (execOp a.eval o).run P w = r at *
 cases r with
 | ok x w' =>
  cases x <;> simp only [Oper.quietUponIn] at h3 <;> simp only [Oper.uponIn]
  case value u =>
   obtain ⟨e1, e2⟩ := h3
   rw [e1, e2]
   exact h _ _ hw h2
  case skip =>
   obtain ⟨e1, e2⟩ := h3
   rw [e1, <- e2]
   exact h _ _ hw h2
  case enter f args =>
   obtain ⟨e1, hd, hc⟩ := h3
   rw [e1]
   exact ⟨hd, hc.mono fun e w'' ⟨he, hw''⟩ => by subst he; exact h _ _ hw'' h2⟩
 | halt x w' => simp only [Oper.quietUponIn] at h3
theorem wpOpIn_of_qOpInR {i : Nat} {a : Act} {K : Act -> Prop} {K' : Act -> World -> Prop} {Q' : Exit -> Act -> World -> Prop} {w : World} (hd : Region.noDefer ops = true) (hC : C w) (h : ∀ a w', C w' -> K a -> K' a w')
 (hh : qOpIn F n P ops C i K a) : wpOpIn F n P ops Q' i K' a w := by
 unfold qOpIn at hh
 unfold wpOpIn
 split
 ·rename_i ho; simp only [ho] at hh; exact h _ _ hC hh
 ·rename_i o ho
  simp only [ho] at hh
  obtain ⟨ha, hh⟩ := hh
  split
  ·rename_i hw; simp only [hw, if_true] at hh; exact Oper.wpIn_of_quietR (Region.noDefer_spec hd ho) hC h ha hh
  ·rename_i hw; simp only [hw] at hh; exact ⟨ha w hC, h _ _ hC hh⟩
theorem wpAnyIn_of_quietR {Q : Act -> Prop} {Q' : Exit -> Act -> World -> Prop} (hd : Region.noDefer ops = true) (hQ : ∀ a w, C w -> Q a -> Q' .normal a w) : ∀ (fuel : Nat) (listed : Array Bool) (a : Act) (w : World), C w ->
 wpAnyQIn F n P md ops C Q fuel listed a -> wpAnyIn F n P md ops Q' fuel listed a w
 | 0, _, _, _, hw, h => ⟨h.1, hQ _ _ hw h.2⟩
 | fuel + 1, _, _, _, hw, h => ⟨fun h0 => hQ _ _ hw (h.1 h0), fun i hi => wpOpIn_of_qOpInR hd hw (fun a' w' hw' => wpAnyIn_of_quietR hd hQ fuel _ a' w' hw') (h.2 i hi)⟩
theorem wpIn_region_quietR {id : Nat} {Q : Exit -> Act -> World -> Prop} {a : Act} {w : World} {l : List Oper} (hd : Region.noDefer l.toArray = true) (hm : P.follows .mixedOrders = true) (hB : Region.lexB .any l.toArray = true)
 (h : wpQuietIn F n P l.toArray (fun w' => ∃ n, w' = w.drewN n) (fun a' => ∀ w', (∃ n, w' = w.drewN n) -> Q .normal a' w') l a) : (Code.region id l.toArray true).wpIn F n P Q a w := by
 simp only [Region.lexB, Bool.and_eq_true] at hB
 refine wpIn_region_any hm (wpAnyIn_of_quietR (C := fun w' => ∃ n, w' = w.drewN n) (Q := fun a' => ∀ w', (∃ n, w' = w.drewN n) -> Q .normal a' w') hd (fun _ w' hw' h => h w' hw') _ _ _ _ ⟨1, rfl⟩ ?_)
 have := wpAnyQIn_lex (F := F) (n := n) (C := fun w' => ∃ n, w' = w.drewN n) (md := .any) hB.1 l 0 (Array.replicate l.toArray.size false) a (by simp) (by simpa using hB.2) h
 simpa using this
end
namespace BigFrame
macro "gi_quiet_r " "(" tac:tactic ")" : tactic => `(tactic|
 (refine wpIn_region_quietR (by kernel_rfl) (by assumption) (by kernel_rfl) ?_
  repeat (gi_big_quiet_step ($tac:tactic))
  refine wpQuietIn_nil ?_
  intro _ hw'
  obtain ⟨$(Lean.mkIdent `nq):ident, hw''⟩ := hw'
  subst hw''))
end BigFrame
end Go
