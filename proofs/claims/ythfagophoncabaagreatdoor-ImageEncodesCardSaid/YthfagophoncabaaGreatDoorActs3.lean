import Derived.Test.YthfagophoncabaaGreatDoorActs2
import Derived.Test.YthfagophoncabaaGreatDoorRef05
import Derived.Test.YthfagophoncabaaGreatDoorMaB
set_option linter.unusedVariables false
set_option linter.unusedSimpArgs false
set_option linter.unusedSectionVars false
namespace Go.Ab.T
open Go Go.Ab Go.Proofs
variable [DMode]
set_option maxRecDepth 100000
set_option maxHeartbeats 4000000
noncomputable def AE0 := base (fun g => match g with | 88 => some (lift 1 EnterS) | 89 => some (lift 1 NeedS) | 96 => some (lift 1 ErrS) | 90 => some (lift 1 U8S) | _ => none) (fun g => match g with | 43 => some PlaceS | 107 => some doesS | 108 => some ltAS | _ => none) (fun _ => none)
theorem env_AE0 : EnvOk AE0 := env_of (by
 intro g F h
 split at h
 ·cases h; exact ok_Place
 ·cases h; exact ok_doesF
 ·cases h; exact ok_less11
 ·cases h) (by
 intro g F h
 split at h
 ·cases h; exact (lift_ok ok_Enter)
 ·cases h; exact (lift_ok ok_Need)
 ·cases h; exact (lift_ok ok_rErr)
 ·cases h; exact (lift_ok ok_U8)
 ·cases h) (fun g F h => (by cases h))
theorem fn_acRead : FnOk Tryz.prog 40 Tryz.f40 (bodyOf Tryz.f40) := ⟨by kernel_rfl, by kernel_rfl, by kernel_rfl⟩
noncomputable def ff_acRead : Fun := ⟨Tryz.f40.ntmps, 1, Tryz.f40.results.toList, fun i => match i with | 4 => some [0, 1, 6, 7] | _ => none, fun _ => false, fun i => match i with | 9 => [0,9999] | _ => []⟩
theorem nf_acRead_a (A : KA Kd) (k : List PV -> Heap Kd -> Prop) (s : ByteArray) (a sec n : Int) (e : Err) : evT AE0 ff_acRead A k 400 false [.code (bodyOf Tryz.f40)] (startEnv 63 [.ptr 0 0, .int .i64 n]) [.box [.str s, .int .i64 a, .int .i64 sec, .err e]] = (A (td Tryz.f40 4) (envAt 63 [(0, .ptr 0 0), (1, .int .i64 n), (6, .own 1), (7, .int .i64 0)]) [.box [.str s, .int .i64 a, .int .i64 5, .err e], .row 141 []]) := by kernel_rfl
theorem nf_acRead_b (A : KA Kd) (k : List PV -> Heap Kd -> Prop) (s : ByteArray) (a n i : Int) (e : Err) (l : List Act3) : evT AE0 ff_acRead A k 400 true (td Tryz.f40 4) (envAt 63 [(0, .ptr 0 0), (1, .int .i64 n), (6, .own 1), (7, .int .i64 i)]) [.box [.str s, .int .i64 a, .int .i64 5, .err e], .row 141 l] = (bif decide (i < n) then bif e.isNil then (0 <= a /\ a <= (↑s.size : Int) /\ s.size < 4611686018427387904) /\ (0 <= rdAt s a 1 e /\ rdAt s a 1 e <= (↑s.size : Int) /\ s.size < 4611686018427387904) /\ (0 <= rdAt s (rdAt s a 1 e) 1 (rdE s a 1 5 e) /\ rdAt s (rdAt s a 1 e) 1 (rdE s a 1 5 e) <= (↑s.size : Int) /\ s.size < 4611686018427387904) /\ bif i == 0 then ∃ (zs : List (Int × Int × Int)), List.map e_api_Act zs = [PV.agg [PV.int IntKind.i64 (rdV s a 1 e), PV.int IntKind.i64 (rdV s (rdAt s a 1 e) 1 (rdE s a 1 5 e)), PV.int IntKind.i64 (rdV s (rdAt s (rdAt s a 1 e) 1 (rdE s a 1 5 e)) 1 (rdE s (rdAt s a 1 e) 1 5 (rdE s a 1 5 e)))]] /\ (l.length + (zs).length) * (TInfo.mk (TD.struct [((0 : Nat), (3 : TypeId)), ((1 : Nat), (3 : TypeId)), ((2 : Nat), (3 : TypeId))]) (3 : Nat) (24 : Nat) [PV.int IntKind.i64 0, PV.int IntKind.i64 0, PV.int IntKind.i64 0] true []).bytes <= 140737488355328 /\ A (td Tryz.f40 4) (envAt 63 [(0, .ptr 0 0), (1, .int .i64 n), (6, .own 1), (7, .int .i64 (IntKind.i64.wrap (i + 1)))]) [.box [.str s, .int .i64 (rdAt s (rdAt s (rdAt s a 1 e) 1 (rdE s a 1 5 e)) 1 (rdE s (rdAt s a 1 e) 1 5 (rdE s a 1 5 e))), .int .i64 5, .err (needE (needE (rdE s (rdAt s (rdAt s a 1 e) 1 (rdE s a 1 5 e)) 1 5 (rdE s (rdAt s a 1 e) 1 5 (rdE s a 1 5 e))) (doesA (rdV s (rdAt s (rdAt s a 1 e) 1 (rdE s a 1 5 e)) 1 (rdE s (rdAt s a 1 e) 1 5 (rdE s a 1 5 e)))) 5 6 (IntKind.i64.wrap (a + 2))) true 5 9 a)], .row 141 (l ++ zs)] else (0 <= IntKind.i64.wrap (i - 1) /\ IntKind.i64.wrap (i - 1) < (↑l.length : Int)) /\ ∀ (y : (Int × Int × Int)), l[(IntKind.i64.wrap (i - 1)).toNat]? = some y -> ∃ (zs : List (Int × Int × Int)), List.map e_api_Act zs = [PV.agg [PV.int IntKind.i64 (rdV s a 1 e), PV.int IntKind.i64 (rdV s (rdAt s a 1 e) 1 (rdE s a 1 5 e)), PV.int IntKind.i64 (rdV s (rdAt s (rdAt s a 1 e) 1 (rdE s a 1 5 e)) 1 (rdE s (rdAt s a 1 e) 1 5 (rdE s a 1 5 e)))]] /\ (l.length + (zs).length) * (TInfo.mk (TD.struct [((0 : Nat), (3 : TypeId)), ((1 : Nat), (3 : TypeId)), ((2 : Nat), (3 : TypeId))]) (3 : Nat) (24 : Nat) [PV.int IntKind.i64 0, PV.int IntKind.i64 0, PV.int IntKind.i64 0] true []).bytes <= 140737488355328 /\ A (td Tryz.f40 4) (envAt 63 [(0, .ptr 0 0), (1, .int .i64 n), (6, .own 1), (7, .int .i64 (IntKind.i64.wrap (i + 1)))]) [.box [.str s, .int .i64 (rdAt s (rdAt s (rdAt s a 1 e) 1 (rdE s a 1 5 e)) 1 (rdE s (rdAt s a 1 e) 1 5 (rdE s a 1 5 e))), .int .i64 5, .err (needE (needE (rdE s (rdAt s (rdAt s a 1 e) 1 (rdE s a 1 5 e)) 1 5 (rdE s (rdAt s a 1 e) 1 5 (rdE s a 1 5 e))) (doesA (rdV s (rdAt s (rdAt s a 1 e) 1 (rdE s a 1 5 e)) 1 (rdE s (rdAt s a 1 e) 1 5 (rdE s a 1 5 e)))) 5 6 (IntKind.i64.wrap (a + 2))) (ltA (y.fst, y.snd.fst, y.snd.snd) (rdV s a 1 e, rdV s (rdAt s a 1 e) 1 (rdE s a 1 5 e), rdV s (rdAt s (rdAt s a 1 e) 1 (rdE s a 1 5 e)) 1 (rdE s (rdAt s a 1 e) 1 5 (rdE s a 1 5 e)))) 5 9 a)], .row 141 (l ++ zs)] else bif !e.isNil then k [.own 1, .err e] [.box [.str s, .int .i64 a, .int .i64 5, .err e], .row 141 []] else k [.own 1, .err Err.nil] [.box [.str s, .int .i64 a, .int .i64 5, .err e], .row 141 l]
else bif !e.isNil then k [PV.own (1 : Nat), PV.err e] [AObj.box [PV.str s, PV.int IntKind.i64 a, PV.int IntKind.i64 (5 : Int), PV.err e], AObj.row (141 : Nat) []] else k [PV.own (1 : Nat), PV.err Err.nil] [AObj.box [PV.str s, PV.int IntKind.i64 a, PV.int IntKind.i64 (5 : Int), PV.err e], AObj.row (141 : Nat) l]) := by kernel_rfl
def acReadS : List PV -> Heap Kd -> (List PV -> Heap Kd -> Prop) -> Prop := fun ys L k => match ys, L with
 | [.ptr 0 0, .int .i64 n], [.box [.str s, .int .i64 a, .int .i64 sec, .err e]] => ((0 <= a /\ a <= (s.size : Int) /\ s.size < 1099511627776) /\ n <= 9223372036854775807) /\ k [.own 1, .err (acsX s n.toNat none (a, e)).2] [.box [.str s, .int .i64 (acsX s n.toNat none (a, e)).1, .int .i64 5, .err (acsX s n.toNat none (a, e)).2], .row 141 (resA s n.toNat (a, e))]
 | _, _ => False
theorem acReadS_inv {ys : List PV} {L : Heap Kd} {k : List PV -> Heap Kd -> Prop} (h : acReadS ys L k) : ∃ (s : ByteArray) (a : Int) (sec : Int) (n : Int) (e : Err), ys = [.ptr 0 0, .int .i64 n] /\ L = [.box [.str s, .int .i64 a, .int .i64 sec, .err e]] /\ ((0 <= a /\ a <= (s.size : Int) /\ s.size < 1099511627776) /\ n <= 9223372036854775807) /\ k [.own 1, .err (acsX s n.toNat none (a, e)).2] [.box [.str s, .int .i64 (acsX s n.toNat none (a, e)).1, .int .i64 5, .err (acsX s n.toNat none (a, e)).2], .row 141 (resA s n.toNat (a, e))] := by
 unfold acReadS at h
 split at h
 ·exact ⟨_, _, _, _, _, rfl, rfl, h⟩
 ·exact h.elim
def lastA (acc : List Act3) : Option Act3 := prevA acc acc.length
theorem lastA_add (acc : List Act3) (v : Act3) : lastA (acc ++ [v]) = some v := by
 unfold lastA
 rw [List.length_append, List.length_singleton]
 show (acc ++ [v])[acc.length]? = some v
 rw [List.getElem?_append_right (Nat.le_refl _), Nat.sub_self]; rfl
theorem acRead_loop (A : KA Kd) (k : List PV -> Heap Kd -> Prop) (hA : Closed AE0 ff_acRead k A) (s : ByteArray) (hs : s.size < 1099511627776) (n : Int) (hn : n <= 9223372036854775807) :
 ∀ (m i : Nat), (m : Int) + (i : Int) = n \/ (m = 0 /\ n <= (i : Int)) -> ∀ (acc : List Act3) (x : RS), acc.length = i -> (x.2.isNil = true -> (i : Int) <= x.1) -> hIn s x ->
  (∀ r, r = (bif (acsX s m (lastA acc) x).2.isNil then addA2 acc (acsV s m (lastA acc) x) else []) -> k [.own 1, .err (acsX s m (lastA acc) x).2] [.box [.str s, .int .i64 (acsX s m (lastA acc) x).1, .int .i64 5, .err (acsX s m (lastA acc) x).2], .row 141 r]) ->
  A (td Tryz.f40 4) (envAt 63 [(0, .ptr 0 0), (1, .int .i64 n), (6, .own 1), (7, .int .i64 (i : Int))]) [.box [.str s, .int .i64 x.1, .int .i64 5, .err x.2], .row 141 acc] := by
 intro m
 induction m with
 | zero =>
  intro i hi acc x hacc hix hx hk
  refine (hA.nf (nf_acRead_b A k s x.1 n i x.2 acc) ?_)
  have d : decide ((i : Int) < n) = false := decide_eq_false (by omega)
  rw [d, cond_false]
  have hk := hk _ rfl
  rw [show acsX s 0 (lastA acc) x = x from rfl] at hk
  cases c : x.2.isNil with
  | true =>
   rw [c] at hk
   have e2 : addA2 acc (acsV s 0 (lastA acc) x) = acc := List.append_nil acc
   rw [cond_true, e2] at hk
   have : x.2 = .nil := by cases h : x.2 <;> rw [h] at c <;> first | rfl | cases c
   rw [this] at hk ⊢; exact hk
  | false => rw [c] at hk; exact hk
 | succ m ih =>
  intro i hi acc x hacc hix hx hk
  refine (hA.nf (nf_acRead_b A k s x.1 n i x.2 acc) ?_)
  have d : decide ((i : Int) < n) = true := decide_eq_true (by omega)
  rw [d, cond_true]
  have x1 := hx.r1 (n := 1) 5 (by omega)
  have x2 := x1.r1 (n := 1) 5 (by omega)
  have x3 := hx.ac1
  obtain ⟨h0, h1⟩ := hx
  have hx : hIn s x := ⟨h0, h1⟩
  cases c : x.2.isNil with
  | false =>
   have e1 : acsX s (m + 1) (lastA acc) x = x := by show (bif x.2.isNil then _ else x) = x; rw [c]; rfl
   have hk := hk _ rfl
   rw [e1, c] at hk
   exact hk
  | true =>
   have e1 : acsX s (m + 1) (lastA acc) x = acsX s m (some (acV s x)) (acX s (lastA acc) x) := by show (bif x.2.isNil then _ else _) = _; rw [c]; rfl
   have e2 : acsV s (m + 1) (lastA acc) x = acV s x :: acsV s m (some (acV s x)) (acX s (lastA acc) x) := by show (bif x.2.isNil then _ else _) = _; rw [c]; rfl
   rw [e1, e2] at hk
   have hi2 := hix c
   have hacc' : (acc ++ [acV s x]).length = i + 1 := by rw [List.length_append, List.length_singleton, hacc]
   have hstep : A (td Tryz.f40 4) (envAt 63 [(0, .ptr 0 0), (1, .int .i64 n), (6, .own 1), (7, .int .i64 ((i + 1 : Nat) : Int))]) [.box [.str s, .int .i64 (acX s (lastA acc) x).1, .int .i64 5, .err (acX s (lastA acc) x).2], .row 141 (acc ++ [acV s x])] := by
    refine ih (i + 1) (by omega) (acc ++ [acV s x]) (acX s (lastA acc) x) hacc' (fun h => ?_) (hx.ac _) ?_
    ·obtain ⟨k1, k2, k3, k4, _, _⟩ := acX_keep h
     have g1 : (r1 s 5 1 x).1 = x.1 + 1 := by show rdAt s x.1 1 x.2 = _; unfold rdAt; rw [(r1_keep k3).1]; rfl
     have g2 : (r1 s 5 1 x).1 <= (r1 s 5 1 (r1 s 5 1 x)).1 := rdAt_ge s _ _ (by omega)
     have g3 : (r1 s 5 1 (r1 s 5 1 x)).1 <= (ac1 s x).1 := rdAt_ge s _ _ (by omega)
     show ((i + 1 : Nat) : Int) <= (ac1 s x).1
     omega
    ·rw [lastA_add]
     intro r hr
     refine hk r ?_
     rw [hr]; unfold addA2; rw [List.append_assoc]; rfl
   have hlen : (acc.length + 1) * 24 <= 140737488355328 := by omega
   rw [cond_true]
   have wa : IntKind.i64.wrap (x.1 + (2 : Int)) = x.1 + 2 := wrap_id _ (by omega) (by omega)
   rw [wa]
   refine ⟨⟨h0, h1, by omega⟩, ⟨x1.1, x1.2, by omega⟩, ⟨x2.1, x2.2, by omega⟩, ?_⟩
   rw [wrap_succ' (by omega)]
   rcases i with _ | i
   ·rw [show (((0 : Nat) : Int) == 0) = true from rfl, cond_true]
    have : lastA acc = none := by unfold lastA; rw [hacc]; rfl
    rw [this] at hstep
    exact ⟨[acV s x], rfl, hlen, hstep⟩
   ·have d0 : (((i + 1 : Nat) : Int) == 0) = false := by rw [beq_eq_false_iff_ne]; omega
    rw [d0, cond_false]
    obtain ⟨z, hz⟩ : ∃ z, acc[i]? = some z := ⟨acc[i]'(by omega), List.getElem?_eq_getElem (by omega)⟩
    refine get_at' (i := i) (by rw [wrap_id _ (by omega) (by omega)]; omega) hz ?_
    have : lastA acc = some z := by unfold lastA; rw [hacc]; exact hz
    rw [this] at hstep
    exact ⟨[acV s x], rfl, hlen, hstep⟩
theorem ok_acRead : FunF B 40 1 acReadS := by
 refine funF_of (N := 63) (f := ff_acRead) env_AE0 mixed fn_acRead (by kernel_rfl) (by kernel_rfl) ?_
 intro A k ys L hA hF
 obtain ⟨s, a, sec, n, e, rfl, rfl, ⟨⟨h0, h1, hs⟩, hn⟩, hk⟩ := acReadS_inv hF; clear hF
 refine ⟨by kernel_rfl, (hA.nf (nf_acRead_a A k s a sec n e) ?_)⟩
 refine acRead_loop A k hA s hs n hn n.toNat 0 (by omega) [] (a, e) rfl (fun _ => h0) ⟨h0, h1⟩ ?_
 rintro r rfl
 exact hk
end Go.Ab.T
