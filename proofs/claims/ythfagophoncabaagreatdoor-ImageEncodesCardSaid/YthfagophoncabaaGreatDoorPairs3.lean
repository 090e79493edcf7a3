import Derived.Test.YthfagophoncabaaGreatDoorPairs2
import Derived.Test.YthfagophoncabaaGreatDoorRef05
set_option linter.unusedVariables false
set_option linter.unusedSimpArgs false
set_option linter.unusedSectionVars false
namespace Go.Ab.T
open Go Go.Ab Go.Proofs
variable [DMode]
set_option maxRecDepth 100000
set_option maxHeartbeats 4000000
noncomputable def PG0 := base (fun g => match g with | 88 => some (lift 1 EnterS) | 89 => some (lift 1 NeedS) | 96 => some (lift 1 ErrS) | 90 => some (lift 1 U8S) | _ => none) (fun g => match g with | 43 => some PlaceS | 82 => some ltPS | 106 => some ltPS | 57 => some rFailS | 122 => some rNumS | _ => none) (fun _ => none)
theorem env_PG0 : EnvOk PG0 := env_of (by
 intro g F h
 split at h
 ·cases h; exact ok_Place
 ·cases h; exact ok_rLess10
 ·cases h; exact ok_less10
 ·cases h; exact ok_rFail
 ·cases h; exact ok_rNum
 ·cases h) (by
 intro g F h
 split at h
 ·cases h; exact (lift_ok ok_Enter)
 ·cases h; exact (lift_ok ok_Need)
 ·cases h; exact (lift_ok ok_rErr)
 ·cases h; exact (lift_ok ok_U8)
 ·cases h) (fun g F h => (by cases h))
theorem fn_prRead : FnOk Tryz.prog 39 Tryz.f39 (bodyOf Tryz.f39) := ⟨by kernel_rfl, by kernel_rfl, by kernel_rfl⟩
noncomputable def ff_prRead : Fun := ⟨Tryz.f39.ntmps, 1, Tryz.f39.results.toList, fun i => match i with | 4 => some [0, 1, 6, 7] | _ => none, fun _ => false, fun i => match i with | 8 => [0,9999] | _ => []⟩
theorem nf_prRead_a (A : KA Kd) (k : List PV -> Heap Kd -> Prop) (s : ByteArray) (a sec n : Int) (e : Err) : evT PG0 ff_prRead A k 400 false [.code (bodyOf Tryz.f39)] (startEnv 54 [.ptr 0 0, .int .i64 n]) [.box [.str s, .int .i64 a, .int .i64 sec, .err e]] = (A (td Tryz.f39 4) (envAt 54 [(0, .ptr 0 0), (1, .int .i64 n), (6, .own 1), (7, .int .i64 0)]) [.box [.str s, .int .i64 a, .int .i64 4, .err e], .row 139 []]) := by kernel_rfl
theorem nf_prRead_b (A : KA Kd) (k : List PV -> Heap Kd -> Prop) (s : ByteArray) (a n i : Int) (e : Err) (l : List Pr) : evT PG0 ff_prRead A k 400 true (td Tryz.f39 4) (envAt 54 [(0, .ptr 0 0), (1, .int .i64 n), (6, .own 1), (7, .int .i64 i)]) [.box [.str s, .int .i64 a, .int .i64 4, .err e], .row 139 l] = (bif decide (i < n) then bif e.isNil then (0 <= a /\ a <= (↑s.size : Int) /\ s.size < 4611686018427387904) /\ (0 <= rdAt s a 1 e /\ rdAt s a 1 e <= (↑s.size : Int) /\ s.size < 4611686018427387904) /\ bif i == 0 then ∃ (zs : List (Int × Int)), List.map e_api_Pair zs = [PV.agg [PV.int IntKind.i64 (rdV s a 1 e), PV.int IntKind.i64 (rdV s (rdAt s a 1 e) 1 (rdE s a 1 4 e))]] /\ (l.length + (zs).length) * (TInfo.mk (TD.struct [((0 : Nat), (3 : TypeId)), ((1 : Nat), (3 : TypeId))]) (2 : Nat) (16 : Nat) [PV.int IntKind.i64 0, PV.int IntKind.i64 0] true []).bytes <= 140737488355328 /\ A (td Tryz.f39 4) (envAt 54 [(0, .ptr 0 0), (1, .int .i64 n), (6, .own 1), (7, .int .i64 (IntKind.i64.wrap (i + 1)))]) [.box [.str s, .int .i64 (rdAt s (rdAt s a 1 e) 1 (rdE s a 1 4 e)), .int .i64 4, .err (needE (rdE s (rdAt s a 1 e) 1 4 (rdE s a 1 4 e)) true 4 9 a)], .row 139 (l ++ zs)] else (0 <= IntKind.i64.wrap (i - 1) /\ IntKind.i64.wrap (i - 1) < (↑l.length : Int)) /\ ∀ (y : (Int × Int)), l[(IntKind.i64.wrap (i - 1)).toNat]? = some y -> ∃ (zs : List (Int × Int)), List.map e_api_Pair zs = [PV.agg [PV.int IntKind.i64 (rdV s a 1 e), PV.int IntKind.i64 (rdV s (rdAt s a 1 e) 1 (rdE s a 1 4 e))]] /\ (l.length + (zs).length) * (TInfo.mk (TD.struct [((0 : Nat), (3 : TypeId)), ((1 : Nat), (3 : TypeId))]) (2 : Nat) (16 : Nat) [PV.int IntKind.i64 0, PV.int IntKind.i64 0] true []).bytes <= 140737488355328 /\ A (td Tryz.f39 4) (envAt 54 [(0, .ptr 0 0), (1, .int .i64 n), (6, .own 1), (7, .int .i64 (IntKind.i64.wrap (i + 1)))]) [.box [.str s, .int .i64 (rdAt s (rdAt s a 1 e) 1 (rdE s a 1 4 e)), .int .i64 4, .err (needE (rdE s (rdAt s a 1 e) 1 4 (rdE s a 1 4 e)) (ltP (y.fst, y.snd) (rdV s a 1 e, rdV s (rdAt s a 1 e) 1 (rdE s a 1 4 e))) 4 9 a)], .row 139 (l ++ zs)] else bif !e.isNil then k [.own 1, .err e] [.box [.str s, .int .i64 a, .int .i64 4, .err e], .row 139 []] else k [.own 1, .err Err.nil] [.box [.str s, .int .i64 a, .int .i64 4, .err e], .row 139 l]
else bif !e.isNil then k [PV.own (1 : Nat), PV.err e] [AObj.box [PV.str s, PV.int IntKind.i64 a, PV.int IntKind.i64 (4 : Int), PV.err e], AObj.row (139 : Nat) []] else k [PV.own (1 : Nat), PV.err Err.nil] [AObj.box [PV.str s, PV.int IntKind.i64 a, PV.int IntKind.i64 (4 : Int), PV.err e], AObj.row (139 : Nat) l]) := by kernel_rfl
def prReadS : List PV -> Heap Kd -> (List PV -> Heap Kd -> Prop) -> Prop := fun ys L k => match ys, L with
 | [.ptr 0 0, .int .i64 n], [.box [.str s, .int .i64 a, .int .i64 sec, .err e]] => ((0 <= a /\ a <= (s.size : Int) /\ s.size < 1099511627776) /\ n <= 9223372036854775807) /\ k [.own 1, .err (prsX s n.toNat none (a, e)).2] [.box [.str s, .int .i64 (prsX s n.toNat none (a, e)).1, .int .i64 4, .err (prsX s n.toNat none (a, e)).2], .row 139 (resP s n.toNat (a, e))]
 | _, _ => False
theorem prReadS_inv {ys : List PV} {L : Heap Kd} {k : List PV -> Heap Kd -> Prop} (h : prReadS ys L k) : ∃ (s : ByteArray) (a : Int) (sec : Int) (n : Int) (e : Err), ys = [.ptr 0 0, .int .i64 n] /\ L = [.box [.str s, .int .i64 a, .int .i64 sec, .err e]] /\ ((0 <= a /\ a <= (s.size : Int) /\ s.size < 1099511627776) /\ n <= 9223372036854775807) /\ k [.own 1, .err (prsX s n.toNat none (a, e)).2] [.box [.str s, .int .i64 (prsX s n.toNat none (a, e)).1, .int .i64 4, .err (prsX s n.toNat none (a, e)).2], .row 139 (resP s n.toNat (a, e))] := by
 unfold prReadS at h
 split at h
 ·exact ⟨_, _, _, _, _, rfl, rfl, h⟩
 ·exact h.elim
def lastR (acc : List Pr) : Option Pr := prevR acc acc.length
theorem lastR_add (acc : List Pr) (v : Pr) : lastR (acc ++ [v]) = some v := by
 unfold lastR
 rw [List.length_append, List.length_singleton]
 show (acc ++ [v])[acc.length]? = some v
 rw [List.getElem?_append_right (Nat.le_refl _), Nat.sub_self]; rfl
theorem prRead_loop (A : KA Kd) (k : List PV -> Heap Kd -> Prop) (hA : Closed PG0 ff_prRead k A) (s : ByteArray) (hs : s.size < 1099511627776) (n : Int) (hn : n <= 9223372036854775807) :
 ∀ (m i : Nat), (m : Int) + (i : Int) = n \/ (m = 0 /\ n <= (i : Int)) -> ∀ (acc : List Pr) (x : RS), acc.length = i -> (x.2.isNil = true -> (i : Int) <= x.1) -> hIn s x ->
  (∀ r, r = (bif (prsX s m (lastR acc) x).2.isNil then addP2 acc (prsV s m (lastR acc) x) else []) -> k [.own 1, .err (prsX s m (lastR acc) x).2] [.box [.str s, .int .i64 (prsX s m (lastR acc) x).1, .int .i64 4, .err (prsX s m (lastR acc) x).2], .row 139 r]) ->
  A (td Tryz.f39 4) (envAt 54 [(0, .ptr 0 0), (1, .int .i64 n), (6, .own 1), (7, .int .i64 (i : Int))]) [.box [.str s, .int .i64 x.1, .int .i64 4, .err x.2], .row 139 acc] := by
 intro m
 induction m with
 | zero =>
  intro i hi acc x hacc hix hx hk
  refine (hA.nf (nf_prRead_b A k s x.1 n i x.2 acc) ?_)
  have d : decide ((i : Int) < n) = false := decide_eq_false (by omega)
  rw [d, cond_false]
  have hk := hk _ rfl
  rw [show prsX s 0 (lastR acc) x = x from rfl] at hk
  cases c : x.2.isNil with
  | true =>
   rw [c] at hk
   have e2 : addP2 acc (prsV s 0 (lastR acc) x) = acc := List.append_nil acc
   rw [cond_true, e2] at hk
   have : x.2 = .nil := by cases h : x.2 <;> rw [h] at c <;> first | rfl | cases c
   rw [this] at hk ⊢; exact hk
  | false => rw [c] at hk; exact hk
 | succ m ih =>
  intro i hi acc x hacc hix hx hk
  refine (hA.nf (nf_prRead_b A k s x.1 n i x.2 acc) ?_)
  have d : decide ((i : Int) < n) = true := decide_eq_true (by omega)
  rw [d, cond_true]
  have x1 := hx.r1 (n := 1) 4 (by omega)
  have x2 := hx.pr1
  obtain ⟨h0, h1⟩ := hx
  have hx : hIn s x := ⟨h0, h1⟩
  cases c : x.2.isNil with
  | false =>
   have e1 : prsX s (m + 1) (lastR acc) x = x := by show (bif x.2.isNil then _ else x) = x; rw [c]; rfl
   have hk := hk _ rfl
   rw [e1, c] at hk
   exact hk
  | true =>
   have e1 : prsX s (m + 1) (lastR acc) x = prsX s m (some (prV s x)) (prX s (lastR acc) x) := by show (bif x.2.isNil then _ else _) = _; rw [c]; rfl
   have e2 : prsV s (m + 1) (lastR acc) x = prV s x :: prsV s m (some (prV s x)) (prX s (lastR acc) x) := by show (bif x.2.isNil then _ else _) = _; rw [c]; rfl
   rw [e1, e2] at hk
   have hi2 := hix c
   have hacc' : (acc ++ [prV s x]).length = i + 1 := by rw [List.length_append, List.length_singleton, hacc]
   have hstep : A (td Tryz.f39 4) (envAt 54 [(0, .ptr 0 0), (1, .int .i64 n), (6, .own 1), (7, .int .i64 ((i + 1 : Nat) : Int))]) [.box [.str s, .int .i64 (prX s (lastR acc) x).1, .int .i64 4, .err (prX s (lastR acc) x).2], .row 139 (acc ++ [prV s x])] := by
    refine ih (i + 1) (by omega) (acc ++ [prV s x]) (prX s (lastR acc) x) hacc' (fun h => ?_) (hx.pr _) ?_
    ·obtain ⟨k1, k2, k3, _⟩ := prX_keep h
     have g1 : (r1 s 4 1 x).1 = x.1 + 1 := by show rdAt s x.1 1 x.2 = _; unfold rdAt; rw [(r1_keep k2).1]; rfl
     have g2 : (r1 s 4 1 x).1 <= (pr1 s x).1 := rdAt_ge s _ _ (by omega)
     show ((i + 1 : Nat) : Int) <= (pr1 s x).1
     omega
    ·rw [lastR_add]
     intro r hr
     refine hk r ?_
     rw [hr]; unfold addP2; rw [List.append_assoc]; rfl
   have hlen : (acc.length + 1) * 16 <= 140737488355328 := by omega
   rw [cond_true]
   refine ⟨⟨h0, h1, by omega⟩, ⟨x1.1, x1.2, by omega⟩, ?_⟩
   rw [wrap_succ' (by omega)]
   rcases i with _ | i
   ·rw [show (((0 : Nat) : Int) == 0) = true from rfl, cond_true]
    have : lastR acc = none := by unfold lastR; rw [hacc]; rfl
    rw [this] at hstep
    exact ⟨[prV s x], rfl, hlen, hstep⟩
   ·have d0 : (((i + 1 : Nat) : Int) == 0) = false := by rw [beq_eq_false_iff_ne]; omega
    rw [d0, cond_false]
    obtain ⟨z, hz⟩ : ∃ z, acc[i]? = some z := ⟨acc[i]'(by omega), List.getElem?_eq_getElem (by omega)⟩
    refine get_at' (i := i) (by rw [wrap_id _ (by omega) (by omega)]; omega) hz ?_
    have : lastR acc = some z := by unfold lastR; rw [hacc]; exact hz
    rw [this] at hstep
    exact ⟨[prV s x], rfl, hlen, hstep⟩
theorem ok_prRead : FunF B 39 1 prReadS := by
 refine funF_of (N := 54) (f := ff_prRead) env_PG0 mixed fn_prRead (by kernel_rfl) (by kernel_rfl) ?_
 intro A k ys L hA hF
 obtain ⟨s, a, sec, n, e, rfl, rfl, ⟨⟨h0, h1, hs⟩, hn⟩, hk⟩ := prReadS_inv hF; clear hF
 refine ⟨by kernel_rfl, (hA.nf (nf_prRead_a A k s a sec n e) ?_)⟩
 refine prRead_loop A k hA s hs n hn n.toNat 0 (by omega) [] (a, e) rfl (fun _ => h0) ⟨h0, h1⟩ ?_
 rintro r rfl
 exact hk
end Go.Ab.T
