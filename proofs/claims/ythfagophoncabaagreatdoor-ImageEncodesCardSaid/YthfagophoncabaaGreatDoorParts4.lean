import Derived.Test.YthfagophoncabaaGreatDoorParts2
import Derived.Test.YthfagophoncabaaGreatDoorNameGet
import Derived.Test.YthfagophoncabaaGreatDoorMaB
set_option linter.unusedVariables false
set_option linter.unusedSimpArgs false
set_option linter.unusedSectionVars false
namespace Go.Ab.T
open Go Go.Ab Go.Proofs
variable [DMode]
set_option maxRecDepth 100000
set_option maxHeartbeats 4000000
noncomputable def PR0 := base (fun g => match g with | 89 => some (lift 1 NeedS) | 90 => some (lift 1 U8S) | _ => none) (fun g => match g with | 43 => some PlaceS | _ => none) (fun _ => none)
theorem env_PR0 : EnvOk PR0 := env_of (by
 intro g F h
 split at h
 ·cases h; exact ok_Place
 ·cases h) (by
 intro g F h
 split at h
 ·cases h; exact (lift_ok ok_Need)
 ·cases h; exact (lift_ok ok_U8)
 ·cases h) (fun g F h => (by cases h))
def trgS : List PV -> Heap Kd -> (List PV -> Heap Kd -> Prop) -> Prop := fun ys L k => match ys, L with
 | [.ptr 0 0], [.box [.str s, .int .i64 a, .int .i64 sec, .err e]] => (0 <= a /\ a <= (s.size : Int) /\ s.size < 4611686018427387904) /\ k [.bool (trV s sec (a, e))] [.box [.str s, .int .i64 (trX s sec (a, e)).1, .int .i64 sec, .err (trX s sec (a, e)).2]]
 | _, _ => False
theorem trgS_inv {ys : List PV} {L : Heap Kd} {k : List PV -> Heap Kd -> Prop} (h : trgS ys L k) : ∃ (s : ByteArray) (a : Int) (sec : Int) (e : Err), ys = [.ptr 0 0] /\ L = [.box [.str s, .int .i64 a, .int .i64 sec, .err e]] /\ (0 <= a /\ a <= (s.size : Int) /\ s.size < 4611686018427387904) /\ k [.bool (trV s sec (a, e))] [.box [.str s, .int .i64 (trX s sec (a, e)).1, .int .i64 sec, .err (trX s sec (a, e)).2]] := by
 unfold trgS at h
 split at h
 ·exact ⟨_, _, _, _, rfl, rfl, h⟩
 ·exact h.elim
theorem fn_trg : FnOk Tryz.prog 98 Tryz.f98 (bodyOf Tryz.f98) := ⟨by kernel_rfl, by kernel_rfl, by kernel_rfl⟩
noncomputable def ff_trg : Fun := ⟨Tryz.f98.ntmps, 1, Tryz.f98.results.toList, fun _ => none, fun _ => false, fun _ => []⟩
theorem nf_trg (A : KA Kd) (k : List PV -> Heap Kd -> Prop) (s : ByteArray) (a sec : Int) (e : Err) : evT PR0 ff_trg A k 400 false [.code (bodyOf Tryz.f98)] (startEnv 18 [.ptr 0 0]) [.box [.str s, .int .i64 a, .int .i64 sec, .err e]] = ((0 <= a /\ a <= (↑s.size : Int) /\ s.size < 4611686018427387904) /\ bif (needE (rdE s a 1 sec e) (decide (rdV s a 1 e <= 1)) sec 6 a).isNil then k [.bool (rdV s a 1 e == 1)] [.box [.str s, .int .i64 (rdAt s a 1 e), .int .i64 sec, .err (needE (rdE s a 1 sec e) (decide (rdV s a 1 e <= 1)) sec 6 a)]] else k [.bool false] [.box [.str s, .int .i64 (rdAt s a 1 e), .int .i64 sec, .err (needE (rdE s a 1 sec e) (decide (rdV s a 1 e <= 1)) sec 6 a)]]) := by kernel_rfl
theorem ok_trg : FunF B 98 1 trgS := by
 refine funF_of (N := 18) (f := ff_trg) env_PR0 mixed fn_trg (by kernel_rfl) (by kernel_rfl) ?_
 intro A k ys L hA hF
 obtain ⟨s, a, sec, e, rfl, rfl, ⟨h0, h1, h2⟩, hk⟩ := trgS_inv hF; clear hF
 refine ⟨by kernel_rfl, (hA.nf (nf_trg A k s a sec e) ?_)⟩
 refine ⟨⟨h0, h1, h2⟩, ?_⟩
 unfold trV trX at hk
 simp only at hk
 cases c : (needE (rdE s a 1 sec e) (decide (rdV s a 1 e <= 1)) sec 6 a).isNil with
 | true => rw [c] at hk; exact hk
 | false => rw [c] at hk; exact hk
noncomputable def PR1 := base (fun g => match g with | 89 => some (lift 1 NeedS) | 90 => some (lift 1 U8S) | 91 => some (lift 1 U32S) | 98 => some (lift 1 trgS) | _ => none) (fun g => match g with | 43 => some PlaceS | _ => none) (fun _ => none)
theorem env_PR1 : EnvOk PR1 := env_of (by
 intro g F h
 split at h
 ·cases h; exact ok_Place
 ·cases h) (by
 intro g F h
 split at h
 ·cases h; exact (lift_ok ok_Need)
 ·cases h; exact (lift_ok ok_U8)
 ·cases h; exact (lift_ok ok_U32)
 ·cases h; exact (lift_ok ok_trg)
 ·cases h) (fun g F h => (by cases h))
def clgS : List PV -> Heap Kd -> (List PV -> Heap Kd -> Prop) -> Prop := fun ys L k => match ys, L with
 | [.ptr 0 0], [.box [.str s, .int .i64 a, .int .i64 sec, .err e]] => (0 <= a /\ a <= (s.size : Int) /\ s.size < 4611686018427387904) /\ ∀ l : List Cl, ((clX s sec (a, e)).2.isNil = true -> l = clV s sec (a, e)) -> k [.own 1] [.box [.str s, .int .i64 (clX s sec (a, e)).1, .int .i64 sec, .err (clX s sec (a, e)).2], .row 154 l]
 | _, _ => False
theorem clgS_inv {ys : List PV} {L : Heap Kd} {k : List PV -> Heap Kd -> Prop} (h : clgS ys L k) : ∃ (s : ByteArray) (a sec : Int) (e : Err), ys = [.ptr 0 0] /\ L = [.box [.str s, .int .i64 a, .int .i64 sec, .err e]] /\ (0 <= a /\ a <= (s.size : Int) /\ s.size < 4611686018427387904) /\ ∀ l : List Cl, ((clX s sec (a, e)).2.isNil = true -> l = clV s sec (a, e)) -> k [.own 1] [.box [.str s, .int .i64 (clX s sec (a, e)).1, .int .i64 sec, .err (clX s sec (a, e)).2], .row 154 l] := by
 unfold clgS at h
 split at h
 ·exact ⟨_, _, _, _, rfl, rfl, h⟩
 ·exact h.elim
theorem fn_clg : FnOk Tryz.prog 100 Tryz.f100 (bodyOf Tryz.f100) := ⟨by kernel_rfl, by kernel_rfl, by kernel_rfl⟩
noncomputable def ff_clg : Fun := ⟨Tryz.f100.ntmps, 1, Tryz.f100.results.toList, fun i => match i with | 5 => some [0, 3, 4, 5, 11, 12] | _ => none, fun _ => false, fun _ => []⟩
theorem nf_clg_a (A : KA Kd) (k : List PV -> Heap Kd -> Prop) (s : ByteArray) (a sec : Int) (e : Err) : evT PR1 ff_clg A k 400 false [.code (bodyOf Tryz.f100)] (startEnv 31 [.ptr 0 0]) [.box [.str s, .int .i64 a, .int .i64 sec, .err e]] = ((0 <= a /\ a <= (↑s.size : Int) /\ s.size < 4611686018427387904) /\ A (td Tryz.f100 5) (envAt 31 [(0, .ptr 0 0), (3, .int .i64 a), (4, .int .i64 (rdV s a 1 e)), (5, .own 1), (11, .int .i64 (rdV s a 1 e)), (12, .int .i64 0)]) [.box [.str s, .int .i64 (rdAt s a 1 e), .int .i64 sec, .err (rdE s a 1 sec e)], .row 154 []]) := by kernel_rfl
theorem nf_clg_b (A : KA Kd) (k : List PV -> Heap Kd -> Prop) (s : ByteArray) (a sec b n i : Int) (e : Err) (l : List Cl) : evT PR1 ff_clg A k 400 true (td Tryz.f100 5) (envAt 31 [(0, .ptr 0 0), (3, .int .i64 b), (4, .int .i64 n), (5, .own 1), (11, .int .i64 n), (12, .int .i64 i)]) [.box [.str s, .int .i64 a, .int .i64 sec, .err e], .row 154 l] = (bif decide (i < n) then bif !(needE e (decide (n <= 16)) sec 8 b).isNil then k [.own 1] [.box [.str s, .int .i64 a, .int .i64 sec, .err (needE e (decide (n <= 16)) sec 8 b)], .row 154 []] else (0 <= a /\ a <= (↑s.size : Int) /\ s.size < 4611686018427387904) /\ (0 <= (trX s sec (a, needE e (decide (n <= 16)) sec 8 b)).fst /\ (trX s sec (a, needE e (decide (n <= 16)) sec 8 b)).fst <= (↑s.size : Int) /\ s.size < 4611686018427387904) /\ ∃ (zs : List (Int × Bool)), List.map e_api_Cell zs = [PV.agg [PV.int IntKind.u32 (rdV s (trX s sec (a, needE e (decide (n <= 16)) sec 8 b)).fst (4 : Int) (trX s sec (a, needE e (decide (n <= 16)) sec 8 b)).snd), PV.bool (trV s sec (a, needE e (decide (n <= 16)) sec 8 b))]] /\ (l.length + (zs).length) * (TInfo.mk (TD.struct [((0 : Nat), (61 : TypeId)), ((1 : Nat), (4 : TypeId))]) (2 : Nat) (8 : Nat) [PV.int IntKind.u32 0, PV.bool false] true []).bytes <= 140737488355328 /\ A (td Tryz.f100 5) (envAt 31 [(0, .ptr 0 0), (3, .int .i64 b), (4, .int .i64 n), (5, .own 1), (11, .int .i64 n), (12, .int .i64 (IntKind.i64.wrap (i + 1)))]) [.box [.str s, .int .i64 (rdAt s (trX s sec (a, needE e (decide (n <= 16)) sec 8 b)).fst (4 : Int) (trX s sec (a, needE e (decide (n <= 16)) sec 8 b)).snd), .int .i64 sec, .err (rdE s (trX s sec (a, needE e (decide (n <= 16)) sec 8 b)).fst (4 : Int) sec (trX s sec (a, needE e (decide (n <= 16)) sec 8 b)).snd)], .row 154 (l ++ zs)]
else k [PV.own (1 : Nat)] [AObj.box [PV.str s, PV.int IntKind.i64 a, PV.int IntKind.i64 sec, PV.err e], AObj.row (154 : Nat) l]) := by kernel_rfl
theorem clg_loop (A : KA Kd) (k : List PV -> Heap Kd -> Prop) (hA : Closed PR1 ff_clg k A) (s : ByteArray) (hs : s.size < 4611686018427387904) (sec b : Int) (N : Nat) (hN : N <= 16) :
 ∀ (m i : Nat), i + m = N -> ∀ (acc : List Cl) (x : RS), acc.length <= i -> hIn s x ->
  (∀ l : List Cl, ((clsX s sec m x).2.isNil = true -> l = addCl acc (clsV s sec m x)) -> k [.own 1] [.box [.str s, .int .i64 (clsX s sec m x).1, .int .i64 sec, .err (clsX s sec m x).2], .row 154 l]) ->
  A (td Tryz.f100 5) (envAt 31 [(0, .ptr 0 0), (3, .int .i64 b), (4, .int .i64 (N : Int)), (5, .own 1), (11, .int .i64 (N : Int)), (12, .int .i64 (i : Int))]) [.box [.str s, .int .i64 x.1, .int .i64 sec, .err x.2], .row 154 acc] := by
 intro m
 induction m with
 | zero =>
  intro i hi acc x _ _ hk
  refine (hA.nf (nf_clg_b A k s _ sec b _ _ _ acc) ?_)
  have hi : i = N := hi
  rw [ilt_false (by omega), cond_false]
  exact hk acc (fun _ => (List.append_nil acc).symm)
 | succ m ih =>
  intro i hi acc x hacc hx hk
  refine (hA.nf (nf_clg_b A k s _ sec b _ _ _ acc) ?_)
  rw [ilt_true (by omega), cond_true]
  have d : decide ((N : Int) <= 16) = true := decide_eq_true (by omega)
  have dn : needE x.2 true sec 8 b = x.2 := rfl
  rw [d, dn]
  have hx1 := hx.tr sec
  have hx0 := hx
  obtain ⟨h0, h1⟩ := hx
  cases c : x.2.isNil with
  | false =>
   have e1 : clsX s sec (m + 1) x = x := by show (bif x.2.isNil then _ else x) = x; rw [c]; rfl
   rw [e1] at hk
   rw [Bool.not_false, cond_true]
   exact hk [] (fun h => by rw [c] at h; cases h)
  | true =>
   have e1 : clsX s sec (m + 1) x = clsX s sec m (cl1 s sec x) := by show (bif x.2.isNil then _ else _) = _; rw [c]; rfl
   have e2 : clsV s sec (m + 1) x = clV1 s sec x :: clsV s sec m (cl1 s sec x) := by show (bif x.2.isNil then _ else _) = _; rw [c]; rfl
   rw [e1, e2] at hk
   rw [Bool.not_true, cond_false]
   refine ⟨⟨h0, h1, hs⟩, ⟨hx1.1, hx1.2, hs⟩, [clV1 s sec x], rfl, by show (acc.length + 1) * 8 <= _; omega, ?_⟩
   rw [wrap_succ (by omega)]
   refine ih (i + 1) (by omega) (acc ++ [clV1 s sec x]) (cl1 s sec x) (by rw [List.length_append, List.length_singleton]; omega) (hx0.cl1 sec) fun l hl => hk l fun h => ?_
   rw [hl h]; unfold addCl; rw [List.append_assoc]; rfl
theorem ok_clg : FunF B 100 1 clgS := by
 refine funF_of (N := 31) (f := ff_clg) env_PR1 mixed fn_clg (by kernel_rfl) (by kernel_rfl) ?_
 intro A k ys L hA hF
 obtain ⟨s, a, sec, e, rfl, rfl, ⟨h0, h1, hs⟩, hk⟩ := clgS_inv hF; clear hF
 refine ⟨by kernel_rfl, (hA.nf (nf_clg_a A k s a sec e) ?_)⟩
 refine ⟨⟨h0, h1, hs⟩, ?_⟩
 have hx : hIn s (a, e) := ⟨h0, h1⟩
 have hc := hx.cn sec
 obtain ⟨v0, v1⟩ := rdV_lt s a 1 e
 have hN : rdV s a 1 e = ((cnN s (a, e) : Nat) : Int) := (Int.toNat_of_nonneg v0).symm
 have hcn : cnX s sec (a, e) = (rdAt s a 1 e, needE (rdE s a 1 sec e) (decide (rdV s a 1 e <= 16)) sec 8 a) := rfl
 by_cases hle : rdV s a 1 e <= 16
 ·have hc2 : cnX s sec (a, e) = (rdAt s a 1 e, rdE s a 1 sec e) := by rw [hcn, decide_eq_true hle]; rfl
  have eX : clX s sec (a, e) = clsX s sec (cnN s (a, e)) (rdAt s a 1 e, rdE s a 1 sec e) := by
   unfold clX; rw [hc2]
   cases c : (rdE s a 1 sec e).isNil with
   | true => rfl
   | false =>
    have : cnN s (a, e) = 0 := by
     unfold cnN rdV; rw [rdE_nil] at c; simp only; rw [c]; rfl
    rw [this]; rfl
  have eV : clV s sec (a, e) = clsV s sec (cnN s (a, e)) (rdAt s a 1 e, rdE s a 1 sec e) := by unfold clV; rw [hc2]
  rw [eX, eV] at hk
  rw [hN]
  exact clg_loop A k hA s hs sec _ _ (by omega) _ 0 (by omega) [] _ (Nat.le_refl _) (by rw [hc2] at hc; exact hc) hk
 ·have hc2 : cnX s sec (a, e) = (rdAt s a 1 e, failR (rdE s a 1 sec e) sec 8 a) := by rw [hcn, decide_eq_false hle]; rfl
  have hf : (failR (rdE s a 1 sec e) sec 8 a).isNil = false := failR_not _ _ _ rfl
  have eX : clX s sec (a, e) = (rdAt s a 1 e, failR (rdE s a 1 sec e) sec 8 a) := by unfold clX; rw [hc2]; simp only; rw [hf]; rfl
  rw [eX] at hk
  refine (hA.nf (nf_clg_b A k s _ sec _ _ _ _ []) ?_)
  have d0 : decide ((0 : Int) < rdV s a 1 e) = true := decide_eq_true (by omega)
  have d1 : decide (rdV s a 1 e <= 16) = false := decide_eq_false hle
  have dn : needE (rdE s a 1 sec e) false sec 8 a = failR (rdE s a 1 sec e) sec 8 a := rfl
  rw [d0, cond_true, d1, dn, hf, Bool.not_false, cond_true]
  exact hk [] (fun h => by simp only at h; rw [hf] at h; cases h)
noncomputable def PR2 := base (fun g => match g with | 88 => some (lift 1 EnterS) | 89 => some (lift 1 NeedS) | 96 => some (lift 1 ErrS) | 90 => some (lift 1 U8S) | 99 => some (lift 1 nGetS) | 98 => some (lift 1 trgS) | 100 => some (lift 1 clgS) | _ => none) (fun g => match g with | 43 => some PlaceS | _ => none) (fun _ => none)
theorem env_PR2 : EnvOk PR2 := env_of (by
 intro g F h
 split at h
 ·cases h; exact ok_Place
 ·cases h) (by
 intro g F h
 split at h
 ·cases h; exact (lift_ok ok_Enter)
 ·cases h; exact (lift_ok ok_Need)
 ·cases h; exact (lift_ok ok_rErr)
 ·cases h; exact (lift_ok ok_U8)
 ·cases h; exact (lift_ok ok_nGet)
 ·cases h; exact (lift_ok ok_trg)
 ·cases h; exact (lift_ok ok_clg)
 ·cases h) (fun g F h => (by cases h))
theorem fn_pRg : FnOk Tryz.prog 37 Tryz.f37 (bodyOf Tryz.f37) := ⟨by kernel_rfl, by kernel_rfl, by kernel_rfl⟩
noncomputable def ff_pRg : Fun := ⟨Tryz.f37.ntmps, 1, Tryz.f37.results.toList, fun i => match i with | 5 => some [0, 1, 6, 7, 8] | _ => none, fun _ => false, fun _ => []⟩
theorem nf_pRg_a (A : KA Kd) (k : List PV -> Heap Kd -> Prop) (s : ByteArray) (a sec n : Int) (e : Err) : evT PR2 ff_pRg A k 400 false [.code (bodyOf Tryz.f37)] (startEnv 57 [.ptr 0 0, .int .i64 n]) [.box [.str s, .int .i64 a, .int .i64 sec, .err e]] = (A (td Tryz.f37 5) (envAt 57 [(0, .ptr 0 0), (1, .int .i64 n), (6, .own 1), (7, .int .i64 (-1 : Int)), (8, .int .i64 0)]) [.box [.str s, .int .i64 a, .int .i64 2, .err e], .row 55 []]) := by kernel_rfl
theorem nf_pRg_b (A : KA Kd) (k : List PV -> Heap Kd -> Prop) (s : ByteArray) (a n last i : Int) (e : Err) (l : List Prt) : evT PR2 ff_pRg A k 400 true (td Tryz.f37 5) (envAt 57 [(0, .ptr 0 0), (1, .int .i64 n), (6, .own 1), (7, .int .i64 last), (8, .int .i64 i)]) [.box [.str s, .int .i64 a, .int .i64 2, .err e], .row 55 l] = (bif decide (i < n) then bif e.isNil then (0 <= a /\ a <= (↑s.size : Int) /\ s.size < 4611686018427387904) /\ (0 <= rdAt s a 1 e /\ rdAt s a 1 e <= (↑s.size : Int) /\ s.size < 4611686018427387904) /\ (0 <= (trX s 2 (rdAt s a 1 e, needE (rdE s a 1 2 e) (decide (rdV s a 1 e > last)) 2 9 a)).fst /\ (trX s 2 (rdAt s a 1 e, needE (rdE s a 1 2 e) (decide (rdV s a 1 e > last)) 2 9 a)).fst <= (↑s.size : Int) /\ s.size < 4611686018427387904) /\ (0 <= nmAt s (trX s 2 (rdAt s a 1 e, needE (rdE s a 1 2 e) (decide (rdV s a 1 e > last)) 2 9 a)).fst (2 : Int) (trX s 2 (rdAt s a 1 e, needE (rdE s a 1 2 e) (decide (rdV s a 1 e > last)) 2 9 a)).snd /\ nmAt s (trX s 2 (rdAt s a 1 e, needE (rdE s a 1 2 e) (decide (rdV s a 1 e > last)) 2 9 a)).fst (2 : Int) (trX s 2 (rdAt s a 1 e, needE (rdE s a 1 2 e) (decide (rdV s a 1 e > last)) 2 9 a)).snd <= (↑s.size : Int) /\ s.size < 4611686018427387904) /\ ∀ (l_1 : List Cl), ((clX s 2 (nmAt s (trX s 2 (rdAt s a 1 e, needE (rdE s a 1 2 e) (decide (rdV s a 1 e > last)) 2 9 a)).fst (2 : Int) (trX s 2 (rdAt s a 1 e, needE (rdE s a 1 2 e) (decide (rdV s a 1 e > last)) 2 9 a)).snd, nmE s (trX s 2 (rdAt s a 1 e, needE (rdE s a 1 2 e) (decide (rdV s a 1 e > last)) 2 9 a)).fst (2 : Int) (trX s 2 (rdAt s a 1 e, needE (rdE s a 1 2 e) (decide (rdV s a 1 e > last)) 2 9 a)).snd)).snd.isNil = true -> l_1 = clV s 2 (nmAt s (trX s 2 (rdAt s a 1 e, needE (rdE s a 1 2 e) (decide (rdV s a 1 e > last)) 2 9 a)).fst (2 : Int) (trX s 2 (rdAt s a 1 e, needE (rdE s a 1 2 e) (decide (rdV s a 1 e > last)) 2 9 a)).snd, nmE s (trX s 2 (rdAt s a 1 e, needE (rdE s a 1 2 e) (decide (rdV s a 1 e > last)) 2 9 a)).fst (2 : Int) (trX s 2 (rdAt s a 1 e, needE (rdE s a 1 2 e) (decide (rdV s a 1 e > last)) 2 9 a)).snd)) -> ∃ (zs : List (Int × ByteArray × Bool × (List (Int × Bool)))), List.map e_api_Partition zs = [PV.agg [PV.int IntKind.i64 (rdV s a 1 e), PV.str (nmT s (trX s 2 (rdAt s a 1 e, needE (rdE s a 1 2 e) (decide (rdV s a 1 e > last)) 2 9 a)).fst (2 : Int) (trX s 2 (rdAt s a 1 e, needE (rdE s a 1 2 e) (decide (rdV s a 1 e > last)) 2 9 a)).snd), PV.bool (trV s 2 (rdAt s a 1 e, needE (rdE s a 1 2 e) (decide (rdV s a 1 e > last)) 2 9 a)), PV.sl (Int × Bool) e_api_Cell l_1]] /\ (l.length + (zs).length) * (TInfo.mk (TD.struct [((0 : Nat), (3 : TypeId)), ((1 : Nat), (9 : TypeId)), ((2 : Nat), (4 : TypeId)), ((3 : Nat), (53 : TypeId))]) (4 : Nat) (56 : Nat) [PV.int IntKind.i64 0, PV.str (ByteArray.mk #[]), PV.bool false, PV.raw nilSlice] true [((3 : Nat), (154 : TypeId))]).bytes <= 140737488355328 /\ A (td Tryz.f37 5) (envAt 57 [(0, .ptr 0 0), (1, .int .i64 n), (6, .own 1), (7, .int .i64 (rdV s a 1 e)), (8, .int .i64 (IntKind.i64.wrap (i + 1)))]) [.box [.str s, .int .i64 (clX s 2 (nmAt s (trX s 2 (rdAt s a 1 e, needE (rdE s a 1 2 e) (decide (rdV s a 1 e > last)) 2 9 a)).fst (2 : Int) (trX s 2 (rdAt s a 1 e, needE (rdE s a 1 2 e) (decide (rdV s a 1 e > last)) 2 9 a)).snd, nmE s (trX s 2 (rdAt s a 1 e, needE (rdE s a 1 2 e) (decide (rdV s a 1 e > last)) 2 9 a)).fst (2 : Int) (trX s 2 (rdAt s a 1 e, needE (rdE s a 1 2 e) (decide (rdV s a 1 e > last)) 2 9 a)).snd)).fst, .int .i64 2, .err (clX s 2 (nmAt s (trX s 2 (rdAt s a 1 e, needE (rdE s a 1 2 e) (decide (rdV s a 1 e > last)) 2 9 a)).fst (2 : Int) (trX s 2 (rdAt s a 1 e, needE (rdE s a 1 2 e) (decide (rdV s a 1 e > last)) 2 9 a)).snd, nmE s (trX s 2 (rdAt s a 1 e, needE (rdE s a 1 2 e) (decide (rdV s a 1 e > last)) 2 9 a)).fst (2 : Int) (trX s 2 (rdAt s a 1 e, needE (rdE s a 1 2 e) (decide (rdV s a 1 e > last)) 2 9 a)).snd)).snd], .row 55 (l ++ zs)] else bif !e.isNil then k [.own 1, .err e] [.box [.str s, .int .i64 a, .int .i64 2, .err e], .row 55 []] else k [.own 1, .err Err.nil] [.box [.str s, .int .i64 a, .int .i64 2, .err e], .row 55 l]
else bif !e.isNil then k [PV.own (1 : Nat), PV.err e] [AObj.box [PV.str s, PV.int IntKind.i64 a, PV.int IntKind.i64 (2 : Int), PV.err e], AObj.row (55 : Nat) []] else k [PV.own (1 : Nat), PV.err Err.nil] [AObj.box [PV.str s, PV.int IntKind.i64 a, PV.int IntKind.i64 (2 : Int), PV.err e], AObj.row (55 : Nat) l]) := by kernel_rfl
def pRgS : List PV -> Heap Kd -> (List PV -> Heap Kd -> Prop) -> Prop := fun ys L k => match ys, L with
 | [.ptr 0 0, .int .i64 n], [.box [.str s, .int .i64 a, .int .i64 sec, .err e]] => ((0 <= a /\ a <= (s.size : Int) /\ s.size < 1099511627776) /\ n <= 9223372036854775807) /\ k [.own 1, .err (ptsX s n.toNat (-1) (a, e)).2] [.box [.str s, .int .i64 (ptsX s n.toNat (-1) (a, e)).1, .int .i64 2, .err (ptsX s n.toNat (-1) (a, e)).2], .row 55 (resPt s n.toNat (a, e))]
 | _, _ => False
theorem pRgS_inv {ys : List PV} {L : Heap Kd} {k : List PV -> Heap Kd -> Prop} (h : pRgS ys L k) : ∃ (s : ByteArray) (a : Int) (sec : Int) (n : Int) (e : Err), ys = [.ptr 0 0, .int .i64 n] /\ L = [.box [.str s, .int .i64 a, .int .i64 sec, .err e]] /\ ((0 <= a /\ a <= (s.size : Int) /\ s.size < 1099511627776) /\ n <= 9223372036854775807) /\ k [.own 1, .err (ptsX s n.toNat (-1) (a, e)).2] [.box [.str s, .int .i64 (ptsX s n.toNat (-1) (a, e)).1, .int .i64 2, .err (ptsX s n.toNat (-1) (a, e)).2], .row 55 (resPt s n.toNat (a, e))] := by
 unfold pRgS at h
 split at h
 ·exact ⟨_, _, _, _, _, rfl, rfl, h⟩
 ·exact h.elim
theorem ptsX_err {s : ByteArray} {x : RS} (h : x.2.isNil = false) : ∀ (n : Nat) (last : Int), ptsX s n last x = x
 | 0, _ => rfl
 | n + 1, last => by show (bif x.2.isNil then _ else x) = x; rw [h]; rfl
theorem pRg_loop (A : KA Kd) (k : List PV -> Heap Kd -> Prop) (hA : Closed PR2 ff_pRg k A) (s : ByteArray) (hs : s.size < 1099511627776) (n : Int) (hn : n <= 9223372036854775807) :
 ∀ (m i : Nat), (m : Int) + (i : Int) = n \/ (m = 0 /\ n <= (i : Int)) -> ∀ (acc : List Prt) (last : Int) (x : RS), acc.length = i -> (x.2.isNil = true -> (i : Int) <= x.1) -> hIn s x ->
  (∀ r, r = (bif (ptsX s m last x).2.isNil then addPr acc (ptsV s m last x) else []) -> k [.own 1, .err (ptsX s m last x).2] [.box [.str s, .int .i64 (ptsX s m last x).1, .int .i64 2, .err (ptsX s m last x).2], .row 55 r]) ->
  A (td Tryz.f37 5) (envAt 57 [(0, .ptr 0 0), (1, .int .i64 n), (6, .own 1), (7, .int .i64 last), (8, .int .i64 (i : Int))]) [.box [.str s, .int .i64 x.1, .int .i64 2, .err x.2], .row 55 acc] := by
 intro m
 induction m with
 | zero =>
  intro i hi acc last x hacc hix hx hk
  refine (hA.nf (nf_pRg_b A k s x.1 n last i x.2 acc) ?_)
  have d : decide ((i : Int) < n) = false := decide_eq_false (by omega)
  rw [d, cond_false]
  have hk := hk _ rfl
  rw [show ptsX s 0 last x = x from rfl] at hk
  cases c : x.2.isNil with
  | true =>
   rw [c] at hk
   have e2 : addPr acc (ptsV s 0 last x) = acc := List.append_nil acc
   rw [cond_true, e2] at hk
   have : x.2 = .nil := isNil_eq c
   rw [this] at hk ⊢; exact hk
  | false => rw [c] at hk; exact hk
 | succ m ih =>
  intro i hi acc last x hacc hix hx hk
  refine (hA.nf (nf_pRg_b A k s x.1 n last i x.2 acc) ?_)
  have d : decide ((i : Int) < n) = true := decide_eq_true (by omega)
  rw [d, cond_true]
  have x1 := hx.ptI last
  have x2 := hx.ptM last
  have x3 := hx.ptN last
  have x4 := hx.pt last
  obtain ⟨h0, h1⟩ := hx
  have hx : hIn s x := ⟨h0, h1⟩
  cases c : x.2.isNil with
  | false =>
   have hk := hk _ rfl
   rw [ptsX_err c, c] at hk
   exact hk
  | true =>
   have e1 : ptsX s (m + 1) last x = ptsX s m (rdV s x.1 1 x.2) (ptX s last x) := by show (bif x.2.isNil then _ else _) = _; rw [c]; rfl
   have e2 : ptsV s (m + 1) last x = ptV s last x :: ptsV s m (rdV s x.1 1 x.2) (ptX s last x) := by show (bif x.2.isNil then _ else _) = _; rw [c]; rfl
   rw [e1, e2] at hk
   have hi2 := hix c
   have hlen : (acc.length + 1) * 56 <= 140737488355328 := by omega
   rw [cond_true]
   refine ⟨⟨h0, h1, by omega⟩, ⟨x1.1, x1.2, by omega⟩, ⟨x2.1, x2.2, by omega⟩, ⟨x3.1, x3.2, by omega⟩, fun l hl => ?_⟩
   refine ⟨[(rdV s x.1 1 x.2, nmT s (ptM s last x).1 2 (ptM s last x).2, trV s 2 (ptI s last x), l)], rfl, hlen, ?_⟩
   rw [wrap_succ' (by omega)]
   refine ih (i + 1) (by omega) _ _ (ptX s last x) (by rw [List.length_append, List.length_singleton, hacc]) (fun h => ?_) x4 ?_
   ·have := ptX_adv h; omega
   ·intro r hr
    refine hk r ?_
    rw [hr]
    cases c2 : (ptX s last x).2.isNil with
    | false => rw [ptsX_err c2, c2]; rfl
    | true =>
     rw [show l = clV s 2 (ptN s last x) from hl c2]
     unfold addPr; rw [List.append_assoc]; rfl
theorem ok_pRg : FunF B 37 1 pRgS := by
 refine funF_of (N := 57) (f := ff_pRg) env_PR2 mixed fn_pRg (by kernel_rfl) (by kernel_rfl) ?_
 intro A k ys L hA hF
 obtain ⟨s, a, sec, n, e, rfl, rfl, ⟨⟨h0, h1, hs⟩, hn⟩, hk⟩ := pRgS_inv hF; clear hF
 refine ⟨by kernel_rfl, (hA.nf (nf_pRg_a A k s a sec n e) ?_)⟩
 refine pRg_loop A k hA s hs n hn n.toNat 0 (by omega) [] (-1) (a, e) rfl (fun _ => h0) ⟨h0, h1⟩ ?_
 rintro r rfl
 exact hk
end Go.Ab.T
