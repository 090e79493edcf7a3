import Derived.Test.YthfagophoncabaaGreatDoorReader
import Derived.Test.YthfagophoncabaaGreatDoorName0
set_option linter.unusedVariables false
set_option linter.unusedSimpArgs false
set_option linter.unusedSectionVars false
namespace Go.Ab.T
open Go Go.Ab Go.Proofs
variable [DMode]
set_option maxRecDepth 100000
set_option maxHeartbeats 4000000
noncomputable def G0 := base (fun g => match g with | 89 => some (lift 1 NeedS) | 90 => some (lift 1 U8S) | 36 => some (lift 1 TextS) | _ => none) (fun g => match g with | 43 => some PlaceS | 148 => some rightS | _ => none) (fun _ => none)
theorem env_G0 : EnvOk G0 := env_of (by
 intro g F h
 split at h
 ·cases h; exact ok_Place
 ·cases h; exact ok_right
 ·cases h) (by
 intro g F h
 split at h
 ·cases h; exact (lift_ok ok_Need)
 ·cases h; exact (lift_ok ok_U8)
 ·cases h; exact (lift_ok ok_Text)
 ·cases h) (fun g F h => (by cases h))
def nGetS : List PV -> Heap Kd -> (List PV -> Heap Kd -> Prop) -> Prop := fun ys L k => match ys, L with
 | [.ptr 0 0], [.box [.str s, .int .i64 a, .int .i64 sec, .err e]] => (0 <= a /\ a <= (s.size : Int) /\ s.size < 4611686018427387904) /\ k [.str (nmT s a sec e)] [.box [.str s, .int .i64 (nmAt s a sec e), .int .i64 sec, .err (nmE s a sec e)]]
 | _, _ => False
theorem nGetS_inv {ys : List PV} {L : Heap Kd} {k : List PV -> Heap Kd -> Prop} (h : nGetS ys L k) : ∃ (s : ByteArray) (a : Int) (sec : Int) (e : Err), ys = [.ptr 0 0] /\ L = [.box [.str s, .int .i64 a, .int .i64 sec, .err e]] /\ (0 <= a /\ a <= (s.size : Int) /\ s.size < 4611686018427387904) /\ k [.str (nmT s a sec e)] [.box [.str s, .int .i64 (nmAt s a sec e), .int .i64 sec, .err (nmE s a sec e)]] := by
 unfold nGetS at h
 split at h
 ·exact ⟨_, _, _, _, rfl, rfl, h⟩
 ·exact h.elim
theorem fn_nGet : FnOk Tryz.prog 99 Tryz.f99 (bodyOf Tryz.f99) := ⟨by kernel_rfl, by kernel_rfl, by kernel_rfl⟩
noncomputable def ff_nGet : Fun := ⟨Tryz.f99.ntmps, 1, Tryz.f99.results.toList, fun _ => none, fun _ => false, fun _ => []⟩
theorem nf_nGet (A : KA Kd) (k : List PV -> Heap Kd -> Prop) (s : ByteArray) (a sec : Int) (e : Err) : evT G0 ff_nGet A k 400 false [.code (bodyOf Tryz.f99)] (startEnv 30 [.ptr 0 0]) [.box [.str s, .int .i64 a, .int .i64 sec, .err e]] = ((0 <= a /\ a <= (↑s.size : Int) /\ s.size < 4611686018427387904) /\ bif decide (rdV s a 1 e >= 1) then bif !(needE (rdE s a 1 sec e) (decide (rdV s a 1 e <= 16)) sec 7 a).isNil then k [.str ⟨#[]⟩] [.box [.str s, .int .i64 (rdAt s a 1 e), .int .i64 sec, .err (needE (rdE s a 1 sec e) (decide (rdV s a 1 e <= 16)) sec 7 a)]] else (0 <= rdAt s a 1 e /\ rdAt s a 1 e <= (↑s.size : Int) /\ s.size < 4611686018427387904) /\ bif !(needE (rdE s (rdAt s a 1 e) (max (rdV s a 1 e) (0 : Int)) sec (needE (rdE s a 1 sec e) (decide (rdV s a 1 e <= 16)) sec 7 a)) (rightN (rdT s (rdAt s a 1 e) (max (rdV s a 1 e) (0 : Int)) (needE (rdE s a 1 sec e) (decide (rdV s a 1 e <= 16)) sec 7 a))) sec 7 a).isNil then k [.str ⟨#[]⟩] [.box [.str s, .int .i64 (rdAt s (rdAt s a 1 e) (max (rdV s a 1 e) (0 : Int)) (needE (rdE s a 1 sec e) (decide (rdV s a 1 e <= 16)) sec 7 a)), .int .i64 sec, .err (needE (rdE s (rdAt s a 1 e) (max (rdV s a 1 e) (0 : Int)) sec (needE (rdE s a 1 sec e) (decide (rdV s a 1 e <= 16)) sec 7 a)) (rightN (rdT s (rdAt s a 1 e) (max (rdV s a 1 e) (0 : Int)) (needE (rdE s a 1 sec e) (decide (rdV s a 1 e <= 16)) sec 7 a))) sec 7 a)]] else k [.str (rdT s (rdAt s a 1 e) (max (rdV s a 1 e) (0 : Int)) (needE (rdE s a 1 sec e) (decide (rdV s a 1 e <= 16)) sec 7 a))] [.box [.str s, .int .i64 (rdAt s (rdAt s a 1 e) (max (rdV s a 1 e) (0 : Int)) (needE (rdE s a 1 sec e) (decide (rdV s a 1 e <= 16)) sec 7 a)), .int .i64 sec, .err (needE (rdE s (rdAt s a 1 e) (max (rdV s a 1 e) (0 : Int)) sec (needE (rdE s a 1 sec e) (decide (rdV s a 1 e <= 16)) sec 7 a)) (rightN (rdT s (rdAt s a 1 e) (max (rdV s a 1 e) (0 : Int)) (needE (rdE s a 1 sec e) (decide (rdV s a 1 e <= 16)) sec 7 a))) sec 7 a)]] else bif !(needE (rdE s a 1 sec e) false sec 7 a).isNil then k [.str ⟨#[]⟩] [.box [.str s, .int .i64 (rdAt s a 1 e), .int .i64 sec, .err (needE (rdE s a 1 sec e) false sec 7 a)]] else (0 <= rdAt s a 1 e /\ rdAt s a 1 e <= (↑s.size : Int) /\ s.size < 4611686018427387904) /\ bif !(needE (rdE s (rdAt s a 1 e) (max (rdV s a 1 e) (0 : Int)) sec (needE (rdE s a 1 sec e) false sec 7 a)) (rightN (rdT s (rdAt s a 1 e) (max (rdV s a 1 e) (0 : Int)) (needE (rdE s a 1 sec e) false sec 7 a))) sec 7 a).isNil then k [.str ⟨#[]⟩] [.box [.str s, .int .i64 (rdAt s (rdAt s a 1 e) (max (rdV s a 1 e) (0 : Int)) (needE (rdE s a 1 sec e) false sec 7 a)), .int .i64 sec, .err (needE (rdE s (rdAt s a 1 e) (max (rdV s a 1 e) (0 : Int)) sec (needE (rdE s a 1 sec e) false sec 7 a)) (rightN (rdT s (rdAt s a 1 e) (max (rdV s a 1 e) (0 : Int)) (needE (rdE s a 1 sec e) false sec 7 a))) sec 7 a)]] else k [.str (rdT s (rdAt s a 1 e) (max (rdV s a 1 e) (0 : Int)) (needE (rdE s a 1 sec e) false sec 7 a))] [.box [.str s, .int .i64 (rdAt s (rdAt s a 1 e) (max (rdV s a 1 e) (0 : Int)) (needE (rdE s a 1 sec e) false sec 7 a)), .int .i64 sec, .err (needE (rdE s (rdAt s a 1 e) (max (rdV s a 1 e) (0 : Int)) sec (needE (rdE s a 1 sec e) false sec 7 a)) (rightN (rdT s (rdAt s a 1 e) (max (rdV s a 1 e) (0 : Int)) (needE (rdE s a 1 sec e) false sec 7 a))) sec 7 a)]]) := by kernel_rfl
theorem ok_nGet : FunF B 99 1 nGetS := by
 refine funF_of (N := 30) (f := ff_nGet) env_G0 mixed fn_nGet (by kernel_rfl) (by kernel_rfl) ?_
 intro A k ys L hA hF
 obtain ⟨s, a, sec, e, rfl, rfl, ⟨h0, h1, h2⟩, hk⟩ := nGetS_inv hF; clear hF
 refine ⟨by kernel_rfl, (hA.nf (nf_nGet A k s a sec e) ?_)⟩
 obtain ⟨q0, q1⟩ := rdAt_le (e := e) (n := 1) h0 h1 (by omega)
 refine ⟨⟨h0, h1, h2⟩, ?_⟩
 have hK : nmK s a sec e = needE (rdE s a 1 sec e) (decide (rdV s a 1 e >= 1) && decide (rdV s a 1 e <= 16)) sec 7 a := rfl
 unfold nmT nmAt at hk
 have hE : nmE s a sec e = bif (nmK s a sec e).isNil then needE (rdE s (rdAt s a 1 e) (max (rdV s a 1 e) 0) sec (nmK s a sec e)) (rightN (rdT s (rdAt s a 1 e) (max (rdV s a 1 e) 0) (nmK s a sec e))) sec 7 a else nmK s a sec e := rfl
 rw [hE] at hk
 clear hE
 rw [hK] at hk
 clear hK
 cases c1 : decide (rdV s a 1 e >= 1) with
 | true =>
  rw [c1, Bool.true_and] at hk
  generalize hx : needE (rdE s a 1 sec e) (decide (rdV s a 1 e <= 16)) sec 7 a = x at hk ⊢
  cases c2 : x.isNil with
  | false => rw [c2] at hk; simp only [cond_false, c2] at hk; exact hk
  | true =>
   rw [c2] at hk; simp only [cond_true] at hk
   refine ⟨⟨q0, q1, h2⟩, ?_⟩
   generalize hy : needE (rdE s (rdAt s a 1 e) (max (rdV s a 1 e) 0) sec x) (rightN (rdT s (rdAt s a 1 e) (max (rdV s a 1 e) 0) x)) sec 7 a = y at hk ⊢
   cases c3 : y.isNil with
   | false => rw [c3] at hk; exact hk
   | true => rw [c3] at hk; exact hk
 | false =>
  rw [c1, Bool.false_and] at hk
  generalize hx : needE (rdE s a 1 sec e) false sec 7 a = x at hk ⊢
  cases c2 : x.isNil with
  | false => rw [c2] at hk; simp only [cond_false, c2] at hk; exact hk
  | true =>
   rw [c2] at hk; simp only [cond_true] at hk
   refine ⟨⟨q0, q1, h2⟩, ?_⟩
   generalize hy : needE (rdE s (rdAt s a 1 e) (max (rdV s a 1 e) 0) sec x) (rightN (rdT s (rdAt s a 1 e) (max (rdV s a 1 e) 0) x)) sec 7 a = y at hk ⊢
   cases c3 : y.isNil with
   | false => rw [c3] at hk; exact hk
   | true => rw [c3] at hk; exact hk
end Go.Ab.T
