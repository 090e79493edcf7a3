import Derived.Test.YthfagophoncabaaGreatDoorOctet
import Derived.Test.YthfagophoncabaaGreatDoorMaB
set_option linter.unusedVariables false
set_option linter.unusedSimpArgs false
set_option linter.unusedSectionVars false
namespace Go.Ab.T
open Go Go.Ab Go.Proofs
variable [DMode]
set_option maxRecDepth 100000
set_option maxHeartbeats 4000000
noncomputable def Q0 := base (fun _ => none) (fun g => match g with | 127 => some nameS | _ => none) (fun _ => none)
theorem env_Q0 : EnvOk Q0 := env_of (by
 intro g F h
 split at h
 ·cases h; exact ok_rName
 ·cases h) (fun g F h => (by cases h)) (fun g F h => (by cases h))
def rFailS : SpecS := fun ys Φ => match ys with
 | [.agg [.str s, .int .i64 a, .int .i64 sec, .int .i64 f1, .int .i64 f2, .int .i64 f3], .int .i64 c, .int .i64 b] => Φ [.agg [.str s, .int .i64 a, .int .i64 sec, .int .i64 (rFail (f1, f2, f3) sec c b).1, .int .i64 (rFail (f1, f2, f3) sec c b).2.1, .int .i64 (rFail (f1, f2, f3) sec c b).2.2]]
 | _ => False
theorem rFailS_mono : MonoS rFailS := by
 intro ys Φ Ψ h hF
 unfold rFailS at hF ⊢
 split at hF
 ·exact h _ hF
 ·exact hF.elim
theorem rFailS_inv {ys : List PV} {Φ : List PV -> Prop} (h : rFailS ys Φ) : ∃ (s : ByteArray) (a : Int) (sec : Int) (f1 : Int) (f2 : Int) (f3 : Int) (c : Int) (b : Int), ys = [.agg [.str s, .int .i64 a, .int .i64 sec, .int .i64 f1, .int .i64 f2, .int .i64 f3], .int .i64 c, .int .i64 b] /\ Φ [.agg [.str s, .int .i64 a, .int .i64 sec, .int .i64 (rFail (f1, f2, f3) sec c b).1, .int .i64 (rFail (f1, f2, f3) sec c b).2.1, .int .i64 (rFail (f1, f2, f3) sec c b).2.2]] := by
 unfold rFailS at h
 split at h
 ·exact ⟨_, _, _, _, _, _, _, _, rfl, h⟩
 ·exact h.elim
theorem fn_rFail : FnOk Tryz.prog 57 Tryz.f57 (bodyOf Tryz.f57) := ⟨by kernel_rfl, by kernel_rfl, by kernel_rfl⟩
noncomputable def ff_rFail : Fun := ⟨Tryz.f57.ntmps, 0, Tryz.f57.results.toList, fun _ => none, fun _ => false, fun _ => []⟩
theorem nf_rFail (A : KA Kd) (k : List PV -> Heap Kd -> Prop) (s : ByteArray) (a sec f1 f2 f3 c b : Int) : evT Q0 ff_rFail A k 400 false [.code (bodyOf Tryz.f57)] (startEnv 23 [.agg [.str s, .int .i64 a, .int .i64 sec, .int .i64 f1, .int .i64 f2, .int .i64 f3], .int .i64 c, .int .i64 b]) [] = (bif f1 == 0 then bif !(nameOf c).toList == (ByteArray.mk #[]).toList then k [.agg [.str s, .int .i64 a, .int .i64 sec, .int .i64 c, .int .i64 sec, .int .i64 b]] [] else k [.agg [.str s, .int .i64 a, .int .i64 sec, .int .i64 f1, .int .i64 f2, .int .i64 f3]] []
else k [PV.agg [PV.str s, PV.int IntKind.i64 a, PV.int IntKind.i64 sec, PV.int IntKind.i64 f1, PV.int IntKind.i64 f2, PV.int IntKind.i64 f3]] []) := by kernel_rfl
theorem ok_rFail : FunS B 57 rFailS := by
 refine funS_of (N := 23) (f := ff_rFail) env_Q0 mixed fn_rFail (by kernel_rfl) (by kernel_rfl) (by kernel_rfl) rFailS_mono ?_
 intro A k ys hA hF
 obtain ⟨s, a, sec, f1, f2, f3, c, b, rfl, hk⟩ := rFailS_inv hF; clear hF
 refine ⟨by kernel_rfl, (hA.nf (nf_rFail A k s a sec f1 f2 f3 c b) ?_)⟩
 rw [nameOf_empty, Bool.not_not]
 unfold rFail at hk
 cases h1 : f1 == 0 with
 | false => simp only [h1, Bool.false_and, cond_false] at hk; exact hk
 | true =>
  cases h2 : isCls c with
  | false => simp only [h1, h2, Bool.true_and, cond_false] at hk; exact hk
  | true => simp only [h1, h2, Bool.true_and, cond_true] at hk; exact hk
noncomputable def Q1 := base (fun _ => none) (fun g => match g with | 52 => some getS | 57 => some rFailS | _ => none) (fun _ => none)
theorem env_Q1 : EnvOk Q1 := env_of (by
 intro g F h
 split at h
 ·cases h; exact ok_rGet
 ·cases h; exact ok_rFail
 ·cases h) (fun g F h => (by cases h)) (fun g F h => (by cases h))
def rNumS : SpecS := fun ys Φ => match ys with
 | [.agg [.str s, .int .i64 a, .int .i64 sec, .int .i64 f1, .int .i64 f2, .int .i64 f3], .int .i64 n] => (s.size < 4611686018427387904) /\ Φ [.agg [.str s, .int .i64 (nAt s a n (f1, f2, f3)), .int .i64 sec, .int .i64 (nF s a n sec (f1, f2, f3)).1, .int .i64 (nF s a n sec (f1, f2, f3)).2.1, .int .i64 (nF s a n sec (f1, f2, f3)).2.2], .int .u64 (nV s a n (f1, f2, f3))]
 | _ => False
theorem rNumS_mono : MonoS rNumS := by
 intro ys Φ Ψ h hF
 unfold rNumS at hF ⊢
 split at hF
 ·obtain ⟨hp, hk⟩ := hF; exact ⟨hp, h _ hk⟩
 ·exact hF.elim
theorem rNumS_inv {ys : List PV} {Φ : List PV -> Prop} (h : rNumS ys Φ) : ∃ (s : ByteArray) (a : Int) (sec : Int) (f1 : Int) (f2 : Int) (f3 : Int) (n : Int), ys = [.agg [.str s, .int .i64 a, .int .i64 sec, .int .i64 f1, .int .i64 f2, .int .i64 f3], .int .i64 n] /\ (s.size < 4611686018427387904) /\ Φ [.agg [.str s, .int .i64 (nAt s a n (f1, f2, f3)), .int .i64 sec, .int .i64 (nF s a n sec (f1, f2, f3)).1, .int .i64 (nF s a n sec (f1, f2, f3)).2.1, .int .i64 (nF s a n sec (f1, f2, f3)).2.2], .int .u64 (nV s a n (f1, f2, f3))] := by
 unfold rNumS at h
 split at h
 ·exact ⟨_, _, _, _, _, _, _, rfl, h⟩
 ·exact h.elim
theorem fn_rNum : FnOk Tryz.prog 122 Tryz.f122 (bodyOf Tryz.f122) := ⟨by kernel_rfl, by kernel_rfl, by kernel_rfl⟩
noncomputable def ff_rNum : Fun := ⟨Tryz.f122.ntmps, 0, Tryz.f122.results.toList, fun _ => none, fun _ => false, fun _ => []⟩
theorem nf_rNum (A : KA Kd) (k : List PV -> Heap Kd -> Prop) (s : ByteArray) (a sec f1 f2 f3 n : Int) : evT Q1 ff_rNum A k 400 false [.code (bodyOf Tryz.f122)] (startEnv 35 [.agg [.str s, .int .i64 a, .int .i64 sec, .int .i64 f1, .int .i64 f2, .int .i64 f3], .int .i64 n]) [] = (bif f1 != 0 then k [.agg [.str s, .int .i64 a, .int .i64 sec, .int .i64 f1, .int .i64 f2, .int .i64 f3], .int .u64 0] []
else s.size < (4611686018427387904 : Nat) /\ bif !getOk s a n then k [PV.agg [PV.str s, PV.int IntKind.i64 a, PV.int IntKind.i64 sec, PV.int IntKind.i64 (rFail (f1, f2, f3) sec (2 : Int) a).fst, PV.int IntKind.i64 (rFail (f1, f2, f3) sec (2 : Int) a).snd.fst, PV.int IntKind.i64 (rFail (f1, f2, f3) sec (2 : Int) a).snd.snd], PV.int IntKind.u64 (0 : Int)] [] else k [PV.agg [PV.str s, PV.int IntKind.i64 (IntKind.i64.wrap (a + n)), PV.int IntKind.i64 sec, PV.int IntKind.i64 f1, PV.int IntKind.i64 f2, PV.int IntKind.i64 f3], PV.int IntKind.u64 (getV s a n)] []) := by kernel_rfl
theorem ok_rNum : FunS B 122 rNumS := by
 refine funS_of (N := 35) (f := ff_rNum) env_Q1 mixed fn_rNum (by kernel_rfl) (by kernel_rfl) (by kernel_rfl) rNumS_mono ?_
 intro A k ys hA hF
 obtain ⟨s, a, sec, f1, f2, f3, n, rfl, hs, hk⟩ := rNumS_inv hF; clear hF
 refine ⟨by kernel_rfl, (hA.nf (nf_rNum A k s a sec f1 f2 f3 n) ?_)⟩
 unfold nAt nV nF nOk at hk
 have hb : (f1 != 0) = !(f1 == 0) := rfl
 rw [hb]
 cases h1 : f1 == 0 with
 | false =>
  have h2 : ∀ b c, rFail (f1, f2, f3) sec b c = (f1, f2, f3) := fun b c => rFail_bad (by exact h1) _ _ _
  simp only [h1, Bool.false_and, cond_false, h2] at hk
  cases h3 : getOk s a n <;> rw [h3] at hk <;> exact hk
 | true =>
  refine ⟨hs, ?_⟩
  simp only [h1, Bool.true_and] at hk
  cases h3 : getOk s a n with
  | false => simp only [h3, cond_false] at hk; exact hk
  | true =>
   simp only [h3, cond_true] at hk
   have h4 := h3
   simp only [getOk, Bool.and_eq_true, decide_eq_true_eq] at h4
   have h5 := sizeOk_cases h4.1.1.1
   have hv : getV s a n = (beV s a.toNat n.toNat : Int) := by rw [getV, h3]; rfl
   rw [hv, wrap_id _ (by omega) (by omega)]
   exact hk
end Go.Ab.T
