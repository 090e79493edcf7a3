import Derived.Test.YtiemgkjmifpfcabDoorNameGet
import Derived.Test.YtiemgkjmifpfcabDoorOp
set_option linter.unusedVariables false
set_option linter.unusedSimpArgs false
namespace Go.Ab.T
open Go Go.Ab Go.Proofs
set_option maxRecDepth 100000
set_option maxHeartbeats 4000000
noncomputable def L6 := base (fun g => match g with | 86 => some (lift 0 namesF) | 92 => some (lift 0 namesF) | 7 => some (lift 0 NewS) | 9 => some (lift 1 EnterS) | 71 => some (lift 1 FailS) | 37 => some (lift 1 NeedS) | 52 => some (lift 1 ErrS) | 70 => some (lift 1 numberS) | 36 => some (lift 1 U8S) | 51 => some (lift 1 U16S) | 49 => some (lift 1 U32S) | 50 => some (lift 1 U64S) | 38 => some (lift 1 TextS) | 11 => some (lift 1 nGetS) | _ => none) (fun g => match g with | 77 => some nameS | 68 => some nameS | 45 => some newS | 44 => some atS | 43 => some inS | 88 => some sizeS | 85 => some rSizeS | 87 => some getS | 67 => some getS | 18 => some ofS | 12 => some FaultS | 13 => some PlaceS | 22 => some LeftS | 33 => some rFailS | 32 => some rNumS | 34 => some rTextS | 66 => some mayS | 69 => some letS | 31 => some rightS | 35 => some rightS | 10 => some rGetNS | _ => none) (fun _ => none)
theorem env_L6 : EnvOk L6 := env_of (by
    intro g F h
    split at h
    · cases h; exact ok_Name
    · cases h; exact ok_rName
    · cases h; exact ok_New
    · cases h; exact ok_At
    · cases h; exact ok_In
    · cases h; exact ok_size
    · cases h; exact ok_rSize
    · cases h; exact ok_Get
    · cases h; exact ok_rGet
    · cases h; exact of_ok
    · cases h; exact ok_rFault
    · cases h; exact ok_Place
    · cases h; exact ok_Left
    · cases h; exact ok_rFail
    · cases h; exact ok_rNum
    · cases h; exact ok_rText
    · cases h; exact ok_may
    · cases h; exact ok_letter
    · cases h; exact ok_right
    · cases h; exact ok_rright
    · cases h; exact ok_rGetN
    · cases h) (by
    intro g F h
    split at h
    · cases h; exact (lift_ok ok_rnames)
    · cases h; exact (lift_ok ok_names)
    · cases h; exact (lift_ok ok_rNew)
    · cases h; exact (lift_ok ok_Enter)
    · cases h; exact (lift_ok ok_Fail)
    · cases h; exact (lift_ok ok_Need)
    · cases h; exact (lift_ok ok_rErr)
    · cases h; exact (lift_ok ok_number)
    · cases h; exact (lift_ok ok_U8)
    · cases h; exact (lift_ok ok_U16)
    · cases h; exact (lift_ok ok_U32)
    · cases h; exact (lift_ok ok_U64)
    · cases h; exact (lift_ok ok_Text)
    · cases h; exact (lift_ok ok_nGet)
    · cases h) (fun g F h => (by cases h))
def trueS : SpecS := fun ys Φ => match ys with
  | [] => Φ [.bool true]
  | _ => False
theorem trueS_mono : MonoS trueS := by
  intro ys Φ Ψ h hF
  unfold trueS at hF ⊢
  split at hF
  · exact h _ hF
  · exact hF.elim
theorem trueS_inv {ys : List PV} {Φ : List PV → Prop} (h : trueS ys Φ) : ys = [] ∧ Φ [.bool true] := by
  unfold trueS at h
  split at h
  · exact ⟨rfl, h⟩
  · exact h.elim
theorem fn_awake06 : FnOk Tryd.prog 8 Tryd.f8 (bodyOf Tryd.f8) := ⟨by kernel_rfl, by kernel_rfl, by kernel_rfl⟩
noncomputable def ff_awake06 : Fun := ⟨Tryd.f8.ntmps, 0, Tryd.f8.results.toList, fun _ => none, fun _ => false, fun _ => []⟩
theorem nf_awake06 (A : KA Kd) (k : List PV → Heap Kd → Prop)  : evT L6 ff_awake06 A k 400 false [.code (bodyOf Tryd.f8)] (startEnv 6 []) [] =
    (k [PV.bool !rightN (ByteArray.mk #[(49 : UInt8), (78 : UInt8), (65 : UInt8), (86 : UInt8)])] []) := by kernel_rfl
theorem ok_awake06 : FunS B 8 trueS := by
  refine funS_of (N := 6) (f := ff_awake06) env_L6 mixed fn_awake06 (by kernel_rfl) (by kernel_rfl) (by kernel_rfl) trueS_mono ?_
  intro A k ys hA hF
  obtain ⟨rfl, hk⟩ := trueS_inv hF; clear hF
  refine ⟨by kernel_rfl, (hA.nf (nf_awake06 A k) ?_)⟩
  exact by_nf (q := k [.bool true] []) (by kernel_rfl) hk
noncomputable def L7 := base (fun g => match g with | 86 => some (lift 0 namesF) | 92 => some (lift 0 namesF) | 7 => some (lift 0 NewS) | 9 => some (lift 1 EnterS) | 71 => some (lift 1 FailS) | 37 => some (lift 1 NeedS) | 52 => some (lift 1 ErrS) | 70 => some (lift 1 numberS) | 36 => some (lift 1 U8S) | 51 => some (lift 1 U16S) | 49 => some (lift 1 U32S) | 50 => some (lift 1 U64S) | 38 => some (lift 1 TextS) | 11 => some (lift 1 nGetS) | _ => none) (fun g => match g with | 77 => some nameS | 68 => some nameS | 45 => some newS | 44 => some atS | 43 => some inS | 88 => some sizeS | 85 => some rSizeS | 87 => some getS | 67 => some getS | 18 => some ofS | 12 => some FaultS | 13 => some PlaceS | 22 => some LeftS | 33 => some rFailS | 32 => some rNumS | 34 => some rTextS | 66 => some mayS | 69 => some letS | 31 => some rightS | 35 => some rightS | 10 => some rGetNS | 8 => some trueS | _ => none) (fun _ => none)
theorem env_L7 : EnvOk L7 := env_of (by
    intro g F h
    split at h
    · cases h; exact ok_Name
    · cases h; exact ok_rName
    · cases h; exact ok_New
    · cases h; exact ok_At
    · cases h; exact ok_In
    · cases h; exact ok_size
    · cases h; exact ok_rSize
    · cases h; exact ok_Get
    · cases h; exact ok_rGet
    · cases h; exact of_ok
    · cases h; exact ok_rFault
    · cases h; exact ok_Place
    · cases h; exact ok_Left
    · cases h; exact ok_rFail
    · cases h; exact ok_rNum
    · cases h; exact ok_rText
    · cases h; exact ok_may
    · cases h; exact ok_letter
    · cases h; exact ok_right
    · cases h; exact ok_rright
    · cases h; exact ok_rGetN
    · cases h; exact ok_awake06
    · cases h) (by
    intro g F h
    split at h
    · cases h; exact (lift_ok ok_rnames)
    · cases h; exact (lift_ok ok_names)
    · cases h; exact (lift_ok ok_rNew)
    · cases h; exact (lift_ok ok_Enter)
    · cases h; exact (lift_ok ok_Fail)
    · cases h; exact (lift_ok ok_Need)
    · cases h; exact (lift_ok ok_rErr)
    · cases h; exact (lift_ok ok_number)
    · cases h; exact (lift_ok ok_U8)
    · cases h; exact (lift_ok ok_U16)
    · cases h; exact (lift_ok ok_U32)
    · cases h; exact (lift_ok ok_U64)
    · cases h; exact (lift_ok ok_Text)
    · cases h; exact (lift_ok ok_nGet)
    · cases h) (fun g F h => (by cases h))
theorem fn_NameGets : FnOk Tryd.prog 3 Tryd.f3 (bodyOf Tryd.f3) := ⟨by kernel_rfl, by kernel_rfl, by kernel_rfl⟩
noncomputable def ff_NameGets : Fun := ⟨Tryd.f3.ntmps, 0, Tryd.f3.results.toList, fun _ => none, fun _ => false, fun i => match i with | 6 => [0] | _ => []⟩
theorem nf_NameGets (A : KA Kd) (k : List PV → Heap Kd → Prop) (s : ByteArray) (n : Int) : evT L7 ff_NameGets A k 400 false [.code (bodyOf Tryd.f3)] (startEnv 53 [.str s, .int .i64 n]) [] =
    (bif decide ((↑s.size : Int) > (100 : Int)) then k [PV.bool true] []
else
  (((0 : Int) ≤ (0 : Int) ∧ (0 : Int) ≤ (↑s.size : Int) ∧ s.size < (4611686018427387904 : Nat)) ∧
      GoodF ((0 : Int), (0 : Int), (0 : Int))) ∧
    ((0 : Int) ≤ (0 : Int) ∧ (0 : Int) ≤ (↑s.size : Int) ∧ s.size < (4611686018427387904 : Nat)) ∧
      bif (nmT s (0 : Int) n Err.nil).toList == (nmT s (0 : Int) n (toE ((0 : Int), (0 : Int), (0 : Int)))).toList then
        bif
            (ofE (nmE s (0 : Int) n Err.nil)).fst ==
                (ofE (nmE s (0 : Int) n (toE ((0 : Int), (0 : Int), (0 : Int))))).fst &&
              ((ofE (nmE s (0 : Int) n Err.nil)).snd.fst ==
                  (ofE (nmE s (0 : Int) n (toE ((0 : Int), (0 : Int), (0 : Int))))).snd.fst &&
                ((ofE (nmE s (0 : Int) n Err.nil)).snd.snd ==
                    (ofE (nmE s (0 : Int) n (toE ((0 : Int), (0 : Int), (0 : Int))))).snd.snd &&
                  true)) then
          bif nmAt s (0 : Int) n Err.nil == nmAt s (0 : Int) n (toE ((0 : Int), (0 : Int), (0 : Int))) then
            k [PV.bool true] []
          else k [PV.bool false] []
        else k [PV.bool false] []
      else k [PV.bool false] []) := by kernel_rfl
def lawNGS : SpecS := fun ys Φ => match ys with
  | [.str s, .int .i64 n] => Φ [.bool true]
  | _ => False
theorem lawNGS_mono : MonoS lawNGS := by
  intro ys Φ Ψ h hF
  unfold lawNGS at hF ⊢
  split at hF
  · exact h _ hF
  · exact hF.elim
theorem lawNGS_inv {ys : List PV} {Φ : List PV → Prop} (h : lawNGS ys Φ) : ∃ (s : ByteArray) (n : Int), ys = [.str s, .int .i64 n] ∧ Φ [.bool true] := by
  unfold lawNGS at h
  split at h
  · exact ⟨_, _, rfl, h⟩
  · exact h.elim
theorem ok_NG : FunS B 3 lawNGS := by
  refine funS_of (N := 53) (f := ff_NameGets) env_L7 mixed fn_NameGets (by kernel_rfl) (by kernel_rfl) (by kernel_rfl) lawNGS_mono ?_
  intro A k ys hA hF
  obtain ⟨s, n, rfl, hk⟩ := lawNGS_inv hF; clear hF
  refine ⟨by kernel_rfl, (hA.nf (nf_NameGets A k s n) ?_)⟩
  cases h1 : decide ((s.size : Int) > 100) with
  | true => exact hk
  | false =>
    rw [decide_eq_false_iff_not] at h1
    have e0 : toE (0, 0, 0) = Err.nil := rfl
    have hb : ((0 : Int) ≤ 0 ∧ (0 : Int) ≤ (s.size : Int) ∧ s.size < 4611686018427387904) := ⟨Int.le_refl _, by omega, by omega⟩
    rw [e0]
    simp only [beq_self_eq_true, Bool.and_self, cond_true, cond_false]
    exact ⟨⟨hb, GoodF.mk .nil⟩, hb, hk⟩
theorem pre_NameGets (s : ByteArray) (n : Int) (_ : g_o9 s) (_ : g_o3 n) : lawNGS [a_o9 s, a_o3 n] fun rs => rs = [.bool true] :=
  rfl
end Go.Ab.T
