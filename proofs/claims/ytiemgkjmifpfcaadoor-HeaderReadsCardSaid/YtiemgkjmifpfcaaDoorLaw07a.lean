import Derived.Test.YtiemgkjmifpfcaaDoorHeader
import Derived.Test.YtiemgkjmifpfcaaDoorOp
set_option linter.unusedVariables false
set_option linter.unusedSimpArgs false
namespace Go.Ab.T
open Go Go.Ab Go.Proofs
set_option maxRecDepth 100000
set_option maxHeartbeats 4000000
noncomputable def M0 := base (fun g => match g with | 93 => some (lift 0 namesF) | 86 => some (lift 0 namesF) | 15 => some (lift 0 NewS) | 17 => some (lift 1 EnterS) | 52 => some (lift 1 FailS) | 49 => some (lift 1 NeedS) | 22 => some (lift 1 ErrS) | 50 => some (lift 1 numberS) | 20 => some (lift 1 U8S) | 26 => some (lift 1 U16S) | 27 => some (lift 1 U32S) | 28 => some (lift 1 U64S) | 18 => some (lift 1 TextS) | 42 => some (lift 1 hReadS) | _ => none) (fun g => match g with | 70 => some nameS | 80 => some nameS | 45 => some newS | 47 => some atS | 79 => some inS | 91 => some sizeS | 92 => some rSizeS | 77 => some getS | 78 => some getS | 14 => some ofS | 19 => some FaultS | 21 => some PlaceS | 23 => some LeftS | 67 => some boundsS | 68 => some fineS | _ => none) (fun _ => none)
theorem env_M0 : EnvOk M0 := env_of (by
    intro g F h
    split at h
    · cases h; exact ok_Name
    · cases h; exact ok_rName
    · cases h; exact ok_New
    · cases h; exact ok_At
    · cases h; exact ok_In
    · cases h; exact ok_size
    · cases h; exact ok_rSize
    · cases h; exact ok_Get
    · cases h; exact ok_rGet
    · cases h; exact of_ok
    · cases h; exact ok_rFault
    · cases h; exact ok_Place
    · cases h; exact ok_Left
    · cases h; exact ok_bounds
    · cases h; exact ok_fine
    · cases h) (by
    intro g F h
    split at h
    · cases h; exact (lift_ok ok_rnames)
    · cases h; exact (lift_ok ok_names)
    · cases h; exact (lift_ok ok_rNew)
    · cases h; exact (lift_ok ok_Enter)
    · cases h; exact (lift_ok ok_Fail)
    · cases h; exact (lift_ok ok_Need)
    · cases h; exact (lift_ok ok_rErr)
    · cases h; exact (lift_ok ok_number)
    · cases h; exact (lift_ok ok_U8)
    · cases h; exact (lift_ok ok_U16)
    · cases h; exact (lift_ok ok_U32)
    · cases h; exact (lift_ok ok_U64)
    · cases h; exact (lift_ok ok_Text)
    · cases h; exact (lift_ok ok_hRead)
    · cases h) (fun g F h => (by cases h))
def plainS : SpecS := fun ys Φ => match ys with
  | [.agg [.int .u32 h0, .int .u64 h1, .int .i64 h2, .int .i64 h3, .int .i64 h4, .int .i64 h5, .int .i64 h6]] => Φ [.agg [.int .u32 h0, .int .u64 h1, .int .i64 h2, .int .i64 h3, .int .i64 h4, .int .i64 h5, .int .i64 h6]]
  | _ => False
theorem plainS_mono : MonoS plainS := by
  intro ys Φ Ψ h hF
  unfold plainS at hF ⊢
  split at hF
  · exact h _ hF
  · exact hF.elim
theorem plainS_inv {ys : List PV} {Φ : List PV → Prop} (h : plainS ys Φ) : ∃ (h0 : Int) (h1 : Int) (h2 : Int) (h3 : Int) (h4 : Int) (h5 : Int) (h6 : Int), ys = [.agg [.int .u32 h0, .int .u64 h1, .int .i64 h2, .int .i64 h3, .int .i64 h4, .int .i64 h5, .int .i64 h6]] ∧ Φ [.agg [.int .u32 h0, .int .u64 h1, .int .i64 h2, .int .i64 h3, .int .i64 h4, .int .i64 h5, .int .i64 h6]] := by
  unfold plainS at h
  split at h
  · exact ⟨_, _, _, _, _, _, _, rfl, h⟩
  · exact h.elim
theorem fn_plain : FnOk Tryd.prog 39 Tryd.f39 (bodyOf Tryd.f39) := ⟨by kernel_rfl, by kernel_rfl, by kernel_rfl⟩
noncomputable def ff_plain : Fun := ⟨Tryd.f39.ntmps, 0, Tryd.f39.results.toList, fun _ => none, fun _ => false, fun _ => []⟩
theorem nf_plain (A : KA Kd) (k : List PV → Heap Kd → Prop) (h0 h1 h2 h3 h4 h5 h6 : Int) : evT M0 ff_plain A k 400 false [.code (bodyOf Tryd.f39)] (startEnv 18 [.agg [.int .u32 h0, .int .u64 h1, .int .i64 h2, .int .i64 h3, .int .i64 h4, .int .i64 h5, .int .i64 h6]]) [] = (k [PV.agg [PV.int IntKind.u32 h0, PV.int IntKind.u64 h1, PV.int IntKind.i64 h2, PV.int IntKind.i64 h3, PV.int IntKind.i64 h4, PV.int IntKind.i64 h5, PV.int IntKind.i64 h6]] []) := by kernel_rfl
theorem ok_plain : FunS B 39 plainS := by
  refine funS_of (N := 18) (f := ff_plain) env_M0 mixed fn_plain (by kernel_rfl) (by kernel_rfl) (by kernel_rfl) plainS_mono ?_
  intro A k ys hA hF
  obtain ⟨h0, h1, h2, h3, h4, h5, h6, rfl, hk⟩ := plainS_inv hF; clear hF
  exact ⟨by kernel_rfl, (hA.nf (nf_plain A k h0 h1 h2 h3 h4 h5 h6) hk)⟩
def trueS : SpecS := fun ys Φ => match ys with
  | [] => Φ [.bool true]
  | _ => False
theorem trueS_mono : MonoS trueS := by
  intro ys Φ Ψ h hF
  unfold trueS at hF ⊢
  split at hF
  · exact h _ hF
  · exact hF.elim
theorem trueS_inv {ys : List PV} {Φ : List PV → Prop} (h : trueS ys Φ) : ys = [] ∧ Φ [.bool true] := by
  unfold trueS at h
  split at h
  · exact ⟨rfl, h⟩
  · exact h.elim
theorem fn_awake07 : FnOk Tryd.prog 40 Tryd.f40 (bodyOf Tryd.f40) := ⟨by kernel_rfl, by kernel_rfl, by kernel_rfl⟩
noncomputable def ff_awake07 : Fun := ⟨Tryd.f40.ntmps, 0, Tryd.f40.results.toList, fun _ => none, fun _ => false, fun _ => []⟩
theorem nf_awake07 (A : KA Kd) (k : List PV → Heap Kd → Prop)  : evT M0 ff_awake07 A k 400 false [.code (bodyOf Tryd.f40)] (startEnv 18 []) [] = (((0 : Int) ≤ (0 : Int) ∧ (0 : Int) ≤ (↑(ByteArray.mk #[(67 : UInt8), (87 : UInt8), (77 : UInt8), (50 : UInt8)]).size : Int) ∧ (ByteArray.mk #[(67 : UInt8), (87 : UInt8), (77 : UInt8), (50 : UInt8)]).size < (4611686018427387904 : Nat)) ∧ k [PV.bool true] []) := by kernel_rfl
theorem ok_awake07 : FunS B 40 trueS := by
  refine funS_of (N := 18) (f := ff_awake07) env_M0 mixed fn_awake07 (by kernel_rfl) (by kernel_rfl) (by kernel_rfl) trueS_mono ?_
  intro A k ys hA hF
  obtain ⟨rfl, hk⟩ := trueS_inv hF; clear hF
  exact ⟨by kernel_rfl, (hA.nf (nf_awake07 A k) ⟨⟨by decide, by decide, by decide⟩, hk⟩)⟩
def hOfS : SpecS := fun ys Φ => ∃ (h1 h2 : Int) (l1 : List (Int × ByteArray × Bool × (List (Int × Bool)))) (l2 : List (Int × Int × (List (Int × Int × Int)) × (List (Int × Int × Int)))) (l3 : List (Int × Int)) (l4 : List (Int × Int × Int)), ys = [.agg [.int .u64 h1, .int .i64 h2, .sl _ e_api_Partition l1, .sl _ e_api_Schedule l2, .sl _ e_api_Pair l3, .sl _ e_api_Act l4]] ∧ Φ [.agg [.int .u32 0, .int .u64 h1, .int .i64 h2, .int .i64 l1.length, .int .i64 l2.length, .int .i64 l3.length, .int .i64 l4.length]]
theorem hOfS_mono : MonoS hOfS := fun _ _ _ h ⟨h1, h2, l1, l2, l3, l4, e, hk⟩ => ⟨h1, h2, l1, l2, l3, l4, e, h _ hk⟩
theorem fn_hOf : FnOk Tryd.prog 38 Tryd.f38 (bodyOf Tryd.f38) := ⟨by kernel_rfl, by kernel_rfl, by kernel_rfl⟩
noncomputable def ff_hOf : Fun := ⟨Tryd.f38.ntmps, 0, Tryd.f38.results.toList, fun _ => none, fun _ => false, fun _ => []⟩
theorem nf_hOf (A : KA Kd) (k : List PV → Heap Kd → Prop) (h1 h2 : Int) (l1 : List (Int × ByteArray × Bool × (List (Int × Bool)))) (l2 : List (Int × Int × (List (Int × Int × Int)) × (List (Int × Int × Int)))) (l3 : List (Int × Int)) (l4 : List (Int × Int × Int)) : evT M0 ff_hOf A k 400 false [.code (bodyOf Tryd.f38)] (startEnv 20 [.agg [.int .u64 h1, .int .i64 h2, .sl _ e_api_Partition l1, .sl _ e_api_Schedule l2, .sl _ e_api_Pair l3, .sl _ e_api_Act l4]]) [] = (k [PV.agg [PV.int IntKind.u32 (0 : Int), PV.int IntKind.u64 h1, PV.int IntKind.i64 h2, PV.int IntKind.i64 (↑l1.length : Int), PV.int IntKind.i64 (↑l2.length : Int), PV.int IntKind.i64 (↑l3.length : Int), PV.int IntKind.i64 (↑l4.length : Int)]] []) := by kernel_rfl
theorem ok_hOf : FunS B 38 hOfS := by
  refine funS_of (N := 20) (f := ff_hOf) env_M0 mixed fn_hOf (by kernel_rfl) (by kernel_rfl) (by kernel_rfl) hOfS_mono ?_
  intro A k ys hA hF
  obtain ⟨h1, h2, l1, l2, l3, l4, rfl, hk⟩ := hF
  exact ⟨by kernel_rfl, (hA.nf (nf_hOf A k h1 h2 l1 l2 l3 l4) hk)⟩
noncomputable def M1 := base (fun g => match g with | 93 => some (lift 0 namesF) | 86 => some (lift 0 namesF) | 15 => some (lift 0 NewS) | 17 => some (lift 1 EnterS) | 52 => some (lift 1 FailS) | 49 => some (lift 1 NeedS) | 22 => some (lift 1 ErrS) | 50 => some (lift 1 numberS) | 20 => some (lift 1 U8S) | 26 => some (lift 1 U16S) | 27 => some (lift 1 U32S) | 28 => some (lift 1 U64S) | 18 => some (lift 1 TextS) | 42 => some (lift 1 hReadS) | _ => none) (fun g => match g with | 70 => some nameS | 80 => some nameS | 45 => some newS | 47 => some atS | 79 => some inS | 91 => some sizeS | 92 => some rSizeS | 77 => some getS | 78 => some getS | 14 => some ofS | 19 => some FaultS | 21 => some PlaceS | 23 => some LeftS | 67 => some boundsS | 68 => some fineS | 39 => some plainS | 40 => some trueS | 38 => some hOfS | _ => none) (fun _ => none)
theorem env_M1 : EnvOk M1 := env_of (by
    intro g F h
    split at h
    · cases h; exact ok_Name
    · cases h; exact ok_rName
    · cases h; exact ok_New
    · cases h; exact ok_At
    · cases h; exact ok_In
    · cases h; exact ok_size
    · cases h; exact ok_rSize
    · cases h; exact ok_Get
    · cases h; exact ok_rGet
    · cases h; exact of_ok
    · cases h; exact ok_rFault
    · cases h; exact ok_Place
    · cases h; exact ok_Left
    · cases h; exact ok_bounds
    · cases h; exact ok_fine
    · cases h; exact ok_plain
    · cases h; exact ok_awake07
    · cases h; exact ok_hOf
    · cases h) (by
    intro g F h
    split at h
    · cases h; exact (lift_ok ok_rnames)
    · cases h; exact (lift_ok ok_names)
    · cases h; exact (lift_ok ok_rNew)
    · cases h; exact (lift_ok ok_Enter)
    · cases h; exact (lift_ok ok_Fail)
    · cases h; exact (lift_ok ok_Need)
    · cases h; exact (lift_ok ok_rErr)
    · cases h; exact (lift_ok ok_number)
    · cases h; exact (lift_ok ok_U8)
    · cases h; exact (lift_ok ok_U16)
    · cases h; exact (lift_ok ok_U32)
    · cases h; exact (lift_ok ok_U64)
    · cases h; exact (lift_ok ok_Text)
    · cases h; exact (lift_ok ok_hRead)
    · cases h) (fun g F h => (by cases h))
theorem fn_HeaderOf : FnOk Tryd.prog 9 Tryd.f9 (bodyOf Tryd.f9) := ⟨by kernel_rfl, by kernel_rfl, by kernel_rfl⟩
noncomputable def ff_HeaderOf : Fun := ⟨Tryd.f9.ntmps, 0, Tryd.f9.results.toList, fun _ => none, fun _ => false, fun _ => []⟩
theorem nf_HeaderOf (A : KA Kd) (k : List PV → Heap Kd → Prop) (h1 h2 : Int) (l1 : List (Int × ByteArray × Bool × (List (Int × Bool)))) (l2 : List (Int × Int × (List (Int × Int × Int)) × (List (Int × Int × Int)))) (l3 : List (Int × Int)) (l4 : List (Int × Int × Int)) : evT M1 ff_HeaderOf A k 400 false [.code (bodyOf Tryd.f9)] (startEnv 29 [.agg [.int .u64 h1, .int .i64 h2, .sl _ e_api_Partition l1, .sl _ e_api_Schedule l2, .sl _ e_api_Pair l3, .sl _ e_api_Act l4]]) [] = (∃ (h1_1 : Int), ∃ (h2_1 : Int), ∃ (l1_1 : List (Int × ByteArray × Bool × List (Int × Bool))), ∃ (l2_1 : List (Int × Int × List (Int × Int × Int) × List (Int × Int × Int))), ∃ (l3_1 : List (Int × Int)), ∃ (l4_1 : List (Int × Int × Int)), [PV.agg [PV.int IntKind.u64 h1, PV.int IntKind.i64 h2, PV.sl (Int × ByteArray × Bool × List (Int × Bool)) e_api_Partition l1, PV.sl (Int × Int × List (Int × Int × Int) × List (Int × Int × Int)) e_api_Schedule l2, PV.sl (Int × Int) e_api_Pair l3, PV.sl (Int × Int × Int) e_api_Act l4]] = [PV.agg [PV.int IntKind.u64 h1_1, PV.int IntKind.i64 h2_1, PV.sl (Int × ByteArray × Bool × List (Int × Bool)) e_api_Partition l1_1, PV.sl (Int × Int × List (Int × Int × Int) × List (Int × Int × Int)) e_api_Schedule l2_1, PV.sl (Int × Int) e_api_Pair l3_1, PV.sl (Int × Int × Int) e_api_Act l4_1]] ∧ bif (0 : Int) == (0 : Int) && (h1_1 == h1 && (h2_1 == h2 && ((↑l1_1.length : Int) == (↑l1.length : Int) && ((↑l2_1.length : Int) == (↑l2.length : Int) && ((↑l3_1.length : Int) == (↑l3.length : Int) && ((↑l4_1.length : Int) == (↑l4.length : Int) && true)))))) then k [PV.bool true] [] else k [PV.bool false] []) := by kernel_rfl
def lawHOS : SpecS := fun ys Φ => ∃ (h1 h2 : Int) (l1 : List (Int × ByteArray × Bool × (List (Int × Bool)))) (l2 : List (Int × Int × (List (Int × Int × Int)) × (List (Int × Int × Int)))) (l3 : List (Int × Int)) (l4 : List (Int × Int × Int)), ys = [.agg [.int .u64 h1, .int .i64 h2, .sl _ e_api_Partition l1, .sl _ e_api_Schedule l2, .sl _ e_api_Pair l3, .sl _ e_api_Act l4]] ∧ Φ [.bool true]
theorem lawHOS_mono : MonoS lawHOS := fun _ _ _ h ⟨h1, h2, l1, l2, l3, l4, e, hk⟩ => ⟨h1, h2, l1, l2, l3, l4, e, h _ hk⟩
theorem ok_HO : FunS B 9 lawHOS := by
  refine funS_of (N := 29) (f := ff_HeaderOf) env_M1 mixed fn_HeaderOf (by kernel_rfl) (by kernel_rfl) (by kernel_rfl) lawHOS_mono ?_
  intro A k ys hA hF
  obtain ⟨h1, h2, l1, l2, l3, l4, rfl, hk⟩ := hF
  refine ⟨by kernel_rfl, (hA.nf (nf_HeaderOf A k h1 h2 l1 l2 l3 l4) ?_)⟩
  refine ⟨h1, h2, l1, l2, l3, l4, rfl, ?_⟩
  simp only [beq_self_eq_true, Bool.and_self, cond_true]
  exact hk
theorem pre_HeaderOf (m : Int × Int × (List (Int × ByteArray × Bool × (List (Int × Bool)))) × (List (Int × Int × (List (Int × Int × Int)) × (List (Int × Int × Int)))) × (List (Int × Int)) × (List (Int × Int × Int))) (_ : g_o73 m) : lawHOS [a_o73 m] fun rs => rs = [.bool true] :=
  ⟨m.1, m.2.1, m.2.2.1, m.2.2.2.1, m.2.2.2.2.1, m.2.2.2.2.2, rfl, rfl⟩
end Go.Ab.T
