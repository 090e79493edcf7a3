import Derived.Test.YtiemgkjmifpfcaaDoorLaw07a
import Derived.Test.YtiemgkjmifpfcaaDoorRef07
set_option linter.unusedVariables false
set_option linter.unusedSimpArgs false
namespace Go.Ab.T
open Go Go.Ab Go.Proofs
set_option maxRecDepth 100000
set_option maxHeartbeats 4000000
noncomputable def M2 := base (fun g => match g with | 93 => some (lift 0 namesF) | 86 => some (lift 0 namesF) | 15 => some (lift 0 NewS) | 17 => some (lift 1 EnterS) | 52 => some (lift 1 FailS) | 49 => some (lift 1 NeedS) | 22 => some (lift 1 ErrS) | 50 => some (lift 1 numberS) | 20 => some (lift 1 U8S) | 26 => some (lift 1 U16S) | 27 => some (lift 1 U32S) | 28 => some (lift 1 U64S) | 18 => some (lift 1 TextS) | 42 => some (lift 1 hReadS) | _ => none) (fun g => match g with | 70 => some nameS | 80 => some nameS | 45 => some newS | 47 => some atS | 79 => some inS | 91 => some sizeS | 92 => some rSizeS | 77 => some getS | 78 => some getS | 14 => some ofS | 19 => some FaultS | 21 => some PlaceS | 23 => some LeftS | 67 => some boundsS | 68 => some fineS | 39 => some plainS | 40 => some trueS | 38 => some hOfS | 53 => some rFailS | 51 => some rNumS | 41 => some rTextS | 69 => some fineRS | 43 => some rGetHS | _ => none) (fun _ => none)
theorem env_M2 : EnvOk M2 := env_of (by
    intro g F h
    split at h
    · cases h; exact ok_Name
    · cases h; exact ok_rName
    · cases h; exact ok_New
    · cases h; exact ok_At
    · cases h; exact ok_In
    · cases h; exact ok_size
    · cases h; exact ok_rSize
    · cases h; exact ok_Get
    · cases h; exact ok_rGet
    · cases h; exact of_ok
    · cases h; exact ok_rFault
    · cases h; exact ok_Place
    · cases h; exact ok_Left
    · cases h; exact ok_bounds
    · cases h; exact ok_fine
    · cases h; exact ok_plain
    · cases h; exact ok_awake07
    · cases h; exact ok_hOf
    · cases h; exact ok_rFail
    · cases h; exact ok_rNum
    · cases h; exact ok_rText
    · cases h; exact ok_rFine
    · cases h; exact ok_rGetH
    · cases h) (by
    intro g F h
    split at h
    · cases h; exact (lift_ok ok_rnames)
    · cases h; exact (lift_ok ok_names)
    · cases h; exact (lift_ok ok_rNew)
    · cases h; exact (lift_ok ok_Enter)
    · cases h; exact (lift_ok ok_Fail)
    · cases h; exact (lift_ok ok_Need)
    · cases h; exact (lift_ok ok_rErr)
    · cases h; exact (lift_ok ok_number)
    · cases h; exact (lift_ok ok_U8)
    · cases h; exact (lift_ok ok_U16)
    · cases h; exact (lift_ok ok_U32)
    · cases h; exact (lift_ok ok_U64)
    · cases h; exact (lift_ok ok_Text)
    · cases h; exact (lift_ok ok_hRead)
    · cases h) (fun g F h => (by cases h))
theorem fn_HeaderReads : FnOk Tryd.prog 10 Tryd.f10 (bodyOf Tryd.f10) := ⟨by kernel_rfl, by kernel_rfl, by kernel_rfl⟩
noncomputable def ff_HeaderReads : Fun := ⟨Tryd.f10.ntmps, 0, Tryd.f10.results.toList, fun _ => none, fun _ => false, fun _ => []⟩
theorem nf_HeaderReads (A : KA Kd) (k : List PV → Heap Kd → Prop) (s : ByteArray) (b : Int) : evT M2 ff_HeaderReads A k 400 false [.code (bodyOf Tryd.f10)] (startEnv 71 [.str s, .int .u8 b]) [] = (bif decide ((↑s.size : Int) > (100 : Int)) then k [PV.bool true] []
else (4 : Int) ≠ (0 : Int) ∧ ((0 : Int) ≤ (0 : Int) ∧ (0 : Int) ≤ (↑s.size : Int) ∧ s.size < (4611686018427387904 : Nat)) ∧ ((0 : Int) ≤ (0 : Int) ∧ (0 : Int) ≤ (↑s.size : Int) ∧ s.size < (4611686018427387904 : Nat)) ∧ ((0 : Int) ≤ rdAt s (0 : Int) (max ((IntKind.i64.wrap b).tmod (4 : Int)) (0 : Int)) Err.nil ∧ rdAt s (0 : Int) (max ((IntKind.i64.wrap b).tmod (4 : Int)) (0 : Int)) Err.nil ≤ (↑s.size : Int) ∧ s.size < (4611686018427387904 : Nat)) ∧ (((0 : Int) ≤ tAt s (0 : Int) ((IntKind.i64.wrap b).tmod (4 : Int)) ((0 : Int), (0 : Int), (0 : Int)) ∧ tAt s (0 : Int) ((IntKind.i64.wrap b).tmod (4 : Int)) ((0 : Int), (0 : Int), (0 : Int)) ≤ (↑s.size : Int) ∧ s.size < (4611686018427387904 : Nat)) ∧ GoodF ((tF s (0 : Int) ((IntKind.i64.wrap b).tmod (4 : Int)) (0 : Int) ((0 : Int), (0 : Int), (0 : Int))).fst, (tF s (0 : Int) ((IntKind.i64.wrap b).tmod (4 : Int)) (0 : Int) ((0 : Int), (0 : Int), (0 : Int))).snd.fst, (tF s (0 : Int) ((IntKind.i64.wrap b).tmod (4 : Int)) (0 : Int) ((0 : Int), (0 : Int), (0 : Int))).snd.snd)) ∧ bif hV s (4 : Int) (hx11 s (rdAt s (0 : Int) (max ((IntKind.i64.wrap b).tmod (4 : Int)) (0 : Int)) Err.nil, rdE s (0 : Int) (max ((IntKind.i64.wrap b).tmod (4 : Int)) (0 : Int)) (0 : Int) Err.nil)) (hx4 s (rdAt s (0 : Int) (max ((IntKind.i64.wrap b).tmod (4 : Int)) (0 : Int)) Err.nil, rdE s (0 : Int) (max ((IntKind.i64.wrap b).tmod (4 : Int)) (0 : Int)) (0 : Int) Err.nil)) == hV s (4 : Int) (hx11 s (tAt s (0 : Int) ((IntKind.i64.wrap b).tmod (4 : Int)) ((0 : Int), (0 : Int), (0 : Int)), toE ((tF s (0 : Int) ((IntKind.i64.wrap b).tmod (4 : Int)) (0 : Int) ((0 : Int), (0 : Int), (0 : Int))).fst, (tF s (0 : Int) ((IntKind.i64.wrap b).tmod (4 : Int)) (0 : Int) ((0 : Int), (0 : Int), (0 : Int))).snd.fst, (tF s (0 : Int) ((IntKind.i64.wrap b).tmod (4 : Int)) (0 : Int) ((0 : Int), (0 : Int), (0 : Int))).snd.snd))) (hx4 s (tAt s (0 : Int) ((IntKind.i64.wrap b).tmod (4 : Int)) ((0 : Int), (0 : Int), (0 : Int)), toE ((tF s (0 : Int) ((IntKind.i64.wrap b).tmod (4 : Int)) (0 : Int) ((0 : Int), (0 : Int), (0 : Int))).fst, (tF s (0 : Int) ((IntKind.i64.wrap b).tmod (4 : Int)) (0 : Int) ((0 : Int), (0 : Int), (0 : Int))).snd.fst, (tF s (0 : Int) ((IntKind.i64.wrap b).tmod (4 : Int)) (0 : Int) ((0 : Int), (0 : Int), (0 : Int))).snd.snd))) && (hV s (8 : Int) (hx11 s (rdAt s (0 : Int) (max ((IntKind.i64.wrap b).tmod (4 : Int)) (0 : Int)) Err.nil, rdE s (0 : Int) (max ((IntKind.i64.wrap b).tmod (4 : Int)) (0 : Int)) (0 : Int) Err.nil)) (hx5 s (rdAt s (0 : Int) (max ((IntKind.i64.wrap b).tmod (4 : Int)) (0 : Int)) Err.nil, rdE s (0 : Int) (max ((IntKind.i64.wrap b).tmod (4 : Int)) (0 : Int)) (0 : Int) Err.nil)) == hV s (8 : Int) (hx11 s (tAt s (0 : Int) ((IntKind.i64.wrap b).tmod (4 : Int)) ((0 : Int), (0 : Int), (0 : Int)), toE ((tF s (0 : Int) ((IntKind.i64.wrap b).tmod (4 : Int)) (0 : Int) ((0 : Int), (0 : Int), (0 : Int))).fst, (tF s (0 : Int) ((IntKind.i64.wrap b).tmod (4 : Int)) (0 : Int) ((0 : Int), (0 : Int), (0 : Int))).snd.fst, (tF s (0 : Int) ((IntKind.i64.wrap b).tmod (4 : Int)) (0 : Int) ((0 : Int), (0 : Int), (0 : Int))).snd.snd))) (hx5 s (tAt s (0 : Int) ((IntKind.i64.wrap b).tmod (4 : Int)) ((0 : Int), (0 : Int), (0 : Int)), toE ((tF s (0 : Int) ((IntKind.i64.wrap b).tmod (4 : Int)) (0 : Int) ((0 : Int), (0 : Int), (0 : Int))).fst, (tF s (0 : Int) ((IntKind.i64.wrap b).tmod (4 : Int)) (0 : Int) ((0 : Int), (0 : Int), (0 : Int))).snd.fst, (tF s (0 : Int) ((IntKind.i64.wrap b).tmod (4 : Int)) (0 : Int) ((0 : Int), (0 : Int), (0 : Int))).snd.snd))) && (hV s (1 : Int) (hx11 s (rdAt s (0 : Int) (max ((IntKind.i64.wrap b).tmod (4 : Int)) (0 : Int)) Err.nil, rdE s (0 : Int) (max ((IntKind.i64.wrap b).tmod (4 : Int)) (0 : Int)) (0 : Int) Err.nil)) (hx6 s (rdAt s (0 : Int) (max ((IntKind.i64.wrap b).tmod (4 : Int)) (0 : Int)) Err.nil, rdE s (0 : Int) (max ((IntKind.i64.wrap b).tmod (4 : Int)) (0 : Int)) (0 : Int) Err.nil)) == hV s (1 : Int) (hx11 s (tAt s (0 : Int) ((IntKind.i64.wrap b).tmod (4 : Int)) ((0 : Int), (0 : Int), (0 : Int)), toE ((tF s (0 : Int) ((IntKind.i64.wrap b).tmod (4 : Int)) (0 : Int) ((0 : Int), (0 : Int), (0 : Int))).fst, (tF s (0 : Int) ((IntKind.i64.wrap b).tmod (4 : Int)) (0 : Int) ((0 : Int), (0 : Int), (0 : Int))).snd.fst, (tF s (0 : Int) ((IntKind.i64.wrap b).tmod (4 : Int)) (0 : Int) ((0 : Int), (0 : Int), (0 : Int))).snd.snd))) (hx6 s (tAt s (0 : Int) ((IntKind.i64.wrap b).tmod (4 : Int)) ((0 : Int), (0 : Int), (0 : Int)), toE ((tF s (0 : Int) ((IntKind.i64.wrap b).tmod (4 : Int)) (0 : Int) ((0 : Int), (0 : Int), (0 : Int))).fst, (tF s (0 : Int) ((IntKind.i64.wrap b).tmod (4 : Int)) (0 : Int) ((0 : Int), (0 : Int), (0 : Int))).snd.fst, (tF s (0 : Int) ((IntKind.i64.wrap b).tmod (4 : Int)) (0 : Int) ((0 : Int), (0 : Int), (0 : Int))).snd.snd))) && (hV s (1 : Int) (hx11 s (rdAt s (0 : Int) (max ((IntKind.i64.wrap b).tmod (4 : Int)) (0 : Int)) Err.nil, rdE s (0 : Int) (max ((IntKind.i64.wrap b).tmod (4 : Int)) (0 : Int)) (0 : Int) Err.nil)) (hx7 s (rdAt s (0 : Int) (max ((IntKind.i64.wrap b).tmod (4 : Int)) (0 : Int)) Err.nil, rdE s (0 : Int) (max ((IntKind.i64.wrap b).tmod (4 : Int)) (0 : Int)) (0 : Int) Err.nil)) == hV s (1 : Int) (hx11 s (tAt s (0 : Int) ((IntKind.i64.wrap b).tmod (4 : Int)) ((0 : Int), (0 : Int), (0 : Int)), toE ((tF s (0 : Int) ((IntKind.i64.wrap b).tmod (4 : Int)) (0 : Int) ((0 : Int), (0 : Int), (0 : Int))).fst, (tF s (0 : Int) ((IntKind.i64.wrap b).tmod (4 : Int)) (0 : Int) ((0 : Int), (0 : Int), (0 : Int))).snd.fst, (tF s (0 : Int) ((IntKind.i64.wrap b).tmod (4 : Int)) (0 : Int) ((0 : Int), (0 : Int), (0 : Int))).snd.snd))) (hx7 s (tAt s (0 : Int) ((IntKind.i64.wrap b).tmod (4 : Int)) ((0 : Int), (0 : Int), (0 : Int)), toE ((tF s (0 : Int) ((IntKind.i64.wrap b).tmod (4 : Int)) (0 : Int) ((0 : Int), (0 : Int), (0 : Int))).fst, (tF s (0 : Int) ((IntKind.i64.wrap b).tmod (4 : Int)) (0 : Int) ((0 : Int), (0 : Int), (0 : Int))).snd.fst, (tF s (0 : Int) ((IntKind.i64.wrap b).tmod (4 : Int)) (0 : Int) ((0 : Int), (0 : Int), (0 : Int))).snd.snd))) && (hV s (1 : Int) (hx11 s (rdAt s (0 : Int) (max ((IntKind.i64.wrap b).tmod (4 : Int)) (0 : Int)) Err.nil, rdE s (0 : Int) (max ((IntKind.i64.wrap b).tmod (4 : Int)) (0 : Int)) (0 : Int) Err.nil)) (hx8 s (rdAt s (0 : Int) (max ((IntKind.i64.wrap b).tmod (4 : Int)) (0 : Int)) Err.nil, rdE s (0 : Int) (max ((IntKind.i64.wrap b).tmod (4 : Int)) (0 : Int)) (0 : Int) Err.nil)) == hV s (1 : Int) (hx11 s (tAt s (0 : Int) ((IntKind.i64.wrap b).tmod (4 : Int)) ((0 : Int), (0 : Int), (0 : Int)), toE ((tF s (0 : Int) ((IntKind.i64.wrap b).tmod (4 : Int)) (0 : Int) ((0 : Int), (0 : Int), (0 : Int))).fst, (tF s (0 : Int) ((IntKind.i64.wrap b).tmod (4 : Int)) (0 : Int) ((0 : Int), (0 : Int), (0 : Int))).snd.fst, (tF s (0 : Int) ((IntKind.i64.wrap b).tmod (4 : Int)) (0 : Int) ((0 : Int), (0 : Int), (0 : Int))).snd.snd))) (hx8 s (tAt s (0 : Int) ((IntKind.i64.wrap b).tmod (4 : Int)) ((0 : Int), (0 : Int), (0 : Int)), toE ((tF s (0 : Int) ((IntKind.i64.wrap b).tmod (4 : Int)) (0 : Int) ((0 : Int), (0 : Int), (0 : Int))).fst, (tF s (0 : Int) ((IntKind.i64.wrap b).tmod (4 : Int)) (0 : Int) ((0 : Int), (0 : Int), (0 : Int))).snd.fst, (tF s (0 : Int) ((IntKind.i64.wrap b).tmod (4 : Int)) (0 : Int) ((0 : Int), (0 : Int), (0 : Int))).snd.snd))) && (hV s (2 : Int) (hx11 s (rdAt s (0 : Int) (max ((IntKind.i64.wrap b).tmod (4 : Int)) (0 : Int)) Err.nil, rdE s (0 : Int) (max ((IntKind.i64.wrap b).tmod (4 : Int)) (0 : Int)) (0 : Int) Err.nil)) (hx9 s (rdAt s (0 : Int) (max ((IntKind.i64.wrap b).tmod (4 : Int)) (0 : Int)) Err.nil, rdE s (0 : Int) (max ((IntKind.i64.wrap b).tmod (4 : Int)) (0 : Int)) (0 : Int) Err.nil)) == hV s (2 : Int) (hx11 s (tAt s (0 : Int) ((IntKind.i64.wrap b).tmod (4 : Int)) ((0 : Int), (0 : Int), (0 : Int)), toE ((tF s (0 : Int) ((IntKind.i64.wrap b).tmod (4 : Int)) (0 : Int) ((0 : Int), (0 : Int), (0 : Int))).fst, (tF s (0 : Int) ((IntKind.i64.wrap b).tmod (4 : Int)) (0 : Int) ((0 : Int), (0 : Int), (0 : Int))).snd.fst, (tF s (0 : Int) ((IntKind.i64.wrap b).tmod (4 : Int)) (0 : Int) ((0 : Int), (0 : Int), (0 : Int))).snd.snd))) (hx9 s (tAt s (0 : Int) ((IntKind.i64.wrap b).tmod (4 : Int)) ((0 : Int), (0 : Int), (0 : Int)), toE ((tF s (0 : Int) ((IntKind.i64.wrap b).tmod (4 : Int)) (0 : Int) ((0 : Int), (0 : Int), (0 : Int))).fst, (tF s (0 : Int) ((IntKind.i64.wrap b).tmod (4 : Int)) (0 : Int) ((0 : Int), (0 : Int), (0 : Int))).snd.fst, (tF s (0 : Int) ((IntKind.i64.wrap b).tmod (4 : Int)) (0 : Int) ((0 : Int), (0 : Int), (0 : Int))).snd.snd))) && (hV s (2 : Int) (hx11 s (rdAt s (0 : Int) (max ((IntKind.i64.wrap b).tmod (4 : Int)) (0 : Int)) Err.nil, rdE s (0 : Int) (max ((IntKind.i64.wrap b).tmod (4 : Int)) (0 : Int)) (0 : Int) Err.nil)) (hx10 s (rdAt s (0 : Int) (max ((IntKind.i64.wrap b).tmod (4 : Int)) (0 : Int)) Err.nil, rdE s (0 : Int) (max ((IntKind.i64.wrap b).tmod (4 : Int)) (0 : Int)) (0 : Int) Err.nil)) == hV s (2 : Int) (hx11 s (tAt s (0 : Int) ((IntKind.i64.wrap b).tmod (4 : Int)) ((0 : Int), (0 : Int), (0 : Int)), toE ((tF s (0 : Int) ((IntKind.i64.wrap b).tmod (4 : Int)) (0 : Int) ((0 : Int), (0 : Int), (0 : Int))).fst, (tF s (0 : Int) ((IntKind.i64.wrap b).tmod (4 : Int)) (0 : Int) ((0 : Int), (0 : Int), (0 : Int))).snd.fst, (tF s (0 : Int) ((IntKind.i64.wrap b).tmod (4 : Int)) (0 : Int) ((0 : Int), (0 : Int), (0 : Int))).snd.snd))) (hx10 s (tAt s (0 : Int) ((IntKind.i64.wrap b).tmod (4 : Int)) ((0 : Int), (0 : Int), (0 : Int)), toE ((tF s (0 : Int) ((IntKind.i64.wrap b).tmod (4 : Int)) (0 : Int) ((0 : Int), (0 : Int), (0 : Int))).fst, (tF s (0 : Int) ((IntKind.i64.wrap b).tmod (4 : Int)) (0 : Int) ((0 : Int), (0 : Int), (0 : Int))).snd.fst, (tF s (0 : Int) ((IntKind.i64.wrap b).tmod (4 : Int)) (0 : Int) ((0 : Int), (0 : Int), (0 : Int))).snd.snd))) && true)))))) then bif (ofE (hx11 s (rdAt s (0 : Int) (max ((IntKind.i64.wrap b).tmod (4 : Int)) (0 : Int)) Err.nil, rdE s (0 : Int) (max ((IntKind.i64.wrap b).tmod (4 : Int)) (0 : Int)) (0 : Int) Err.nil)).snd).fst == (ofE (hx11 s (tAt s (0 : Int) ((IntKind.i64.wrap b).tmod (4 : Int)) ((0 : Int), (0 : Int), (0 : Int)), toE ((tF s (0 : Int) ((IntKind.i64.wrap b).tmod (4 : Int)) (0 : Int) ((0 : Int), (0 : Int), (0 : Int))).fst, (tF s (0 : Int) ((IntKind.i64.wrap b).tmod (4 : Int)) (0 : Int) ((0 : Int), (0 : Int), (0 : Int))).snd.fst, (tF s (0 : Int) ((IntKind.i64.wrap b).tmod (4 : Int)) (0 : Int) ((0 : Int), (0 : Int), (0 : Int))).snd.snd))).snd).fst && ((ofE (hx11 s (rdAt s (0 : Int) (max ((IntKind.i64.wrap b).tmod (4 : Int)) (0 : Int)) Err.nil, rdE s (0 : Int) (max ((IntKind.i64.wrap b).tmod (4 : Int)) (0 : Int)) (0 : Int) Err.nil)).snd).snd.fst == (ofE (hx11 s (tAt s (0 : Int) ((IntKind.i64.wrap b).tmod (4 : Int)) ((0 : Int), (0 : Int), (0 : Int)), toE ((tF s (0 : Int) ((IntKind.i64.wrap b).tmod (4 : Int)) (0 : Int) ((0 : Int), (0 : Int), (0 : Int))).fst, (tF s (0 : Int) ((IntKind.i64.wrap b).tmod (4 : Int)) (0 : Int) ((0 : Int), (0 : Int), (0 : Int))).snd.fst, (tF s (0 : Int) ((IntKind.i64.wrap b).tmod (4 : Int)) (0 : Int) ((0 : Int), (0 : Int), (0 : Int))).snd.snd))).snd).snd.fst && ((ofE (hx11 s (rdAt s (0 : Int) (max ((IntKind.i64.wrap b).tmod (4 : Int)) (0 : Int)) Err.nil, rdE s (0 : Int) (max ((IntKind.i64.wrap b).tmod (4 : Int)) (0 : Int)) (0 : Int) Err.nil)).snd).snd.snd == (ofE (hx11 s (tAt s (0 : Int) ((IntKind.i64.wrap b).tmod (4 : Int)) ((0 : Int), (0 : Int), (0 : Int)), toE ((tF s (0 : Int) ((IntKind.i64.wrap b).tmod (4 : Int)) (0 : Int) ((0 : Int), (0 : Int), (0 : Int))).fst, (tF s (0 : Int) ((IntKind.i64.wrap b).tmod (4 : Int)) (0 : Int) ((0 : Int), (0 : Int), (0 : Int))).snd.fst, (tF s (0 : Int) ((IntKind.i64.wrap b).tmod (4 : Int)) (0 : Int) ((0 : Int), (0 : Int), (0 : Int))).snd.snd))).snd).snd.snd && true)) then bif (hx11 s (rdAt s (0 : Int) (max ((IntKind.i64.wrap b).tmod (4 : Int)) (0 : Int)) Err.nil, rdE s (0 : Int) (max ((IntKind.i64.wrap b).tmod (4 : Int)) (0 : Int)) (0 : Int) Err.nil)).fst == (hx11 s (tAt s (0 : Int) ((IntKind.i64.wrap b).tmod (4 : Int)) ((0 : Int), (0 : Int), (0 : Int)), toE ((tF s (0 : Int) ((IntKind.i64.wrap b).tmod (4 : Int)) (0 : Int) ((0 : Int), (0 : Int), (0 : Int))).fst, (tF s (0 : Int) ((IntKind.i64.wrap b).tmod (4 : Int)) (0 : Int) ((0 : Int), (0 : Int), (0 : Int))).snd.fst, (tF s (0 : Int) ((IntKind.i64.wrap b).tmod (4 : Int)) (0 : Int) ((0 : Int), (0 : Int), (0 : Int))).snd.snd))).fst then k [PV.bool true] [] else k [PV.bool false] [] else k [PV.bool false] [] else k [PV.bool false] []) := by kernel_rfl
def lawHRS : SpecS := fun ys Φ => match ys with
  | [.str s, .int .u8 b] => Φ [.bool true]
  | _ => False
theorem lawHRS_mono : MonoS lawHRS := by
  intro ys Φ Ψ h hF
  unfold lawHRS at hF ⊢
  split at hF
  · exact h _ hF
  · exact hF.elim
theorem lawHRS_inv {ys : List PV} {Φ : List PV → Prop} (h : lawHRS ys Φ) : ∃ (s : ByteArray) (b : Int), ys = [.str s, .int .u8 b] ∧ Φ [.bool true] := by
  unfold lawHRS at h
  split at h
  · exact ⟨_, _, rfl, h⟩
  · exact h.elim
theorem ok_HR : FunS B 10 lawHRS := by
  refine funS_of (N := 71) (f := ff_HeaderReads) env_M2 mixed fn_HeaderReads (by kernel_rfl) (by kernel_rfl) (by kernel_rfl) lawHRS_mono ?_
  intro A k ys hA hF
  obtain ⟨s, b, rfl, hk⟩ := lawHRS_inv hF; clear hF
  refine ⟨by kernel_rfl, (hA.nf (nf_HeaderReads A k s b) ?_)⟩
  cases h1 : decide ((s.size : Int) > 100) with
  | true => exact hk
  | false =>
    rw [decide_eq_false_iff_not] at h1
    rw [cond_false]
    have e0 : ((0, 0, 0) : F3) = ofE .nil := rfl
    generalize (IntKind.i64.wrap b).tmod 4 = n
    have hb : ((0 : Int) ≤ 0 ∧ (0 : Int) ≤ (s.size : Int) ∧ s.size < 4611686018427387904) := ⟨Int.le_refl _, by omega, by omega⟩
    have t1 := GoodE.nil.tF (s := s) (a := 0) (n := n) 0 hb.2.1
    have t2 := GoodE.nil.tAt (s := s) (a := 0) (n := n) hb.2.1
    have g1 : GoodE (rdE s 0 (max n 0) 0 .nil) := GoodE.nil.rd _ _ _ _
    obtain ⟨r0, r1⟩ := rdAt_le (s := s) (a := 0) (n := max n 0) (e := .nil) (Int.le_refl _) hb.2.1 (by omega)
    rw [e0, t1, t2]
    simp only [F3_eta]
    rw [g1.toE]
    simp only [beq_self_eq_true, Bool.and_self, cond_true]
    exact ⟨by decide, hb, hb, ⟨r0, r1, by omega⟩, ⟨⟨r0, r1, by omega⟩, GoodF.mk g1⟩, hk⟩
theorem pre_HeaderReads (s : ByteArray) (b : UInt8) (_ : g_o9 s) (_ : g_o5 b) : lawHRS [a_o9 s, a_o5 b] fun rs => rs = [.bool true] :=
  rfl
end Go.Ab.T
