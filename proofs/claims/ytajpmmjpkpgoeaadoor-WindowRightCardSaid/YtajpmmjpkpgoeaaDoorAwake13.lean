import Derived.Test.YtajpmmjpkpgoeaaDoorAs2
import Derived.Test.YtajpmmjpkpgoeaaDoorWindow
set_option linter.unusedVariables false
set_option linter.unusedSimpArgs false
set_option linter.unusedSectionVars false
namespace Go.Ab.T
open Go Go.Ab Go.Proofs
variable [DMode]
set_option maxRecDepth 100000
set_option maxHeartbeats 4000000
noncomputable def CW := base (fun _ => none) (fun g => match g with | 11 => some ofS | 6 => some CheckS | _ => none) (fun _ => none)
theorem env_CW : EnvOk CW := env_of (by
 intro g F h
 split at h
 ·cases h; exact of_ok
 ·cases h; exact ok_Check
 ·cases h) (fun g F h => (by cases h)) (fun g F h => (by cases h))
def trueS : SpecS := fun ys Φ => match ys with
 | [] => Φ [.bool true]
 | _ => False
theorem trueS_mono : MonoS trueS := by
 intro ys Φ Ψ h hF
 unfold trueS at hF ⊢
 split at hF
 ·exact h _ hF
 ·exact hF.elim
theorem trueS_inv {ys : List PV} {Φ : List PV -> Prop} (h : trueS ys Φ) : ys = [] /\ Φ [.bool true] := by
 unfold trueS at h
 split at h
 ·exact ⟨rfl, h⟩
 ·exact h.elim
theorem fn_awake13 : FnOk Tryd.prog 5 Tryd.f5 (bodyOf Tryd.f5) := ⟨by kernel_rfl, by kernel_rfl, by kernel_rfl⟩
noncomputable def ff_awake13 : Fun := ⟨Tryd.f5.ntmps, 0, Tryd.f5.results.toList, fun _ => none, fun _ => false, fun _ => []⟩
theorem nf_awake13 (A : KA Kd) (k : List PV -> Heap Kd -> Prop)  : evT CW ff_awake13 A k 400 false [.code (bodyOf Tryd.f5)] (startEnv 12 []) [] = (∃ (zs : List (Int × Int × Int)), List.map e_api_Window zs = [PV.agg [PV.int IntKind.i64 0, PV.int IntKind.i64 0, PV.int IntKind.i64 4], PV.agg [PV.int IntKind.i64 0, PV.int IntKind.i64 3, PV.int IntKind.i64 2]] /\ ∃ (zs_1 : List Int), List.map e_int zs_1 = [PV.int IntKind.i64 0] /\ ∃ (id : Int), ∃ (fr : Int), ∃ (ws : List Win), ∃ (ns : List Win), ∃ (ids : List Int), PV.agg [PV.int IntKind.i64 0, PV.int IntKind.i64 10, PV.sl (Int × Int × Int) e_api_Window zs, PV.sl (Int × Int × Int) e_api_Need []] = PV.agg [PV.int IntKind.i64 id, PV.int IntKind.i64 fr, PV.sl (Int × Int × Int) e_api_Window ws, PV.sl (Int × Int × Int) e_api_Need ns] /\ PV.sl Int e_int zs_1 = PV.sl Int e_int ids /\ (ids.length < 4611686018427387904 /\ ws.length < 4611686018427387904) /\ k [.bool ((ofE (errW (chkW fr ids ((0 : Int), (0 : Int), (0 : Int)) ws (0 : Int)))).fst == 12 && ((ofE (errW (chkW fr ids ((0 : Int), (0 : Int), (0 : Int)) ws (0 : Int)))).snd.fst == 0 && ((ofE (errW (chkW fr ids ((0 : Int), (0 : Int), (0 : Int)) ws (0 : Int)))).snd.snd == 1 && true)))] []) := by kernel_rfl
theorem ok_awake13 : FunS B 5 trueS := by
 refine funS_of (N := 12) (f := ff_awake13) env_CW mixed fn_awake13 (by kernel_rfl) (by kernel_rfl) (by kernel_rfl) trueS_mono ?_
 intro A k ys hA hF
 obtain ⟨rfl, hk⟩ := trueS_inv hF; clear hF
 refine ⟨by kernel_rfl, (hA.nf (nf_awake13 A k) ?_)⟩
 exact ⟨[(0, 0, 4), (0, 3, 2)], rfl, [0], rfl, 0, 10, _, [], _, rfl, rfl, ⟨by decide, by decide⟩, hk⟩
end Go.Ab.T
