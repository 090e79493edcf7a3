import Derived.Test.YtgnhjhdmfhfilaaDoorAs2
import Derived.Test.YtgnhjhdmfhfilaaDoorWindow
set_option linter.unusedVariables false
set_option linter.unusedSimpArgs false
set_option linter.unusedSectionVars false
namespace Go.Ab.T
open Go Go.Ab Go.Proofs
variable [DMode]
set_option maxRecDepth 100000
set_option maxHeartbeats 4000000
noncomputable def CW := base (fun g => match g with | 133 => some (lift 0 namesF) | 106 => some (lift 0 namesF) | _ => none) (fun g => match g with | 23 => some ofS | 83 => some nameS | 103 => some nameS | 48 => some newS | 50 => some atS | 71 => some inS | 107 => some idxIS | 84 => some hasIS | 85 => some fitsS | 49 => some wrongS | 17 => some CheckS | _ => none) (fun _ => none)
theorem env_CW : EnvOk CW := env_of (by
    intro g F h
    split at h
    · cases h; exact of_ok
    · cases h; exact ok_Name
    · cases h; exact ok_rName
    · cases h; exact ok_New
    · cases h; exact ok_At
    · cases h; exact ok_In
    · cases h; exact ok_idxI
    · cases h; exact ok_cont
    · cases h; exact ok_fits
    · cases h; exact ok_wrong
    · cases h; exact ok_Check
    · cases h) (by
    intro g F h
    split at h
    · cases h; exact (lift_ok ok_rnames)
    · cases h; exact (lift_ok ok_names)
    · cases h) (fun g F h => (by cases h))
def trueS : SpecS := fun ys Φ => match ys with
  | [] => Φ [.bool true]
  | _ => False
theorem trueS_mono : MonoS trueS := by
  intro ys Φ Ψ h hF
  unfold trueS at hF ⊢
  split at hF
  · exact h _ hF
  · exact hF.elim
theorem trueS_inv {ys : List PV} {Φ : List PV → Prop} (h : trueS ys Φ) : ys = [] ∧ Φ [.bool true] := by
  unfold trueS at h
  split at h
  · exact ⟨rfl, h⟩
  · exact h.elim
theorem fn_awake13 : FnOk Tryd.prog 16 Tryd.f16 (bodyOf Tryd.f16) := ⟨by kernel_rfl, by kernel_rfl, by kernel_rfl⟩
noncomputable def ff_awake13 : Fun := ⟨Tryd.f16.ntmps, 0, Tryd.f16.results.toList, fun _ => none, fun _ => false, fun _ => []⟩
theorem nf_awake13 (A : KA Kd) (k : List PV → Heap Kd → Prop)  : evT CW ff_awake13 A k 400 false [.code (bodyOf Tryd.f16)] (startEnv 12 []) [] = (∃ (zs : List (Int × Int × Int)), List.map e_api_Window zs = [PV.agg [PV.int IntKind.i64 (0 : Int), PV.int IntKind.i64 (0 : Int), PV.int IntKind.i64 (4 : Int)], PV.agg [PV.int IntKind.i64 (0 : Int), PV.int IntKind.i64 (3 : Int), PV.int IntKind.i64 (2 : Int)]] ∧ ∃ (zs_1 : List Int), List.map e_int zs_1 = [PV.int IntKind.i64 (0 : Int)] ∧ ∃ (id : Int), ∃ (fr : Int), ∃ (ws : List Win), ∃ (ns : List Win), ∃ (ids : List Int), PV.agg [PV.int IntKind.i64 (0 : Int), PV.int IntKind.i64 (10 : Int), PV.sl (Int × Int × Int) e_api_Window zs, PV.sl (Int × Int × Int) e_api_Need []] = PV.agg [PV.int IntKind.i64 id, PV.int IntKind.i64 fr, PV.sl (Int × Int × Int) e_api_Window ws, PV.sl (Int × Int × Int) e_api_Need ns] ∧ PV.sl Int e_int zs_1 = PV.sl Int e_int ids ∧ (ids.length < (4611686018427387904 : Nat) ∧ ws.length < (4611686018427387904 : Nat)) ∧ k [PV.bool ((ofE (errW (chkW fr ids ((0 : Int), (0 : Int), (0 : Int)) ws (0 : Int)))).fst == (12 : Int) && ((ofE (errW (chkW fr ids ((0 : Int), (0 : Int), (0 : Int)) ws (0 : Int)))).snd.fst == (0 : Int) && ((ofE (errW (chkW fr ids ((0 : Int), (0 : Int), (0 : Int)) ws (0 : Int)))).snd.snd == (1 : Int) && true)))] []) := by kernel_rfl
theorem ok_awake13 : FunS B 16 trueS := by
  refine funS_of (N := 12) (f := ff_awake13) env_CW mixed fn_awake13 (by kernel_rfl) (by kernel_rfl) (by kernel_rfl) trueS_mono ?_
  intro A k ys hA hF
  obtain ⟨rfl, hk⟩ := trueS_inv hF; clear hF
  refine ⟨by kernel_rfl, (hA.nf (nf_awake13 A k) ?_)⟩
  exact ⟨[(0, 0, 4), (0, 3, 2)], rfl, [0], rfl, 0, 10, _, [], _, rfl, rfl, ⟨by decide, by decide⟩, hk⟩
end Go.Ab.T
