import Derived.Test.YthfagophoncabaaGreatDoorName1
import Derived.Test.YthfagophoncabaaGreatDoorRef01T
set_option linter.unusedVariables false
set_option linter.unusedSimpArgs false
set_option linter.unusedSectionVars false
namespace Go.Ab.T
open Go Go.Ab Go.Proofs
variable [DMode]
set_option maxRecDepth 100000
set_option maxHeartbeats 4000000
noncomputable def PA0 := base (fun _ => none) (fun g => match g with | 148 => some rightS | 143 => some rightS | _ => none) (fun _ => none)
theorem env_PA0 : EnvOk PA0 := env_of (by
 intro g F h
 split at h
 ·cases h; exact ok_right
 ·cases h; exact ok_rright
 ·cases h) (fun g F h => (by cases h)) (fun g F h => (by cases h))
def bitS : SpecS := fun ys Φ => match ys with
 | [.bool v] => Φ [.int .u64 (bitN v : Int)]
 | _ => False
theorem bitS_mono : MonoS bitS := by
 intro ys Φ Ψ h hF
 unfold bitS at hF ⊢
 split at hF
 ·exact h _ hF
 ·exact hF.elim
theorem bitS_inv {ys : List PV} {Φ : List PV -> Prop} (h : bitS ys Φ) : ∃ (v : Bool), ys = [.bool v] /\ Φ [.int .u64 (bitN v : Int)] := by
 unfold bitS at h
 split at h
 ·exact ⟨_, rfl, h⟩
 ·exact h.elim
theorem fn_bit : FnOk Tryz.prog 161 Tryz.f161 (bodyOf Tryz.f161) := ⟨by kernel_rfl, by kernel_rfl, by kernel_rfl⟩
noncomputable def ff_bit : Fun := ⟨Tryz.f161.ntmps, 0, Tryz.f161.results.toList, fun _ => none, fun _ => false, fun _ => []⟩
theorem nf_bit (A : KA Kd) (k : List PV -> Heap Kd -> Prop) (v : Bool) : evT PA0 ff_bit A k 400 false [.code (bodyOf Tryz.f161)] (startEnv 4 [.bool v]) [] = (bif v then k [.int .u64 1] [] else k [.int .u64 0] []) := by kernel_rfl
theorem ok_bit : FunS B 161 bitS := by
 refine funS_of (N := 4) (f := ff_bit) env_PA0 mixed fn_bit (by kernel_rfl) (by kernel_rfl) (by kernel_rfl) bitS_mono ?_
 intro A k ys hA hF
 obtain ⟨v, rfl, hk⟩ := bitS_inv hF; clear hF
 refine ⟨by kernel_rfl, (hA.nf (nf_bit A k v) ?_)⟩
 cases v <;> exact hk
def prtRS : SpecS := fun ys Φ => match ys with
 | [x_0] => ∃ (id : Int), ∃ (nm : ByteArray), ∃ (may : Bool), ∃ (cs : List Cl), x_0 = .agg [.int .i64 id, .str nm, .bool may, .sl _ e_api_Cell cs] /\ Φ [.int .i64 (prtR (id, nm, may, cs))]
 | _ => False
theorem prtRS_mono : MonoS prtRS := by
 intro ys Φ Ψ h hF
 unfold prtRS at hF ⊢
 split at hF
 ·obtain ⟨a0, a1, a2, a3, q0, hk⟩ := hF; exact ⟨a0, a1, a2, a3, q0, h _ hk⟩
 ·exact hF.elim
theorem prtRS_inv {ys : List PV} {Φ : List PV -> Prop} (h : prtRS ys Φ) : ∃ (id : Int) (nm : ByteArray) (may : Bool) (cs : List Cl), ys = [.agg [.int .i64 id, .str nm, .bool may, .sl _ e_api_Cell cs]] /\ Φ [.int .i64 (prtR (id, nm, may, cs))] := by
 unfold prtRS at h
 split at h
 ·obtain ⟨a0, a1, a2, a3, q0, hz⟩ := h
  subst q0
  exact ⟨a0, a1, a2, a3, rfl, hz⟩
 ·exact h.elim
theorem fn_prtR : FnOk Tryz.prog 129 Tryz.f129 (bodyOf Tryz.f129) := ⟨by kernel_rfl, by kernel_rfl, by kernel_rfl⟩
noncomputable def ff_prtR : Fun := ⟨Tryz.f129.ntmps, 0, Tryz.f129.results.toList, fun _ => none, fun _ => false, fun _ => []⟩
theorem nf_prtR (A : KA Kd) (k : List PV -> Heap Kd -> Prop) (id : Int) (nm : ByteArray) (may : Bool) (cs : List Cl) : evT PA0 ff_prtR A k 400 false [.code (bodyOf Tryz.f129)] (startEnv 22 [.agg [.int .i64 id, .str nm, .bool may, .sl _ e_api_Cell cs]]) [] = (bif decide (id < 0) then k [.int .i64 18] []
else bif decide (id > (255 : Int)) then k [PV.int IntKind.i64 (18 : Int)] [] else bif !rightN nm then k [PV.int IntKind.i64 (7 : Int)] [] else bif decide ((↑cs.length : Int) > (16 : Int)) then k [PV.int IntKind.i64 (8 : Int)] [] else k [PV.int IntKind.i64 (0 : Int)] []) := by kernel_rfl
theorem ok_prtR : FunS B 129 prtRS := by
 refine funS_of (N := 22) (f := ff_prtR) env_PA0 mixed fn_prtR (by kernel_rfl) (by kernel_rfl) (by kernel_rfl) prtRS_mono ?_
 intro A k ys hA hF
 obtain ⟨id, nm, may, cs, rfl, hk⟩ := prtRS_inv hF; clear hF
 refine ⟨by kernel_rfl, (hA.nf (nf_prtR A k id nm may cs) ?_)⟩
 unfold prtR at hk
 cases c1 : decide (id < 0) with
 | true => simp only [c1] at hk; exact hk
 | false =>
 cases c2 : decide (id > 255) with
 | true => simp only [c1, c2] at hk; exact hk
 | false =>
 cases c3 : rightN nm with
 | false => simp only [c1, c2, c3] at hk; exact hk
 | true =>
 cases c4 : decide ((cs.length : Int) > 16) with
 | true => simp only [c1, c2, c3, c4] at hk; exact hk
 | false => simp only [c1, c2, c3, c4] at hk; exact hk
theorem fn_rprtR : FnOk Tryz.prog 80 Tryz.f80 (bodyOf Tryz.f80) := ⟨by kernel_rfl, by kernel_rfl, by kernel_rfl⟩
noncomputable def ff_rprtR : Fun := ⟨Tryz.f80.ntmps, 0, Tryz.f80.results.toList, fun _ => none, fun _ => false, fun _ => []⟩
theorem nf_rprtR (A : KA Kd) (k : List PV -> Heap Kd -> Prop) (id : Int) (nm : ByteArray) (may : Bool) (cs : List Cl) : evT PA0 ff_rprtR A k 400 false [.code (bodyOf Tryz.f80)] (startEnv 19 [.agg [.int .i64 id, .str nm, .bool may, .sl _ e_api_Cell cs]]) [] = (bif decide (id < 0) then k [.int .i64 18] []
else bif decide (id > (255 : Int)) then k [PV.int IntKind.i64 (18 : Int)] [] else bif !rightN nm then k [PV.int IntKind.i64 (7 : Int)] [] else bif decide ((↑cs.length : Int) > (16 : Int)) then k [PV.int IntKind.i64 (8 : Int)] [] else k [PV.int IntKind.i64 (0 : Int)] []) := by kernel_rfl
theorem ok_rprtR : FunS B 80 prtRS := by
 refine funS_of (N := 19) (f := ff_rprtR) env_PA0 mixed fn_rprtR (by kernel_rfl) (by kernel_rfl) (by kernel_rfl) prtRS_mono ?_
 intro A k ys hA hF
 obtain ⟨id, nm, may, cs, rfl, hk⟩ := prtRS_inv hF; clear hF
 refine ⟨by kernel_rfl, (hA.nf (nf_rprtR A k id nm may cs) ?_)⟩
 unfold prtR at hk
 cases c1 : decide (id < 0) with
 | true => simp only [c1] at hk; exact hk
 | false =>
 cases c2 : decide (id > 255) with
 | true => simp only [c1, c2] at hk; exact hk
 | false =>
 cases c3 : rightN nm with
 | false => simp only [c1, c2, c3] at hk; exact hk
 | true =>
 cases c4 : decide ((cs.length : Int) > 16) with
 | true => simp only [c1, c2, c3, c4] at hk; exact hk
 | false => simp only [c1, c2, c3, c4] at hk; exact hk
end Go.Ab.T
