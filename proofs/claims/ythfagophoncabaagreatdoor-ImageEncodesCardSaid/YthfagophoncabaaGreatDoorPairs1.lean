import Derived.Test.YthfagophoncabaaGreatDoorPut2
import Derived.Test.YthfagophoncabaaGreatDoorCmp
import Derived.Test.YthfagophoncabaaGreatDoorReader
import Derived.Test.YthfagophoncabaaGreatDoorMaB
import Derived.Test.YthfagophoncabaaGreatDoorAbC
set_option linter.unusedVariables false
set_option linter.unusedSimpArgs false
set_option linter.unusedSectionVars false
namespace Go.Ab.T
open Go Go.Ab Go.Proofs
variable [DMode]
set_option maxRecDepth 100000
set_option maxHeartbeats 4000000
noncomputable def PE2 := base (fun _ => none) (fun g => match g with | 171 => some cmpIS | 170 => some orS | _ => none) (fun _ => none)
theorem env_PE2 : EnvOk PE2 := env_of (by
 intro g F h
 split at h
 ·cases h; exact ok_cmpI
 ·cases h; exact ok_orF
 ·cases h) (fun g F h => (by cases h)) (fun g F h => (by cases h))
def cmpPS : SpecS := fun ys Φ => match ys with
 | [.agg [.int .i64 a1, .int .i64 a2], .agg [.int .i64 b1, .int .i64 b2]] => Φ [.int .i64 (cmpP (a1, a2) (b1, b2))]
 | _ => False
theorem cmpPS_mono : MonoS cmpPS := by
 intro ys Φ Ψ h hF
 unfold cmpPS at hF ⊢
 split at hF
 ·exact h _ hF
 ·exact hF.elim
theorem cmpPS_inv {ys : List PV} {Φ : List PV -> Prop} (h : cmpPS ys Φ) : ∃ (a1 : Int) (a2 : Int) (b1 : Int) (b2 : Int), ys = [.agg [.int .i64 a1, .int .i64 a2], .agg [.int .i64 b1, .int .i64 b2]] /\ Φ [.int .i64 (cmpP (a1, a2) (b1, b2))] := by
 unfold cmpPS at h
 split at h
 ·exact ⟨_, _, _, _, rfl, h⟩
 ·exact h.elim
theorem fn_cmpP : FnOk Tryz.prog 150 Tryz.f150 (bodyOf Tryz.f150) := ⟨by kernel_rfl, by kernel_rfl, by kernel_rfl⟩
noncomputable def ff_cmpP : Fun := ⟨Tryz.f150.ntmps, 0, Tryz.f150.results.toList, fun _ => none, fun _ => false, fun _ => []⟩
theorem nf_cmpP (A : KA Kd) (k : List PV -> Heap Kd -> Prop) (a1 a2 b1 b2 : Int) : evT PE2 ff_cmpP A k 400 false [.code (bodyOf Tryz.f150)] (startEnv 17 [.agg [.int .i64 a1, .int .i64 a2], .agg [.int .i64 b1, .int .i64 b2]]) [] = (∃ (zs : List Int), List.map e_int zs = [PV.int IntKind.i64 (cmpI a1 b1), PV.int IntKind.i64 (cmpI a2 b2)] /\ ∃ (l : List Int), PV.sl Int e_int zs = PV.sl Int e_int l /\ l.length < 4611686018427387904 /\ k [.int .i64 (orV l)] []) := by kernel_rfl
theorem ok_cmpP : FunS B 150 cmpPS := by
 refine funS_of (N := 17) (f := ff_cmpP) env_PE2 mixed fn_cmpP (by kernel_rfl) (by kernel_rfl) (by kernel_rfl) cmpPS_mono ?_
 intro A k ys hA hF
 obtain ⟨a1, a2, b1, b2, rfl, hk⟩ := cmpPS_inv hF; clear hF
 refine ⟨by kernel_rfl, (hA.nf (nf_cmpP A k a1 a2 b1 b2) ?_)⟩
 exact ⟨[cmpI a1 b1, cmpI a2 b2], rfl, [cmpI a1 b1, cmpI a2 b2], rfl, (by show (2 : Nat) < 4611686018427387904; decide), hk⟩
def idS : SpecS := fun ys Φ => match ys with
 | [.int .i64 n] => Φ [.bool (idOk n)]
 | _ => False
theorem idS_mono : MonoS idS := by
 intro ys Φ Ψ h hF
 unfold idS at hF ⊢
 split at hF
 ·exact h _ hF
 ·exact hF.elim
theorem idS_inv {ys : List PV} {Φ : List PV -> Prop} (h : idS ys Φ) : ∃ (n : Int), ys = [.int .i64 n] /\ Φ [.bool (idOk n)] := by
 unfold idS at h
 split at h
 ·exact ⟨_, rfl, h⟩
 ·exact h.elim
theorem fn_prRight : FnOk Tryz.prog 135 Tryz.f135 (bodyOf Tryz.f135) := ⟨by kernel_rfl, by kernel_rfl, by kernel_rfl⟩
noncomputable def ff_prRight : Fun := ⟨Tryz.f135.ntmps, 0, Tryz.f135.results.toList, fun _ => none, fun _ => false, fun _ => []⟩
theorem nf_prRight (A : KA Kd) (k : List PV -> Heap Kd -> Prop) (n : Int) : evT PE2 ff_prRight A k 400 false [.code (bodyOf Tryz.f135)] (startEnv 9 [.int .i64 n]) [] = (bif decide (n >= 0) then k [.bool (decide (n <= 255))] [] else k [.bool false] []) := by kernel_rfl
theorem ok_prRight : FunS B 135 idS := by
 refine funS_of (N := 9) (f := ff_prRight) env_PE2 mixed fn_prRight (by kernel_rfl) (by kernel_rfl) (by kernel_rfl) idS_mono ?_
 intro A k ys hA hF
 obtain ⟨n, rfl, hk⟩ := idS_inv hF; clear hF
 refine ⟨by kernel_rfl, (hA.nf (nf_prRight A k n) ?_)⟩
 unfold idOk at hk
 cases h : decide (n >= 0) with
 | true => rw [h] at hk; exact hk
 | false => rw [h] at hk; exact hk
def ltPS : SpecS := fun ys Φ => match ys with
 | [.agg [.int .i64 a1, .int .i64 a2], .agg [.int .i64 b1, .int .i64 b2]] => Φ [.bool (ltP (a1, a2) (b1, b2))]
 | _ => False
theorem ltPS_mono : MonoS ltPS := by
 intro ys Φ Ψ h hF
 unfold ltPS at hF ⊢
 split at hF
 ·exact h _ hF
 ·exact hF.elim
theorem ltPS_inv {ys : List PV} {Φ : List PV -> Prop} (h : ltPS ys Φ) : ∃ (a1 : Int) (a2 : Int) (b1 : Int) (b2 : Int), ys = [.agg [.int .i64 a1, .int .i64 a2], .agg [.int .i64 b1, .int .i64 b2]] /\ Φ [.bool (ltP (a1, a2) (b1, b2))] := by
 unfold ltPS at h
 split at h
 ·exact ⟨_, _, _, _, rfl, h⟩
 ·exact h.elim
theorem fn_rLess10 : FnOk Tryz.prog 82 Tryz.f82 (bodyOf Tryz.f82) := ⟨by kernel_rfl, by kernel_rfl, by kernel_rfl⟩
noncomputable def ff_rLess10 : Fun := ⟨Tryz.f82.ntmps, 0, Tryz.f82.results.toList, fun _ => none, fun _ => false, fun _ => []⟩
theorem nf_rLess10 (A : KA Kd) (k : List PV -> Heap Kd -> Prop) (a1 a2 b1 b2 : Int) : evT PE2 ff_rLess10 A k 400 false [.code (bodyOf Tryz.f82)] (startEnv 24 [.agg [.int .i64 a1, .int .i64 a2], .agg [.int .i64 b1, .int .i64 b2]]) [] = (bif decide (a1 < b1) then k [.bool true] []
else bif a1 == b1 then k [PV.bool (decide (a2 < b2))] [] else k [PV.bool false] []) := by kernel_rfl
theorem ok_rLess10 : FunS B 82 ltPS := by
 refine funS_of (N := 24) (f := ff_rLess10) env_PE2 mixed fn_rLess10 (by kernel_rfl) (by kernel_rfl) (by kernel_rfl) ltPS_mono ?_
 intro A k ys hA hF
 obtain ⟨a1, a2, b1, b2, rfl, hk⟩ := ltPS_inv hF; clear hF
 refine ⟨by kernel_rfl, (hA.nf (nf_rLess10 A k a1 a2 b1 b2) ?_)⟩
 unfold ltP at hk
 simp only at hk
 cases h : decide (a1 < b1) with
 | true => rw [h] at hk; exact hk
 | false =>
  rw [h] at hk
  cases h2 : a1 == b1 with
  | true => rw [h2] at hk; exact hk
  | false => rw [h2] at hk; exact hk
noncomputable def PE3 := base (fun _ => none) (fun g => match g with | 150 => some cmpPS | _ => none) (fun _ => none)
theorem env_PE3 : EnvOk PE3 := env_of (by
 intro g F h
 split at h
 ·cases h; exact ok_cmpP
 ·cases h) (fun g F h => (by cases h)) (fun g F h => (by cases h))
theorem fn_less10 : FnOk Tryz.prog 106 Tryz.f106 (bodyOf Tryz.f106) := ⟨by kernel_rfl, by kernel_rfl, by kernel_rfl⟩
noncomputable def ff_less10 : Fun := ⟨Tryz.f106.ntmps, 0, Tryz.f106.results.toList, fun _ => none, fun _ => false, fun _ => []⟩
theorem nf_less10 (A : KA Kd) (k : List PV -> Heap Kd -> Prop) (a1 a2 b1 b2 : Int) : evT PE3 ff_less10 A k 400 false [.code (bodyOf Tryz.f106)] (startEnv 9 [.agg [.int .i64 a1, .int .i64 a2], .agg [.int .i64 b1, .int .i64 b2]]) [] = (k [.bool (decide (cmpP (a1, a2) (b1, b2) < 0))] []) := by kernel_rfl
theorem ok_less10 : FunS B 106 ltPS := by
 refine funS_of (N := 9) (f := ff_less10) env_PE3 mixed fn_less10 (by kernel_rfl) (by kernel_rfl) (by kernel_rfl) ltPS_mono ?_
 intro A k ys hA hF
 obtain ⟨a1, a2, b1, b2, rfl, hk⟩ := ltPS_inv hF; clear hF
 refine ⟨by kernel_rfl, (hA.nf (nf_less10 A k a1 a2 b1 b2) ?_)⟩
 rw [cmpP_lt]; exact hk
end Go.Ab.T
