import Derived.Test.YthfagophoncabaaGreatDoorHeader
import Derived.Test.YthfagophoncabaaGreatDoorPut
import Derived.Test.YthfagophoncabaaGreatDoorRef01T
import Derived.Test.YthfagophoncabaaGreatDoorMaB
set_option linter.unusedVariables false
set_option linter.unusedSimpArgs false
set_option linter.unusedSectionVars false
namespace Go.Ab.T
open Go Go.Ab Go.Proofs
variable [DMode]
set_option maxRecDepth 100000
set_option maxHeartbeats 4000000
noncomputable def HP0 := base (fun _ => none) (fun g => match g with | 111 => some newS | 110 => some atS | 109 => some inS | 94 => some boundsS | 95 => some fineS | _ => none) (fun _ => none)
theorem env_HP0 : EnvOk HP0 := env_of (by
    intro g F h
    split at h
    · cases h; exact ok_New
    · cases h; exact ok_At
    · cases h; exact ok_In
    · cases h; exact ok_bounds
    · cases h; exact ok_fine
    · cases h) (fun g F h => (by cases h)) (fun g F h => (by cases h))
def hRightS : SpecS := fun ys Φ => match ys with
  | [.agg [.int .u32 h0, .int .u64 h1, .int .i64 h2, .int .i64 h3, .int .i64 h4, .int .i64 h5, .int .i64 h6]] => Φ [.err (hdrE h2 h3 h4 h5 h6)]
  | _ => False
theorem hRightS_mono : MonoS hRightS := by
  intro ys Φ Ψ h hF
  unfold hRightS at hF ⊢
  split at hF
  · exact h _ hF
  · exact hF.elim
theorem hRightS_inv {ys : List PV} {Φ : List PV → Prop} (h : hRightS ys Φ) : ∃ (h0 : Int) (h1 : Int) (h2 : Int) (h3 : Int) (h4 : Int) (h5 : Int) (h6 : Int), ys = [.agg [.int .u32 h0, .int .u64 h1, .int .i64 h2, .int .i64 h3, .int .i64 h4, .int .i64 h5, .int .i64 h6]] ∧ Φ [.err (hdrE h2 h3 h4 h5 h6)] := by
  unfold hRightS at h
  split at h
  · exact ⟨_, _, _, _, _, _, _, rfl, h⟩
  · exact h.elim
theorem fn_hRight : FnOk Tryz.prog 128 Tryz.f128 (bodyOf Tryz.f128) := ⟨by kernel_rfl, by kernel_rfl, by kernel_rfl⟩
noncomputable def ff_hRight : Fun := ⟨Tryz.f128.ntmps, 0, Tryz.f128.results.toList, fun i => match i with | 4 => some [17, 18] | _ => none, fun _ => false, fun _ => []⟩
theorem nf_hRight_a (A : KA Kd) (k : List PV → Heap Kd → Prop) (h0 h1 h2 h3 h4 h5 h6 : Int) : evT HP0 ff_hRight A k 400 false [.code (bodyOf Tryz.f128)] (startEnv 31 [.agg [.int .u32 h0, .int .u64 h1, .int .i64 h2, .int .i64 h3, .int .i64 h4, .int .i64 h5, .int .i64 h6]]) [] = (bif decide (h2 < (0 : Int)) then k [PV.err (inE (1 : Int) (atE (0 : Int) (newE (18 : Int))))] []
else bif decide (h2 > (255 : Int)) then k [PV.err (inE (1 : Int) (atE (0 : Int) (newE (18 : Int))))] [] else A (td Tryz.f128 (4 : Nat)) (envAt (31 : Nat) [((17 : Nat), PV.agg [PV.int IntKind.i64 h3, PV.int IntKind.i64 (1 : Int), PV.int IntKind.i64 (32 : Int), PV.int IntKind.i64 h4, PV.int IntKind.i64 (1 : Int), PV.int IntKind.i64 (16 : Int), PV.int IntKind.i64 h5, PV.int IntKind.i64 (0 : Int), PV.int IntKind.i64 (240 : Int), PV.int IntKind.i64 h6, PV.int IntKind.i64 (0 : Int), PV.int IntKind.i64 (512 : Int)]), ((18 : Nat), PV.int IntKind.i64 (0 : Int))]) []) := by kernel_rfl
theorem nf_hRight_0 (A : KA Kd) (k : List PV → Heap Kd → Prop) (h3 h4 h5 h6 : Int) : evT HP0 ff_hRight A k 400 true (td Tryz.f128 4) (envAt 31 [(17, .agg [.int .i64 h3, .int .i64 1, .int .i64 32, .int .i64 h4, .int .i64 1, .int .i64 16, .int .i64 h5, .int .i64 0, .int .i64 240, .int .i64 h6, .int .i64 0, .int .i64 512]), (18, .int .i64 0)]) [] = (bif !(decide (h3 ≥ (1 : Int)) && decide (h3 ≤ (32 : Int))) then k [PV.err (inE (1 : Int) (atE (IntKind.i64.wrap ((0 : Int) + (1 : Int))) (newE (8 : Int))))] []
else A (td Tryz.f128 (4 : Nat)) (envAt (31 : Nat) [((17 : Nat), PV.agg [PV.int IntKind.i64 h3, PV.int IntKind.i64 (1 : Int), PV.int IntKind.i64 (32 : Int), PV.int IntKind.i64 h4, PV.int IntKind.i64 (1 : Int), PV.int IntKind.i64 (16 : Int), PV.int IntKind.i64 h5, PV.int IntKind.i64 (0 : Int), PV.int IntKind.i64 (240 : Int), PV.int IntKind.i64 h6, PV.int IntKind.i64 (0 : Int), PV.int IntKind.i64 (512 : Int)]), ((18 : Nat), PV.int IntKind.i64 (IntKind.i64.wrap ((0 : Int) + (1 : Int))))]) []) := by kernel_rfl
theorem nf_hRight_1 (A : KA Kd) (k : List PV → Heap Kd → Prop) (h3 h4 h5 h6 : Int) : evT HP0 ff_hRight A k 400 true (td Tryz.f128 4) (envAt 31 [(17, .agg [.int .i64 h3, .int .i64 1, .int .i64 32, .int .i64 h4, .int .i64 1, .int .i64 16, .int .i64 h5, .int .i64 0, .int .i64 240, .int .i64 h6, .int .i64 0, .int .i64 512]), (18, .int .i64 1)]) [] = (bif !(decide (h4 ≥ (1 : Int)) && decide (h4 ≤ (16 : Int))) then k [PV.err (inE (1 : Int) (atE (IntKind.i64.wrap ((1 : Int) + (1 : Int))) (newE (8 : Int))))] []
else A (td Tryz.f128 (4 : Nat)) (envAt (31 : Nat) [((17 : Nat), PV.agg [PV.int IntKind.i64 h3, PV.int IntKind.i64 (1 : Int), PV.int IntKind.i64 (32 : Int), PV.int IntKind.i64 h4, PV.int IntKind.i64 (1 : Int), PV.int IntKind.i64 (16 : Int), PV.int IntKind.i64 h5, PV.int IntKind.i64 (0 : Int), PV.int IntKind.i64 (240 : Int), PV.int IntKind.i64 h6, PV.int IntKind.i64 (0 : Int), PV.int IntKind.i64 (512 : Int)]), ((18 : Nat), PV.int IntKind.i64 (IntKind.i64.wrap ((1 : Int) + (1 : Int))))]) []) := by kernel_rfl
theorem nf_hRight_2 (A : KA Kd) (k : List PV → Heap Kd → Prop) (h3 h4 h5 h6 : Int) : evT HP0 ff_hRight A k 400 true (td Tryz.f128 4) (envAt 31 [(17, .agg [.int .i64 h3, .int .i64 1, .int .i64 32, .int .i64 h4, .int .i64 1, .int .i64 16, .int .i64 h5, .int .i64 0, .int .i64 240, .int .i64 h6, .int .i64 0, .int .i64 512]), (18, .int .i64 2)]) [] = (bif !(decide (h5 ≥ (0 : Int)) && decide (h5 ≤ (240 : Int))) then k [PV.err (inE (1 : Int) (atE (IntKind.i64.wrap ((2 : Int) + (1 : Int))) (newE (8 : Int))))] []
else A (td Tryz.f128 (4 : Nat)) (envAt (31 : Nat) [((17 : Nat), PV.agg [PV.int IntKind.i64 h3, PV.int IntKind.i64 (1 : Int), PV.int IntKind.i64 (32 : Int), PV.int IntKind.i64 h4, PV.int IntKind.i64 (1 : Int), PV.int IntKind.i64 (16 : Int), PV.int IntKind.i64 h5, PV.int IntKind.i64 (0 : Int), PV.int IntKind.i64 (240 : Int), PV.int IntKind.i64 h6, PV.int IntKind.i64 (0 : Int), PV.int IntKind.i64 (512 : Int)]), ((18 : Nat), PV.int IntKind.i64 (IntKind.i64.wrap ((2 : Int) + (1 : Int))))]) []) := by kernel_rfl
theorem nf_hRight_3 (A : KA Kd) (k : List PV → Heap Kd → Prop) (h3 h4 h5 h6 : Int) : evT HP0 ff_hRight A k 400 true (td Tryz.f128 4) (envAt 31 [(17, .agg [.int .i64 h3, .int .i64 1, .int .i64 32, .int .i64 h4, .int .i64 1, .int .i64 16, .int .i64 h5, .int .i64 0, .int .i64 240, .int .i64 h6, .int .i64 0, .int .i64 512]), (18, .int .i64 3)]) [] = (bif !(decide (h6 ≥ (0 : Int)) && decide (h6 ≤ (512 : Int))) then k [PV.err (inE (1 : Int) (atE (IntKind.i64.wrap ((3 : Int) + (1 : Int))) (newE (8 : Int))))] []
else A (td Tryz.f128 (4 : Nat)) (envAt (31 : Nat) [((17 : Nat), PV.agg [PV.int IntKind.i64 h3, PV.int IntKind.i64 (1 : Int), PV.int IntKind.i64 (32 : Int), PV.int IntKind.i64 h4, PV.int IntKind.i64 (1 : Int), PV.int IntKind.i64 (16 : Int), PV.int IntKind.i64 h5, PV.int IntKind.i64 (0 : Int), PV.int IntKind.i64 (240 : Int), PV.int IntKind.i64 h6, PV.int IntKind.i64 (0 : Int), PV.int IntKind.i64 (512 : Int)]), ((18 : Nat), PV.int IntKind.i64 (IntKind.i64.wrap ((3 : Int) + (1 : Int))))]) []) := by kernel_rfl
theorem nf_hRight_4 (A : KA Kd) (k : List PV → Heap Kd → Prop) (h3 h4 h5 h6 : Int) : evT HP0 ff_hRight A k 400 true (td Tryz.f128 4) (envAt 31 [(17, .agg [.int .i64 h3, .int .i64 1, .int .i64 32, .int .i64 h4, .int .i64 1, .int .i64 16, .int .i64 h5, .int .i64 0, .int .i64 240, .int .i64 h6, .int .i64 0, .int .i64 512]), (18, .int .i64 4)]) [] = (k [PV.err Err.nil] []) := by kernel_rfl
theorem ok_hRight : FunS B 128 hRightS := by
  refine funS_of (N := 31) (f := ff_hRight) env_HP0 mixed fn_hRight (by kernel_rfl) (by kernel_rfl) (by kernel_rfl) hRightS_mono ?_
  intro A k ys hA hF
  obtain ⟨h0, h1, h2, h3, h4, h5, h6, rfl, hk⟩ := hRightS_inv hF; clear hF
  refine ⟨by kernel_rfl, (hA.nf (nf_hRight_a A k h0 h1 h2 h3 h4 h5 h6) ?_)⟩
  unfold hdrE at hk
  cases c1 : decide (h2 < 0) with
  | true => rw [c1] at hk; exact hk
  | false =>
  rw [c1, Bool.false_or] at hk
  cases c2 : decide (h2 > 255) with
  | true => rw [c2] at hk; exact hk
  | false =>
  rw [c2] at hk
  have w1 : IntKind.i64.wrap ((0 : Int) + 1) = 1 := by decide
  have w2 : IntKind.i64.wrap ((1 : Int) + 1) = 2 := by decide
  have w3 : IntKind.i64.wrap ((2 : Int) + 1) = 3 := by decide
  have w4 : IntKind.i64.wrap ((3 : Int) + 1) = 4 := by decide
  refine (hA.nf (nf_hRight_0 A k h3 h4 h5 h6) ?_)
  rw [← fineQ_1', w1]
  cases c3 : fineQ 1 h3 with
  | false => rw [c3] at hk; exact hk
  | true =>
  rw [c3] at hk
  refine (hA.nf (nf_hRight_1 A k h3 h4 h5 h6) ?_)
  rw [← fineQ_2', w2]
  cases c4 : fineQ 2 h4 with
  | false => rw [c4] at hk; exact hk
  | true =>
  rw [c4] at hk
  refine (hA.nf (nf_hRight_2 A k h3 h4 h5 h6) ?_)
  rw [← fineQ_3', w3]
  cases c5 : fineQ 3 h5 with
  | false => rw [c5] at hk; exact hk
  | true =>
  rw [c5] at hk
  refine (hA.nf (nf_hRight_3 A k h3 h4 h5 h6) ?_)
  rw [← fineQ_4', w4]
  cases c6 : fineQ 4 h6 with
  | false => rw [c6] at hk; exact hk
  | true =>
  rw [c6] at hk
  exact (hA.nf (nf_hRight_4 A k h3 h4 h5 h6) hk)
def fineRS : SpecS := fun ys Φ => match ys with
  | [.int .i64 i, .int .i64 n] => (0 ≤ i ∧ i < 5) ∧ Φ [.bool (fineQ i n)]
  | _ => False
theorem fineRS_mono : MonoS fineRS := by
  intro ys Φ Ψ h hF
  unfold fineRS at hF ⊢
  split at hF
  · obtain ⟨hp, hk⟩ := hF; exact ⟨hp, h _ hk⟩
  · exact hF.elim
theorem fineRS_inv {ys : List PV} {Φ : List PV → Prop} (h : fineRS ys Φ) : ∃ (i : Int) (n : Int), ys = [.int .i64 i, .int .i64 n] ∧ (0 ≤ i ∧ i < 5) ∧ Φ [.bool (fineQ i n)] := by
  unfold fineRS at h
  split at h
  · exact ⟨_, _, rfl, h⟩
  · exact h.elim
theorem fn_rFine : FnOk Tryz.prog 79 Tryz.f79 (bodyOf Tryz.f79) := ⟨by kernel_rfl, by kernel_rfl, by kernel_rfl⟩
noncomputable def ff_rFine : Fun := ⟨Tryz.f79.ntmps, 0, Tryz.f79.results.toList, fun _ => none, fun _ => false, fun _ => []⟩
theorem nf_rFine (A : KA Kd) (k : List PV → Heap Kd → Prop) (i n : Int) : evT HP0 ff_rFine A k 400 false [.code (bodyOf Tryz.f79)] (startEnv 25 [.int .i64 i, .int .i64 n]) [] = (∃ (zs : List Int), List.map e_int zs = [PV.int IntKind.i64 (0 : Int), PV.int IntKind.i64 (32 : Int), PV.int IntKind.i64 (16 : Int), PV.int IntKind.i64 (240 : Int), PV.int IntKind.i64 (512 : Int)] ∧ ((0 : Int) ≤ i ∧ i < (↑zs.length : Int)) ∧ ∀ (y : Int), zs[i.toNat]? = some y → bif decide (n ≤ y) then bif decide (n ≥ (1 : Int)) then k [PV.bool true] [] else bif decide (i ≥ (3 : Int)) then k [PV.bool (n == (0 : Int))] [] else k [PV.bool false] [] else k [PV.bool false] []) := by kernel_rfl
theorem ok_rFine : FunS B 79 fineRS := by
  refine funS_of (N := 25) (f := ff_rFine) env_HP0 mixed fn_rFine (by kernel_rfl) (by kernel_rfl) (by kernel_rfl) fineRS_mono ?_
  intro A k ys hA hF
  obtain ⟨i, n, rfl, ⟨h0, h1⟩, hk⟩ := fineRS_inv hF; clear hF
  refine ⟨by kernel_rfl, (hA.nf (nf_rFine A k i n) ?_)⟩
  refine ⟨[0, 32, 16, 240, 512], rfl, ⟨h0, h1⟩, fun y hy => ?_⟩
  obtain rfl : y = mostQ i := mostQ_get h0 h1 hy
  unfold fineQ at hk
  cases c1 : decide (n ≤ mostQ i) with
  | false => rw [c1] at hk; exact hk
  | true =>
    rw [c1] at hk
    cases c2 : decide (n ≥ 1) with
    | true => rw [c2] at hk; exact hk
    | false =>
      rw [c2] at hk
      cases c3 : decide (i ≥ 3) with
      | true => rw [c3] at hk; exact hk
      | false => rw [c3] at hk; exact hk
noncomputable def HP1 := base (fun g => match g with | 117 => some (lift 0 cloneS) | 49 => some (ownArg (lift 0 putS)) | _ => none) (fun g => match g with | 31 => some r01TS | 128 => some hRightS | 79 => some fineRS | _ => none) (fun _ => none)
theorem env_HP1 : EnvOk HP1 := env_of (by
    intro g F h
    split at h
    · cases h; exact ok_r01T
    · cases h; exact ok_hRight
    · cases h; exact ok_rFine
    · cases h) (by
    intro g F h
    split at h
    · cases h; exact (lift_ok ok_clone)
    · cases h; exact (ownArg_ok (lift_ok ok_put))
    · cases h) (fun g F h => (by cases h))
def rRightS : SpecS := fun ys Φ => match ys with
  | [.agg [.int .u32 h0, .int .u64 h1, .int .i64 h2, .int .i64 h3, .int .i64 h4, .int .i64 h5, .int .i64 h6]] => Φ [.agg [.int .i64 (ofE (hdrE h2 h3 h4 h5 h6)).1, .int .i64 (ofE (hdrE h2 h3 h4 h5 h6)).2.1, .int .i64 (ofE (hdrE h2 h3 h4 h5 h6)).2.2]]
  | _ => False
theorem rRightS_mono : MonoS rRightS := by
  intro ys Φ Ψ h hF
  unfold rRightS at hF ⊢
  split at hF
  · exact h _ hF
  · exact hF.elim
theorem rRightS_inv {ys : List PV} {Φ : List PV → Prop} (h : rRightS ys Φ) : ∃ (h0 : Int) (h1 : Int) (h2 : Int) (h3 : Int) (h4 : Int) (h5 : Int) (h6 : Int), ys = [.agg [.int .u32 h0, .int .u64 h1, .int .i64 h2, .int .i64 h3, .int .i64 h4, .int .i64 h5, .int .i64 h6]] ∧ Φ [.agg [.int .i64 (ofE (hdrE h2 h3 h4 h5 h6)).1, .int .i64 (ofE (hdrE h2 h3 h4 h5 h6)).2.1, .int .i64 (ofE (hdrE h2 h3 h4 h5 h6)).2.2]] := by
  unfold rRightS at h
  split at h
  · exact ⟨_, _, _, _, _, _, _, rfl, h⟩
  · exact h.elim
theorem fn_rRight7 : FnOk Tryz.prog 20 Tryz.f20 (bodyOf Tryz.f20) := ⟨by kernel_rfl, by kernel_rfl, by kernel_rfl⟩
noncomputable def ff_rRight7 : Fun := ⟨Tryz.f20.ntmps, 0, Tryz.f20.results.toList, fun i => match i with | 5 => some [2, 3, 4] | _ => none, fun _ => false, fun _ => []⟩
theorem nf_rRight7_a (A : KA Kd) (k : List PV → Heap Kd → Prop) (h0 h1 h2 h3 h4 h5 h6 : Int) : evT HP1 ff_rRight7 A k 400 false [.code (bodyOf Tryz.f20)] (startEnv 37 [.agg [.int .u32 h0, .int .u64 h1, .int .i64 h2, .int .i64 h3, .int .i64 h4, .int .i64 h5, .int .i64 h6]]) [] = (bif decide (h2 < (0 : Int)) then k [PV.agg [PV.int IntKind.i64 (18 : Int), PV.int IntKind.i64 (1 : Int), PV.int IntKind.i64 (0 : Int)]] []
else bif decide (h2 > (255 : Int)) then k [PV.agg [PV.int IntKind.i64 (18 : Int), PV.int IntKind.i64 (1 : Int), PV.int IntKind.i64 (0 : Int)]] [] else ∃ (zs : List Int), List.map e_int zs = [PV.int IntKind.i64 (0 : Int), PV.int IntKind.i64 h3, PV.int IntKind.i64 h4, PV.int IntKind.i64 h5, PV.int IntKind.i64 h6] ∧ A (td Tryz.f20 (5 : Nat)) (envAt (37 : Nat) [((2 : Nat), PV.ptr (0 : Nat) (0 : Nat)), ((3 : Nat), PV.own (1 : Nat)), ((4 : Nat), PV.int IntKind.i64 (1 : Int))]) [AObj.box [PV.int IntKind.i64 (0 : Int), PV.int IntKind.i64 (0 : Int), PV.int IntKind.i64 (0 : Int)], AObj.row (3 : Nat) zs]) := by kernel_rfl
theorem nf_rRight7_b (A : KA Kd) (k : List PV → Heap Kd → Prop) (i : Int) (l : List Int) : evT HP1 ff_rRight7 A k 400 true (td Tryz.f20 5) (envAt 37 [(2, .ptr 0 0), (3, .own 1), (4, .int .i64 i)]) [.box [.int .i64 0, .int .i64 0, .int .i64 0], .row 3 l] = (bif decide (i ≤ (4 : Int)) then ((0 : Int) ≤ i ∧ i < (↑l.length : Int)) ∧ ∀ (y : Int), l[i.toNat]? = some y → ((0 : Int) ≤ i ∧ i < (5 : Int)) ∧ bif !fineQ i y then k [PV.agg [PV.int IntKind.i64 (8 : Int), PV.int IntKind.i64 (1 : Int), PV.int IntKind.i64 i]] [] else A (td Tryz.f20 (5 : Nat)) (envAt (37 : Nat) [((2 : Nat), PV.ptr (0 : Nat) (0 : Nat)), ((3 : Nat), PV.own (1 : Nat)), ((4 : Nat), PV.int IntKind.i64 (IntKind.i64.wrap (i + (1 : Int))))]) [AObj.box [PV.int IntKind.i64 (0 : Int), PV.int IntKind.i64 (0 : Int), PV.int IntKind.i64 (0 : Int)], AObj.row (3 : Nat) l]
else k [PV.agg [PV.int IntKind.i64 (0 : Int), PV.int IntKind.i64 (0 : Int), PV.int IntKind.i64 (0 : Int)]] []) := by kernel_rfl
theorem ok_rRight7 : FunS B 20 rRightS := by
  refine funS_of (N := 37) (f := ff_rRight7) env_HP1 mixed fn_rRight7 (by kernel_rfl) (by kernel_rfl) (by kernel_rfl) rRightS_mono ?_
  intro A k ys hA hF
  obtain ⟨h0, h1, h2, h3, h4, h5, h6, rfl, hk⟩ := rRightS_inv hF; clear hF
  refine ⟨by kernel_rfl, (hA.nf (nf_rRight7_a A k h0 h1 h2 h3 h4 h5 h6) ?_)⟩
  unfold hdrE at hk
  cases c1 : decide (h2 < 0) with
  | true => rw [c1] at hk; exact hk
  | false =>
  rw [c1, Bool.false_or] at hk
  cases c2 : decide (h2 > 255) with
  | true => rw [c2] at hk; exact hk
  | false =>
  rw [c2] at hk
  have w1 : IntKind.i64.wrap ((1 : Int) + 1) = 2 := by decide
  have w2 : IntKind.i64.wrap ((2 : Int) + 1) = 3 := by decide
  have w3 : IntKind.i64.wrap ((3 : Int) + 1) = 4 := by decide
  have w4 : IntKind.i64.wrap ((4 : Int) + 1) = 5 := by decide
  refine ⟨[0, h3, h4, h5, h6], rfl, ?_⟩
  refine (hA.nf (nf_rRight7_b A k 1 [0, h3, h4, h5, h6]) ?_)
  refine ⟨⟨by decide, by show (1 : Int) < 5; decide⟩, fun y hy => ⟨by decide, ?_⟩⟩
  cases hy
  rw [w1]
  cases c3 : fineQ 1 h3 with
  | false => rw [c3] at hk; exact hk
  | true =>
  rw [c3] at hk
  refine (hA.nf (nf_rRight7_b A k 2 [0, h3, h4, h5, h6]) ?_)
  refine ⟨⟨by decide, by show (2 : Int) < 5; decide⟩, fun y hy => ⟨by decide, ?_⟩⟩
  cases hy
  rw [w2]
  cases c4 : fineQ 2 h4 with
  | false => rw [c4] at hk; exact hk
  | true =>
  rw [c4] at hk
  refine (hA.nf (nf_rRight7_b A k 3 [0, h3, h4, h5, h6]) ?_)
  refine ⟨⟨by decide, by show (3 : Int) < 5; decide⟩, fun y hy => ⟨by decide, ?_⟩⟩
  cases hy
  rw [w3]
  cases c5 : fineQ 3 h5 with
  | false => rw [c5] at hk; exact hk
  | true =>
  rw [c5] at hk
  refine (hA.nf (nf_rRight7_b A k 4 [0, h3, h4, h5, h6]) ?_)
  refine ⟨⟨by decide, by show (4 : Int) < 5; decide⟩, fun y hy => ⟨by decide, ?_⟩⟩
  cases hy
  rw [w4]
  cases c6 : fineQ 4 h6 with
  | false => rw [c6] at hk; exact hk
  | true =>
  rw [c6] at hk
  exact (hA.nf (nf_rRight7_b A k 5 [0, h3, h4, h5, h6]) hk)
def rText7S : SpecS := fun ys Φ => match ys with
  | [.agg [.int .u32 h0, .int .u64 h1, .int .i64 h2, .int .i64 h3, .int .i64 h4, .int .i64 h5, .int .i64 h6]] => (hdrOk h0 h1 h2 h3 h4 h5 h6) ∧ Φ [.str ⟨(hdrL h0 h1 h2 h3 h4 h5 h6).toArray⟩]
  | _ => False
theorem rText7S_mono : MonoS rText7S := by
  intro ys Φ Ψ h hF
  unfold rText7S at hF ⊢
  split at hF
  · obtain ⟨hp, hk⟩ := hF; exact ⟨hp, h _ hk⟩
  · exact hF.elim
theorem rText7S_inv {ys : List PV} {Φ : List PV → Prop} (h : rText7S ys Φ) : ∃ (h0 : Int) (h1 : Int) (h2 : Int) (h3 : Int) (h4 : Int) (h5 : Int) (h6 : Int), ys = [.agg [.int .u32 h0, .int .u64 h1, .int .i64 h2, .int .i64 h3, .int .i64 h4, .int .i64 h5, .int .i64 h6]] ∧ (hdrOk h0 h1 h2 h3 h4 h5 h6) ∧ Φ [.str ⟨(hdrL h0 h1 h2 h3 h4 h5 h6).toArray⟩] := by
  unfold rText7S at h
  split at h
  · exact ⟨_, _, _, _, _, _, _, rfl, h⟩
  · exact h.elim
theorem fn_rText7 : FnOk Tryz.prog 30 Tryz.f30 (bodyOf Tryz.f30) := ⟨by kernel_rfl, by kernel_rfl, by kernel_rfl⟩
noncomputable def ff_rText7 : Fun := ⟨Tryz.f30.ntmps, 0, Tryz.f30.results.toList, fun _ => none, fun _ => false, fun _ => []⟩
theorem nf_rText7 (A : KA Kd) (k : List PV → Heap Kd → Prop) (h0 h1 h2 h3 h4 h5 h6 : Int) : evT HP1 ff_rText7 A k 400 false [.code (bodyOf Tryz.f30)] (startEnv 37 [.agg [.int .u32 h0, .int .u64 h1, .int .i64 h2, .int .i64 h3, .int .i64 h4, .int .i64 h5, .int .i64 h6]]) [] = ((((0 : Int) ≤ IntKind.u64.wrap h0 ∧ IntKind.u64.wrap h0 < (18446744073709551616 : Int)) ∧ (0 : Int) ≤ (4 : Int) ∧ (4 : Int) ≤ (100 : Int)) ∧ (ByteArray.mk #[(67 : UInt8), (87 : UInt8), (77 : UInt8), (49 : UInt8)]).size + (ByteArray.mk (beL (Int.toNat (4 : Int)) (IntKind.u64.wrap h0).toNat).toArray).size ≤ (9223372036854775807 : Nat) ∧ (((0 : Int) ≤ h1 ∧ h1 < (18446744073709551616 : Int)) ∧ (0 : Int) ≤ (8 : Int) ∧ (8 : Int) ≤ (100 : Int)) ∧ (ByteArray.mk #[(67 : UInt8), (87 : UInt8), (77 : UInt8), (49 : UInt8)] ++ ByteArray.mk (beL (Int.toNat (4 : Int)) (IntKind.u64.wrap h0).toNat).toArray).size + (ByteArray.mk (beL (Int.toNat (8 : Int)) h1.toNat).toArray).size ≤ (9223372036854775807 : Nat) ∧ (((0 : Int) ≤ IntKind.u64.wrap h2 ∧ IntKind.u64.wrap h2 < (18446744073709551616 : Int)) ∧ (0 : Int) ≤ (1 : Int) ∧ (1 : Int) ≤ (100 : Int)) ∧ (ByteArray.mk #[(67 : UInt8), (87 : UInt8), (77 : UInt8), (49 : UInt8)] ++ ByteArray.mk (beL (Int.toNat (4 : Int)) (IntKind.u64.wrap h0).toNat).toArray ++ ByteArray.mk (beL (Int.toNat (8 : Int)) h1.toNat).toArray).size + (ByteArray.mk (beL (Int.toNat (1 : Int)) (IntKind.u64.wrap h2).toNat).toArray).size ≤ (9223372036854775807 : Nat) ∧ (((0 : Int) ≤ IntKind.u64.wrap h3 ∧ IntKind.u64.wrap h3 < (18446744073709551616 : Int)) ∧ (0 : Int) ≤ (1 : Int) ∧ (1 : Int) ≤ (100 : Int)) ∧ (ByteArray.mk #[(67 : UInt8), (87 : UInt8), (77 : UInt8), (49 : UInt8)] ++ ByteArray.mk (beL (Int.toNat (4 : Int)) (IntKind.u64.wrap h0).toNat).toArray ++ ByteArray.mk (beL (Int.toNat (8 : Int)) h1.toNat).toArray ++ ByteArray.mk (beL (Int.toNat (1 : Int)) (IntKind.u64.wrap h2).toNat).toArray).size + (ByteArray.mk (beL (Int.toNat (1 : Int)) (IntKind.u64.wrap h3).toNat).toArray).size ≤ (9223372036854775807 : Nat) ∧ (((0 : Int) ≤ IntKind.u64.wrap h4 ∧ IntKind.u64.wrap h4 < (18446744073709551616 : Int)) ∧ (0 : Int) ≤ (1 : Int) ∧ (1 : Int) ≤ (100 : Int)) ∧ (ByteArray.mk #[(67 : UInt8), (87 : UInt8), (77 : UInt8), (49 : UInt8)] ++ ByteArray.mk (beL (Int.toNat (4 : Int)) (IntKind.u64.wrap h0).toNat).toArray ++ ByteArray.mk (beL (Int.toNat (8 : Int)) h1.toNat).toArray ++ ByteArray.mk (beL (Int.toNat (1 : Int)) (IntKind.u64.wrap h2).toNat).toArray ++ ByteArray.mk (beL (Int.toNat (1 : Int)) (IntKind.u64.wrap h3).toNat).toArray).size + (ByteArray.mk (beL (Int.toNat (1 : Int)) (IntKind.u64.wrap h4).toNat).toArray).size ≤ (9223372036854775807 : Nat) ∧ (((0 : Int) ≤ IntKind.u64.wrap h5 ∧ IntKind.u64.wrap h5 < (18446744073709551616 : Int)) ∧ (0 : Int) ≤ (2 : Int) ∧ (2 : Int) ≤ (100 : Int)) ∧ (ByteArray.mk #[(67 : UInt8), (87 : UInt8), (77 : UInt8), (49 : UInt8)] ++ ByteArray.mk (beL (Int.toNat (4 : Int)) (IntKind.u64.wrap h0).toNat).toArray ++ ByteArray.mk (beL (Int.toNat (8 : Int)) h1.toNat).toArray ++ ByteArray.mk (beL (Int.toNat (1 : Int)) (IntKind.u64.wrap h2).toNat).toArray ++ ByteArray.mk (beL (Int.toNat (1 : Int)) (IntKind.u64.wrap h3).toNat).toArray ++ ByteArray.mk (beL (Int.toNat (1 : Int)) (IntKind.u64.wrap h4).toNat).toArray).size + (ByteArray.mk (beL (Int.toNat (2 : Int)) (IntKind.u64.wrap h5).toNat).toArray).size ≤ (9223372036854775807 : Nat) ∧ (((0 : Int) ≤ IntKind.u64.wrap h6 ∧ IntKind.u64.wrap h6 < (18446744073709551616 : Int)) ∧ (0 : Int) ≤ (2 : Int) ∧ (2 : Int) ≤ (100 : Int)) ∧ (ByteArray.mk #[(67 : UInt8), (87 : UInt8), (77 : UInt8), (49 : UInt8)] ++ ByteArray.mk (beL (Int.toNat (4 : Int)) (IntKind.u64.wrap h0).toNat).toArray ++ ByteArray.mk (beL (Int.toNat (8 : Int)) h1.toNat).toArray ++ ByteArray.mk (beL (Int.toNat (1 : Int)) (IntKind.u64.wrap h2).toNat).toArray ++ ByteArray.mk (beL (Int.toNat (1 : Int)) (IntKind.u64.wrap h3).toNat).toArray ++ ByteArray.mk (beL (Int.toNat (1 : Int)) (IntKind.u64.wrap h4).toNat).toArray ++ ByteArray.mk (beL (Int.toNat (2 : Int)) (IntKind.u64.wrap h5).toNat).toArray).size + (ByteArray.mk (beL (Int.toNat (2 : Int)) (IntKind.u64.wrap h6).toNat).toArray).size ≤ (9223372036854775807 : Nat) ∧ k [PV.str (ByteArray.mk #[(67 : UInt8), (87 : UInt8), (77 : UInt8), (49 : UInt8)] ++ ByteArray.mk (beL (Int.toNat (4 : Int)) (IntKind.u64.wrap h0).toNat).toArray ++ ByteArray.mk (beL (Int.toNat (8 : Int)) h1.toNat).toArray ++ ByteArray.mk (beL (Int.toNat (1 : Int)) (IntKind.u64.wrap h2).toNat).toArray ++ ByteArray.mk (beL (Int.toNat (1 : Int)) (IntKind.u64.wrap h3).toNat).toArray ++ ByteArray.mk (beL (Int.toNat (1 : Int)) (IntKind.u64.wrap h4).toNat).toArray ++ ByteArray.mk (beL (Int.toNat (2 : Int)) (IntKind.u64.wrap h5).toNat).toArray ++ ByteArray.mk (beL (Int.toNat (2 : Int)) (IntKind.u64.wrap h6).toNat).toArray)] []) := by kernel_rfl
theorem ok_rText7 : FunS B 30 rText7S := by
  refine funS_of (N := 37) (f := ff_rText7) env_HP1 mixed fn_rText7 (by kernel_rfl) (by kernel_rfl) (by kernel_rfl) rText7S_mono ?_
  intro A k ys hA hF
  obtain ⟨h0, h1, h2, h3, h4, h5, h6, rfl, hok, hk⟩ := rText7S_inv hF; clear hF
  refine ⟨by kernel_rfl, (hA.nf (nf_rText7 A k h0 h1 h2 h3 h4 h5 h6) ?_)⟩
  obtain ⟨⟨a0, a1, a2, a3⟩, b2, b3, b4, b5, b6⟩ := hdrOk_bounds hok
  rw [u64_id h0 a0 (by omega), u64_id h2 b2.1 (by omega), u64_id h3 b3.1 (by omega), u64_id h4 b4.1 (by omega), u64_id h5 b5.1 (by omega), u64_id h6 b6.1 (by omega)]
  have e1 : Int.toNat 1 = 1 := rfl
  have e2 : Int.toNat 2 = 2 := rfl
  have e4 : Int.toNat 4 = 4 := rfl
  have e8 : Int.toNat 8 = 8 := rfl
  have em : (ByteArray.mk #[67, 87, 77, 49]).size = 4 := rfl
  rw [e1, e2, e4, e8]
  simp only [ByteArray.size_append, beSize, em]
  refine ⟨⟨⟨a0, by omega⟩, by decide, by decide⟩, by decide, ⟨⟨a2, a3⟩, by decide, by decide⟩, by decide, ⟨⟨b2.1, by omega⟩, by decide, by decide⟩, by decide, ⟨⟨b3.1, by omega⟩, by decide, by decide⟩, by decide,
    ⟨⟨b4.1, by omega⟩, by decide, by decide⟩, by decide, ⟨⟨b5.1, by omega⟩, by decide, by decide⟩, by decide, ⟨⟨b6.1, by omega⟩, by decide, by decide⟩, by decide, ?_⟩
  rw [hdr_text]; exact hk
end Go.Ab.T

