import Derived.Test.YthfagophoncabaaGreatDoorHeader
import Derived.Test.YthfagophoncabaaGreatDoorPut
import Derived.Test.YthfagophoncabaaGreatDoorRef01T
import Derived.Test.YthfagophoncabaaGreatDoorMaB
set_option linter.unusedVariables false
set_option linter.unusedSimpArgs false
set_option linter.unusedSectionVars false
namespace Go.Ab.T
open Go Go.Ab Go.Proofs
variable [DMode]
set_option maxRecDepth 100000
set_option maxHeartbeats 4000000
noncomputable def HP0 := base (fun _ => none) (fun g => match g with | 111 => some newS | 110 => some atS | 109 => some inS | 94 => some boundsS | 95 => some fineS | _ => none) (fun _ => none)
theorem env_HP0 : EnvOk HP0 := env_of (by
 intro g F h
 split at h
 ·cases h; exact ok_New
 ·cases h; exact ok_At
 ·cases h; exact ok_In
 ·cases h; exact ok_bounds
 ·cases h; exact ok_fine
 ·cases h) (fun g F h => (by cases h)) (fun g F h => (by cases h))
def hRightS : SpecS := fun ys Φ => match ys with
 | [.agg [.int .u32 h0, .int .u64 h1, .int .i64 h2, .int .i64 h3, .int .i64 h4, .int .i64 h5, .int .i64 h6]] => Φ [.err (hdrE h2 h3 h4 h5 h6)]
 | _ => False
theorem hRightS_mono : MonoS hRightS := by
 intro ys Φ Ψ h hF
 unfold hRightS at hF ⊢
 split at hF
 ·exact h _ hF
 ·exact hF.elim
theorem hRightS_inv {ys : List PV} {Φ : List PV -> Prop} (h : hRightS ys Φ) : ∃ (h0 : Int) (h1 : Int) (h2 : Int) (h3 : Int) (h4 : Int) (h5 : Int) (h6 : Int), ys = [.agg [.int .u32 h0, .int .u64 h1, .int .i64 h2, .int .i64 h3, .int .i64 h4, .int .i64 h5, .int .i64 h6]] /\ Φ [.err (hdrE h2 h3 h4 h5 h6)] := by
 unfold hRightS at h
 split at h
 ·exact ⟨_, _, _, _, _, _, _, rfl, h⟩
 ·exact h.elim
theorem fn_hRight : FnOk Tryz.prog 128 Tryz.f128 (bodyOf Tryz.f128) := ⟨by kernel_rfl, by kernel_rfl, by kernel_rfl⟩
noncomputable def ff_hRight : Fun := ⟨Tryz.f128.ntmps, 0, Tryz.f128.results.toList, fun i => match i with | 4 => some [17, 18] | _ => none, fun _ => false, fun _ => []⟩
theorem nf_hRight_a (A : KA Kd) (k : List PV -> Heap Kd -> Prop) (h0 h1 h2 h3 h4 h5 h6 : Int) : evT HP0 ff_hRight A k 400 false [.code (bodyOf Tryz.f128)] (startEnv 31 [.agg [.int .u32 h0, .int .u64 h1, .int .i64 h2, .int .i64 h3, .int .i64 h4, .int .i64 h5, .int .i64 h6]]) [] = (bif decide (h2 < 0) then k [.err (inE (1 : Int) (atE (0 : Int) (newE (18 : Int))))] []
else bif decide (h2 > (255 : Int)) then k [PV.err (inE (1 : Int) (atE (0 : Int) (newE (18 : Int))))] [] else A (td Tryz.f128 (4 : Nat)) (envAt (31 : Nat) [((17 : Nat), PV.agg [PV.int IntKind.i64 h3, PV.int IntKind.i64 (1 : Int), PV.int IntKind.i64 (32 : Int), PV.int IntKind.i64 h4, PV.int IntKind.i64 (1 : Int), PV.int IntKind.i64 (16 : Int), PV.int IntKind.i64 h5, PV.int IntKind.i64 (0 : Int), PV.int IntKind.i64 (240 : Int), PV.int IntKind.i64 h6, PV.int IntKind.i64 (0 : Int), PV.int IntKind.i64 (512 : Int)]), ((18 : Nat), PV.int IntKind.i64 (0 : Int))]) []) := by kernel_rfl
theorem nf_hRight_0 (A : KA Kd) (k : List PV -> Heap Kd -> Prop) (h3 h4 h5 h6 : Int) : evT HP0 ff_hRight A k 400 true (td Tryz.f128 4) (envAt 31 [(17, .agg [.int .i64 h3, .int .i64 1, .int .i64 32, .int .i64 h4, .int .i64 1, .int .i64 16, .int .i64 h5, .int .i64 0, .int .i64 240, .int .i64 h6, .int .i64 0, .int .i64 512]), (18, .int .i64 0)]) [] = (bif !(decide (h3 >= 1) && decide (h3 <= 32)) then k [.err (inE (1 : Int) (atE (IntKind.i64.wrap ((0 : Int) + (1 : Int))) (newE (8 : Int))))] []
else A (td Tryz.f128 (4 : Nat)) (envAt (31 : Nat) [((17 : Nat), PV.agg [PV.int IntKind.i64 h3, PV.int IntKind.i64 (1 : Int), PV.int IntKind.i64 (32 : Int), PV.int IntKind.i64 h4, PV.int IntKind.i64 (1 : Int), PV.int IntKind.i64 (16 : Int), PV.int IntKind.i64 h5, PV.int IntKind.i64 (0 : Int), PV.int IntKind.i64 (240 : Int), PV.int IntKind.i64 h6, PV.int IntKind.i64 (0 : Int), PV.int IntKind.i64 (512 : Int)]), ((18 : Nat), PV.int IntKind.i64 (IntKind.i64.wrap ((0 : Int) + (1 : Int))))]) []) := by kernel_rfl
theorem nf_hRight_1 (A : KA Kd) (k : List PV -> Heap Kd -> Prop) (h3 h4 h5 h6 : Int) : evT HP0 ff_hRight A k 400 true (td Tryz.f128 4) (envAt 31 [(17, .agg [.int .i64 h3, .int .i64 1, .int .i64 32, .int .i64 h4, .int .i64 1, .int .i64 16, .int .i64 h5, .int .i64 0, .int .i64 240, .int .i64 h6, .int .i64 0, .int .i64 512]), (18, .int .i64 1)]) [] = (bif !(decide (h4 >= 1) && decide (h4 <= 16)) then k [.err (inE (1 : Int) (atE (IntKind.i64.wrap ((1 : Int) + (1 : Int))) (newE (8 : Int))))] []
else A (td Tryz.f128 (4 : Nat)) (envAt (31 : Nat) [((17 : Nat), PV.agg [PV.int IntKind.i64 h3, PV.int IntKind.i64 (1 : Int), PV.int IntKind.i64 (32 : Int), PV.int IntKind.i64 h4, PV.int IntKind.i64 (1 : Int), PV.int IntKind.i64 (16 : Int), PV.int IntKind.i64 h5, PV.int IntKind.i64 (0 : Int), PV.int IntKind.i64 (240 : Int), PV.int IntKind.i64 h6, PV.int IntKind.i64 (0 : Int), PV.int IntKind.i64 (512 : Int)]), ((18 : Nat), PV.int IntKind.i64 (IntKind.i64.wrap ((1 : Int) + (1 : Int))))]) []) := by kernel_rfl
theorem nf_hRight_2 (A : KA Kd) (k : List PV -> Heap Kd -> Prop) (h3 h4 h5 h6 : Int) : evT HP0 ff_hRight A k 400 true (td Tryz.f128 4) (envAt 31 [(17, .agg [.int .i64 h3, .int .i64 1, .int .i64 32, .int .i64 h4, .int .i64 1, .int .i64 16, .int .i64 h5, .int .i64 0, .int .i64 240, .int .i64 h6, .int .i64 0, .int .i64 512]), (18, .int .i64 2)]) [] = (bif !(decide (h5 >= 0) && decide (h5 <= 240)) then k [.err (inE (1 : Int) (atE (IntKind.i64.wrap ((2 : Int) + (1 : Int))) (newE (8 : Int))))] []
else A (td Tryz.f128 (4 : Nat)) (envAt (31 : Nat) [((17 : Nat), PV.agg [PV.int IntKind.i64 h3, PV.int IntKind.i64 (1 : Int), PV.int IntKind.i64 (32 : Int), PV.int IntKind.i64 h4, PV.int IntKind.i64 (1 : Int), PV.int IntKind.i64 (16 : Int), PV.int IntKind.i64 h5, PV.int IntKind.i64 (0 : Int), PV.int IntKind.i64 (240 : Int), PV.int IntKind.i64 h6, PV.int IntKind.i64 (0 : Int), PV.int IntKind.i64 (512 : Int)]), ((18 : Nat), PV.int IntKind.i64 (IntKind.i64.wrap ((2 : Int) + (1 : Int))))]) []) := by kernel_rfl
theorem nf_hRight_3 (A : KA Kd) (k : List PV -> Heap Kd -> Prop) (h3 h4 h5 h6 : Int) : evT HP0 ff_hRight A k 400 true (td Tryz.f128 4) (envAt 31 [(17, .agg [.int .i64 h3, .int .i64 1, .int .i64 32, .int .i64 h4, .int .i64 1, .int .i64 16, .int .i64 h5, .int .i64 0, .int .i64 240, .int .i64 h6, .int .i64 0, .int .i64 512]), (18, .int .i64 3)]) [] = (bif !(decide (h6 >= 0) && decide (h6 <= 512)) then k [.err (inE (1 : Int) (atE (IntKind.i64.wrap ((3 : Int) + (1 : Int))) (newE (8 : Int))))] []
else A (td Tryz.f128 (4 : Nat)) (envAt (31 : Nat) [((17 : Nat), PV.agg [PV.int IntKind.i64 h3, PV.int IntKind.i64 (1 : Int), PV.int IntKind.i64 (32 : Int), PV.int IntKind.i64 h4, PV.int IntKind.i64 (1 : Int), PV.int IntKind.i64 (16 : Int), PV.int IntKind.i64 h5, PV.int IntKind.i64 (0 : Int), PV.int IntKind.i64 (240 : Int), PV.int IntKind.i64 h6, PV.int IntKind.i64 (0 : Int), PV.int IntKind.i64 (512 : Int)]), ((18 : Nat), PV.int IntKind.i64 (IntKind.i64.wrap ((3 : Int) + (1 : Int))))]) []) := by kernel_rfl
theorem nf_hRight_4 (A : KA Kd) (k : List PV -> Heap Kd -> Prop) (h3 h4 h5 h6 : Int) : evT HP0 ff_hRight A k 400 true (td Tryz.f128 4) (envAt 31 [(17, .agg [.int .i64 h3, .int .i64 1, .int .i64 32, .int .i64 h4, .int .i64 1, .int .i64 16, .int .i64 h5, .int .i64 0, .int .i64 240, .int .i64 h6, .int .i64 0, .int .i64 512]), (18, .int .i64 4)]) [] = (k [.err Err.nil] []) := by kernel_rfl
theorem ok_hRight : FunS B 128 hRightS := by
 refine funS_of (N := 31) (f := ff_hRight) env_HP0 mixed fn_hRight (by kernel_rfl) (by kernel_rfl) (by kernel_rfl) hRightS_mono ?_
 intro A k ys hA hF
 obtain ⟨h0, h1, h2, h3, h4, h5, h6, rfl, hk⟩ := hRightS_inv hF; clear hF
 refine ⟨by kernel_rfl, (hA.nf (nf_hRight_a A k h0 h1 h2 h3 h4 h5 h6) ?_)⟩
 unfold hdrE at hk
 cases c1 : decide (h2 < 0) with
 | true => rw [c1] at hk; exact hk
 | false =>
 rw [c1, Bool.false_or] at hk
 cases c2 : decide (h2 > 255) with
 | true => rw [c2] at hk; exact hk
 | false =>
 rw [c2] at hk
 have w1 : IntKind.i64.wrap ((0 : Int) + 1) = 1 := by decide
 have w2 : IntKind.i64.wrap ((1 : Int) + 1) = 2 := by decide
 have w3 : IntKind.i64.wrap ((2 : Int) + 1) = 3 := by decide
 have w4 : IntKind.i64.wrap ((3 : Int) + 1) = 4 := by decide
 refine (hA.nf (nf_hRight_0 A k h3 h4 h5 h6) ?_)
 rw [<- fineQ_1', w1]
 cases c3 : fineQ 1 h3 with
 | false => rw [c3] at hk; exact hk
 | true =>
 rw [c3] at hk
 refine (hA.nf (nf_hRight_1 A k h3 h4 h5 h6) ?_)
 rw [<- fineQ_2', w2]
 cases c4 : fineQ 2 h4 with
 | false => rw [c4] at hk; exact hk
 | true =>
 rw [c4] at hk
 refine (hA.nf (nf_hRight_2 A k h3 h4 h5 h6) ?_)
 rw [<- fineQ_3', w3]
 cases c5 : fineQ 3 h5 with
 | false => rw [c5] at hk; exact hk
 | true =>
 rw [c5] at hk
 refine (hA.nf (nf_hRight_3 A k h3 h4 h5 h6) ?_)
 rw [<- fineQ_4', w4]
 cases c6 : fineQ 4 h6 with
 | false => rw [c6] at hk; exact hk
 | true =>
 rw [c6] at hk
 exact (hA.nf (nf_hRight_4 A k h3 h4 h5 h6) hk)
def fineRS : SpecS := fun ys Φ => match ys with
 | [.int .i64 i, .int .i64 n] => (0 <= i /\ i < 5) /\ Φ [.bool (fineQ i n)]
 | _ => False
theorem fineRS_mono : MonoS fineRS := by
 intro ys Φ Ψ h hF
 unfold fineRS at hF ⊢
 split at hF
 ·obtain ⟨hp, hk⟩ := hF; exact ⟨hp, h _ hk⟩
 ·exact hF.elim
theorem fineRS_inv {ys : List PV} {Φ : List PV -> Prop} (h : fineRS ys Φ) : ∃ (i : Int) (n : Int), ys = [.int .i64 i, .int .i64 n] /\ (0 <= i /\ i < 5) /\ Φ [.bool (fineQ i n)] := by
 unfold fineRS at h
 split at h
 ·exact ⟨_, _, rfl, h⟩
 ·exact h.elim
theorem fn_rFine : FnOk Tryz.prog 79 Tryz.f79 (bodyOf Tryz.f79) := ⟨by kernel_rfl, by kernel_rfl, by kernel_rfl⟩
noncomputable def ff_rFine : Fun := ⟨Tryz.f79.ntmps, 0, Tryz.f79.results.toList, fun _ => none, fun _ => false, fun _ => []⟩
theorem nf_rFine (A : KA Kd) (k : List PV -> Heap Kd -> Prop) (i n : Int) : evT HP0 ff_rFine A k 400 false [.code (bodyOf Tryz.f79)] (startEnv 25 [.int .i64 i, .int .i64 n]) [] = (∃ (zs : List Int), List.map e_int zs = [PV.int IntKind.i64 0, PV.int IntKind.i64 32, PV.int IntKind.i64 16, PV.int IntKind.i64 240, PV.int IntKind.i64 512] /\ (0 <= i /\ i < (↑zs.length : Int)) /\ ∀ (y : Int), zs[i.toNat]? = some y -> bif decide (n <= y) then bif decide (n >= 1) then k [.bool true] [] else bif decide (i >= 3) then k [.bool (n == 0)] [] else k [.bool false] [] else k [.bool false] []) := by kernel_rfl
theorem ok_rFine : FunS B 79 fineRS := by
 refine funS_of (N := 25) (f := ff_rFine) env_HP0 mixed fn_rFine (by kernel_rfl) (by kernel_rfl) (by kernel_rfl) fineRS_mono ?_
 intro A k ys hA hF
 obtain ⟨i, n, rfl, ⟨h0, h1⟩, hk⟩ := fineRS_inv hF; clear hF
 refine ⟨by kernel_rfl, (hA.nf (nf_rFine A k i n) ?_)⟩
 refine ⟨[0, 32, 16, 240, 512], rfl, ⟨h0, h1⟩, fun y hy => ?_⟩
 obtain rfl : y = mostQ i := mostQ_get h0 h1 hy
 unfold fineQ at hk
 cases c1 : decide (n <= mostQ i) with
 | false => rw [c1] at hk; exact hk
 | true =>
  rw [c1] at hk
  cases c2 : decide (n >= 1) with
  | true => rw [c2] at hk; exact hk
  | false =>
   rw [c2] at hk
   cases c3 : decide (i >= 3) with
   | true => rw [c3] at hk; exact hk
   | false => rw [c3] at hk; exact hk
noncomputable def HP1 := base (fun g => match g with | 117 => some (lift 0 cloneS) | 49 => some (ownArg (lift 0 putS)) | _ => none) (fun g => match g with | 31 => some r01TS | 128 => some hRightS | 79 => some fineRS | _ => none) (fun _ => none)
theorem env_HP1 : EnvOk HP1 := env_of (by
 intro g F h
 split at h
 ·cases h; exact ok_r01T
 ·cases h; exact ok_hRight
 ·cases h; exact ok_rFine
 ·cases h) (by
 intro g F h
 split at h
 ·cases h; exact (lift_ok ok_clone)
 ·cases h; exact (ownArg_ok (lift_ok ok_put))
 ·cases h) (fun g F h => (by cases h))
def rRightS : SpecS := fun ys Φ => match ys with
 | [.agg [.int .u32 h0, .int .u64 h1, .int .i64 h2, .int .i64 h3, .int .i64 h4, .int .i64 h5, .int .i64 h6]] => Φ [.agg [.int .i64 (ofE (hdrE h2 h3 h4 h5 h6)).1, .int .i64 (ofE (hdrE h2 h3 h4 h5 h6)).2.1, .int .i64 (ofE (hdrE h2 h3 h4 h5 h6)).2.2]]
 | _ => False
theorem rRightS_mono : MonoS rRightS := by
 intro ys Φ Ψ h hF
 unfold rRightS at hF ⊢
 split at hF
 ·exact h _ hF
 ·exact hF.elim
theorem rRightS_inv {ys : List PV} {Φ : List PV -> Prop} (h : rRightS ys Φ) : ∃ (h0 : Int) (h1 : Int) (h2 : Int) (h3 : Int) (h4 : Int) (h5 : Int) (h6 : Int), ys = [.agg [.int .u32 h0, .int .u64 h1, .int .i64 h2, .int .i64 h3, .int .i64 h4, .int .i64 h5, .int .i64 h6]] /\ Φ [.agg [.int .i64 (ofE (hdrE h2 h3 h4 h5 h6)).1, .int .i64 (ofE (hdrE h2 h3 h4 h5 h6)).2.1, .int .i64 (ofE (hdrE h2 h3 h4 h5 h6)).2.2]] := by
 unfold rRightS at h
 split at h
 ·exact ⟨_, _, _, _, _, _, _, rfl, h⟩
 ·exact h.elim
theorem fn_rRight7 : FnOk Tryz.prog 20 Tryz.f20 (bodyOf Tryz.f20) := ⟨by kernel_rfl, by kernel_rfl, by kernel_rfl⟩
noncomputable def ff_rRight7 : Fun := ⟨Tryz.f20.ntmps, 0, Tryz.f20.results.toList, fun i => match i with | 5 => some [2, 3, 4] | _ => none, fun _ => false, fun _ => []⟩
theorem nf_rRight7_a (A : KA Kd) (k : List PV -> Heap Kd -> Prop) (h0 h1 h2 h3 h4 h5 h6 : Int) : evT HP1 ff_rRight7 A k 400 false [.code (bodyOf Tryz.f20)] (startEnv 37 [.agg [.int .u32 h0, .int .u64 h1, .int .i64 h2, .int .i64 h3, .int .i64 h4, .int .i64 h5, .int .i64 h6]]) [] = (bif decide (h2 < 0) then k [.agg [.int .i64 18, .int .i64 1, .int .i64 0]] []
else bif decide (h2 > (255 : Int)) then k [PV.agg [PV.int IntKind.i64 (18 : Int), PV.int IntKind.i64 (1 : Int), PV.int IntKind.i64 (0 : Int)]] [] else ∃ (zs : List Int), List.map e_int zs = [PV.int IntKind.i64 (0 : Int), PV.int IntKind.i64 h3, PV.int IntKind.i64 h4, PV.int IntKind.i64 h5, PV.int IntKind.i64 h6] /\ A (td Tryz.f20 (5 : Nat)) (envAt (37 : Nat) [((2 : Nat), PV.ptr (0 : Nat) (0 : Nat)), ((3 : Nat), PV.own (1 : Nat)), ((4 : Nat), PV.int IntKind.i64 (1 : Int))]) [AObj.box [PV.int IntKind.i64 (0 : Int), PV.int IntKind.i64 (0 : Int), PV.int IntKind.i64 (0 : Int)], AObj.row (3 : Nat) zs]) := by kernel_rfl
theorem nf_rRight7_b (A : KA Kd) (k : List PV -> Heap Kd -> Prop) (i : Int) (l : List Int) : evT HP1 ff_rRight7 A k 400 true (td Tryz.f20 5) (envAt 37 [(2, .ptr 0 0), (3, .own 1), (4, .int .i64 i)]) [.box [.int .i64 0, .int .i64 0, .int .i64 0], .row 3 l] = (bif decide (i <= 4) then (0 <= i /\ i < (↑l.length : Int)) /\ ∀ (y : Int), l[i.toNat]? = some y -> (0 <= i /\ i < 5) /\ bif !fineQ i y then k [.agg [.int .i64 8, .int .i64 1, .int .i64 i]] [] else A (td Tryz.f20 5) (envAt 37 [(2, .ptr 0 0), (3, .own 1), (4, .int .i64 (IntKind.i64.wrap (i + 1)))]) [.box [.int .i64 0, .int .i64 0, .int .i64 0], .row 3 l]
else k [PV.agg [PV.int IntKind.i64 (0 : Int), PV.int IntKind.i64 (0 : Int), PV.int IntKind.i64 (0 : Int)]] []) := by kernel_rfl
theorem ok_rRight7 : FunS B 20 rRightS := by
 refine funS_of (N := 37) (f := ff_rRight7) env_HP1 mixed fn_rRight7 (by kernel_rfl) (by kernel_rfl) (by kernel_rfl) rRightS_mono ?_
 intro A k ys hA hF
 obtain ⟨h0, h1, h2, h3, h4, h5, h6, rfl, hk⟩ := rRightS_inv hF; clear hF
 refine ⟨by kernel_rfl, (hA.nf (nf_rRight7_a A k h0 h1 h2 h3 h4 h5 h6) ?_)⟩
 unfold hdrE at hk
 cases c1 : decide (h2 < 0) with
 | true => rw [c1] at hk; exact hk
 | false =>
 rw [c1, Bool.false_or] at hk
 cases c2 : decide (h2 > 255) with
 | true => rw [c2] at hk; exact hk
 | false =>
 rw [c2] at hk
 have w1 : IntKind.i64.wrap ((1 : Int) + 1) = 2 := by decide
 have w2 : IntKind.i64.wrap ((2 : Int) + 1) = 3 := by decide
 have w3 : IntKind.i64.wrap ((3 : Int) + 1) = 4 := by decide
 have w4 : IntKind.i64.wrap ((4 : Int) + 1) = 5 := by decide
 refine ⟨[0, h3, h4, h5, h6], rfl, ?_⟩
 refine (hA.nf (nf_rRight7_b A k 1 [0, h3, h4, h5, h6]) ?_)
 refine ⟨⟨by decide, by show (1 : Int) < 5; decide⟩, fun y hy => ⟨by decide, ?_⟩⟩
 cases hy
 rw [w1]
 cases c3 : fineQ 1 h3 with
 | false => rw [c3] at hk; exact hk
 | true =>
 rw [c3] at hk
 refine (hA.nf (nf_rRight7_b A k 2 [0, h3, h4, h5, h6]) ?_)
 refine ⟨⟨by decide, by show (2 : Int) < 5; decide⟩, fun y hy => ⟨by decide, ?_⟩⟩
 cases hy
 rw [w2]
 cases c4 : fineQ 2 h4 with
 | false => rw [c4] at hk; exact hk
 | true =>
 rw [c4] at hk
 refine (hA.nf (nf_rRight7_b A k 3 [0, h3, h4, h5, h6]) ?_)
 refine ⟨⟨by decide, by show (3 : Int) < 5; decide⟩, fun y hy => ⟨by decide, ?_⟩⟩
 cases hy
 rw [w3]
 cases c5 : fineQ 3 h5 with
 | false => rw [c5] at hk; exact hk
 | true =>
 rw [c5] at hk
 refine (hA.nf (nf_rRight7_b A k 4 [0, h3, h4, h5, h6]) ?_)
 refine ⟨⟨by decide, by show (4 : Int) < 5; decide⟩, fun y hy => ⟨by decide, ?_⟩⟩
 cases hy
 rw [w4]
 cases c6 : fineQ 4 h6 with
 | false => rw [c6] at hk; exact hk
 | true =>
 rw [c6] at hk
 exact (hA.nf (nf_rRight7_b A k 5 [0, h3, h4, h5, h6]) hk)
def rText7S : SpecS := fun ys Φ => match ys with
 | [.agg [.int .u32 h0, .int .u64 h1, .int .i64 h2, .int .i64 h3, .int .i64 h4, .int .i64 h5, .int .i64 h6]] => (hdrOk h0 h1 h2 h3 h4 h5 h6) /\ Φ [.str ⟨(hdrL h0 h1 h2 h3 h4 h5 h6).toArray⟩]
 | _ => False
theorem rText7S_mono : MonoS rText7S := by
 intro ys Φ Ψ h hF
 unfold rText7S at hF ⊢
 split at hF
 ·obtain ⟨hp, hk⟩ := hF; exact ⟨hp, h _ hk⟩
 ·exact hF.elim
theorem rText7S_inv {ys : List PV} {Φ : List PV -> Prop} (h : rText7S ys Φ) : ∃ (h0 : Int) (h1 : Int) (h2 : Int) (h3 : Int) (h4 : Int) (h5 : Int) (h6 : Int), ys = [.agg [.int .u32 h0, .int .u64 h1, .int .i64 h2, .int .i64 h3, .int .i64 h4, .int .i64 h5, .int .i64 h6]] /\ (hdrOk h0 h1 h2 h3 h4 h5 h6) /\ Φ [.str ⟨(hdrL h0 h1 h2 h3 h4 h5 h6).toArray⟩] := by
 unfold rText7S at h
 split at h
 ·exact ⟨_, _, _, _, _, _, _, rfl, h⟩
 ·exact h.elim
theorem fn_rText7 : FnOk Tryz.prog 30 Tryz.f30 (bodyOf Tryz.f30) := ⟨by kernel_rfl, by kernel_rfl, by kernel_rfl⟩
noncomputable def ff_rText7 : Fun := ⟨Tryz.f30.ntmps, 0, Tryz.f30.results.toList, fun _ => none, fun _ => false, fun _ => []⟩
theorem nf_rText7 (A : KA Kd) (k : List PV -> Heap Kd -> Prop) (h0 h1 h2 h3 h4 h5 h6 : Int) : evT HP1 ff_rText7 A k 400 false [.code (bodyOf Tryz.f30)] (startEnv 37 [.agg [.int .u32 h0, .int .u64 h1, .int .i64 h2, .int .i64 h3, .int .i64 h4, .int .i64 h5, .int .i64 h6]]) [] = (((0 <= IntKind.u64.wrap h0 /\ IntKind.u64.wrap h0 < 18446744073709551616) /\ (0 : Int) <= (4 : Int) /\ (4 : Int) <= (100 : Int)) /\ (ByteArray.mk #[(67 : UInt8), (87 : UInt8), (77 : UInt8), (49 : UInt8)]).size + (ByteArray.mk (beL (Int.toNat (4 : Int)) (IntKind.u64.wrap h0).toNat).toArray).size <= 9223372036854775807 /\ ((0 <= h1 /\ h1 < 18446744073709551616) /\ (0 : Int) <= (8 : Int) /\ (8 : Int) <= (100 : Int)) /\ (ByteArray.mk #[(67 : UInt8), (87 : UInt8), (77 : UInt8), (49 : UInt8)] ++ ByteArray.mk (beL (Int.toNat (4 : Int)) (IntKind.u64.wrap h0).toNat).toArray).size + (ByteArray.mk (beL (Int.toNat (8 : Int)) h1.toNat).toArray).size <= 9223372036854775807 /\ ((0 <= IntKind.u64.wrap h2 /\ IntKind.u64.wrap h2 < 18446744073709551616) /\ (0 : Int) <= (1 : Int) /\ (1 : Int) <= (100 : Int)) /\ (ByteArray.mk #[(67 : UInt8), (87 : UInt8), (77 : UInt8), (49 : UInt8)] ++ ByteArray.mk (beL (Int.toNat (4 : Int)) (IntKind.u64.wrap h0).toNat).toArray ++ ByteArray.mk (beL (Int.toNat (8 : Int)) h1.toNat).toArray).size + (ByteArray.mk (beL (Int.toNat (1 : Int)) (IntKind.u64.wrap h2).toNat).toArray).size <= 9223372036854775807 /\ ((0 <= IntKind.u64.wrap h3 /\ IntKind.u64.wrap h3 < 18446744073709551616) /\ (0 : Int) <= (1 : Int) /\ (1 : Int) <= (100 : Int)) /\ (ByteArray.mk #[(67 : UInt8), (87 : UInt8), (77 : UInt8), (49 : UInt8)] ++ ByteArray.mk (beL (Int.toNat (4 : Int)) (IntKind.u64.wrap h0).toNat).toArray ++ ByteArray.mk (beL (Int.toNat (8 : Int)) h1.toNat).toArray ++ ByteArray.mk (beL (Int.toNat (1 : Int)) (IntKind.u64.wrap h2).toNat).toArray).size + (ByteArray.mk (beL (Int.toNat (1 : Int)) (IntKind.u64.wrap h3).toNat).toArray).size <= 9223372036854775807 /\ ((0 <= IntKind.u64.wrap h4 /\ IntKind.u64.wrap h4 < 18446744073709551616) /\ (0 : Int) <= (1 : Int) /\ (1 : Int) <= (100 : Int)) /\ (ByteArray.mk #[(67 : UInt8), (87 : UInt8), (77 : UInt8), (49 : UInt8)] ++ ByteArray.mk (beL (Int.toNat (4 : Int)) (IntKind.u64.wrap h0).toNat).toArray ++ ByteArray.mk (beL (Int.toNat (8 : Int)) h1.toNat).toArray ++ ByteArray.mk (beL (Int.toNat (1 : Int)) (IntKind.u64.wrap h2).toNat).toArray ++ ByteArray.mk (beL (Int.toNat (1 : Int)) (IntKind.u64.wrap h3).toNat).toArray).size + (ByteArray.mk (beL (Int.toNat (1 : Int)) (IntKind.u64.wrap h4).toNat).toArray).size <= 9223372036854775807 /\ ((0 <= IntKind.u64.wrap h5 /\ IntKind.u64.wrap h5 < 18446744073709551616) /\ (0 : Int) <= (2 : Int) /\ (2 : Int) <= (100 : Int)) /\ (ByteArray.mk #[(67 : UInt8), (87 : UInt8), (77 : UInt8), (49 : UInt8)] ++ ByteArray.mk (beL (Int.toNat (4 : Int)) (IntKind.u64.wrap h0).toNat).toArray ++ ByteArray.mk (beL (Int.toNat (8 : Int)) h1.toNat).toArray ++ ByteArray.mk (beL (Int.toNat (1 : Int)) (IntKind.u64.wrap h2).toNat).toArray ++ ByteArray.mk (beL (Int.toNat (1 : Int)) (IntKind.u64.wrap h3).toNat).toArray ++ ByteArray.mk (beL (Int.toNat (1 : Int)) (IntKind.u64.wrap h4).toNat).toArray).size + (ByteArray.mk (beL (Int.toNat (2 : Int)) (IntKind.u64.wrap h5).toNat).toArray).size <= 9223372036854775807 /\ ((0 <= IntKind.u64.wrap h6 /\ IntKind.u64.wrap h6 < 18446744073709551616) /\ (0 : Int) <= (2 : Int) /\ (2 : Int) <= (100 : Int)) /\ (ByteArray.mk #[(67 : UInt8), (87 : UInt8), (77 : UInt8), (49 : UInt8)] ++ ByteArray.mk (beL (Int.toNat (4 : Int)) (IntKind.u64.wrap h0).toNat).toArray ++ ByteArray.mk (beL (Int.toNat (8 : Int)) h1.toNat).toArray ++ ByteArray.mk (beL (Int.toNat (1 : Int)) (IntKind.u64.wrap h2).toNat).toArray ++ ByteArray.mk (beL (Int.toNat (1 : Int)) (IntKind.u64.wrap h3).toNat).toArray ++ ByteArray.mk (beL (Int.toNat (1 : Int)) (IntKind.u64.wrap h4).toNat).toArray ++ ByteArray.mk (beL (Int.toNat (2 : Int)) (IntKind.u64.wrap h5).toNat).toArray).size + (ByteArray.mk (beL (Int.toNat (2 : Int)) (IntKind.u64.wrap h6).toNat).toArray).size <= 9223372036854775807 /\ k [.str (ByteArray.mk #[(67 : UInt8), (87 : UInt8), (77 : UInt8), (49 : UInt8)] ++ ByteArray.mk (beL (Int.toNat (4 : Int)) (IntKind.u64.wrap h0).toNat).toArray ++ ByteArray.mk (beL (Int.toNat (8 : Int)) h1.toNat).toArray ++ ByteArray.mk (beL (Int.toNat (1 : Int)) (IntKind.u64.wrap h2).toNat).toArray ++ ByteArray.mk (beL (Int.toNat (1 : Int)) (IntKind.u64.wrap h3).toNat).toArray ++ ByteArray.mk (beL (Int.toNat (1 : Int)) (IntKind.u64.wrap h4).toNat).toArray ++ ByteArray.mk (beL (Int.toNat (2 : Int)) (IntKind.u64.wrap h5).toNat).toArray ++ ByteArray.mk (beL (Int.toNat (2 : Int)) (IntKind.u64.wrap h6).toNat).toArray)] []) := by kernel_rfl
theorem ok_rText7 : FunS B 30 rText7S := by
 refine funS_of (N := 37) (f := ff_rText7) env_HP1 mixed fn_rText7 (by kernel_rfl) (by kernel_rfl) (by kernel_rfl) rText7S_mono ?_
 intro A k ys hA hF
 obtain ⟨h0, h1, h2, h3, h4, h5, h6, rfl, hok, hk⟩ := rText7S_inv hF; clear hF
 refine ⟨by kernel_rfl, (hA.nf (nf_rText7 A k h0 h1 h2 h3 h4 h5 h6) ?_)⟩
 obtain ⟨⟨a0, a1, a2, a3⟩, b2, b3, b4, b5, b6⟩ := hdrOk_bounds hok
 rw [u64_id h0 a0 (by omega), u64_id h2 b2.1 (by omega), u64_id h3 b3.1 (by omega), u64_id h4 b4.1 (by omega), u64_id h5 b5.1 (by omega), u64_id h6 b6.1 (by omega)]
 have e1 : Int.toNat 1 = 1 := rfl
 have e2 : Int.toNat 2 = 2 := rfl
 have e4 : Int.toNat 4 = 4 := rfl
 have e8 : Int.toNat 8 = 8 := rfl
 have em : (ByteArray.mk #[67, 87, 77, 49]).size = 4 := rfl
 rw [e1, e2, e4, e8]
 simp only [ByteArray.size_append, beSize, em]
 refine ⟨⟨⟨a0, by omega⟩, by decide, by decide⟩, by decide, ⟨⟨a2, a3⟩, by decide, by decide⟩, by decide, ⟨⟨b2.1, by omega⟩, by decide, by decide⟩, by decide, ⟨⟨b3.1, by omega⟩, by decide, by decide⟩, by decide,
  ⟨⟨b4.1, by omega⟩, by decide, by decide⟩, by decide, ⟨⟨b5.1, by omega⟩, by decide, by decide⟩, by decide, ⟨⟨b6.1, by omega⟩, by decide, by decide⟩, by decide, ?_⟩
 rw [hdr_text]; exact hk
def hPutS : List PV -> Heap Kd -> (List PV -> Heap Kd -> Prop) -> Prop := fun ys L k => match ys, L with
 | [x_0, .agg [.int .u32 h0, .int .u64 h1, .int .i64 h2, .int .i64 h3, .int .i64 h4, .int .i64 h5, .int .i64 h6]], [] => ∃ (l : List UInt8), x_0 = .sl _ e_uint8 l /\ ((0 <= h0 /\ h0 < 4294967296 /\ 0 <= h1 /\ h1 < 18446744073709551616) /\ l.length < 10000000) /\ k [.own 0, .err (hdrE h2 h3 h4 h5 h6)] [.row 5 (bif (hdrE h2 h3 h4 h5 h6).isNil then l ++ hdrL h0 h1 h2 h3 h4 h5 h6 else l)]
 | _, _ => False
theorem hPutS_inv {ys : List PV} {L : Heap Kd} {k : List PV -> Heap Kd -> Prop} (h : hPutS ys L k) : ∃ (l : List UInt8) (h0 : Int) (h1 : Int) (h2 : Int) (h3 : Int) (h4 : Int) (h5 : Int) (h6 : Int), ys = [.sl _ e_uint8 l, .agg [.int .u32 h0, .int .u64 h1, .int .i64 h2, .int .i64 h3, .int .i64 h4, .int .i64 h5, .int .i64 h6]] /\ L = [] /\ ((0 <= h0 /\ h0 < 4294967296 /\ 0 <= h1 /\ h1 < 18446744073709551616) /\ l.length < 10000000) /\ k [.own 0, .err (hdrE h2 h3 h4 h5 h6)] [.row 5 (bif (hdrE h2 h3 h4 h5 h6).isNil then l ++ hdrL h0 h1 h2 h3 h4 h5 h6 else l)] := by
 unfold hPutS at h
 split at h
 ·obtain ⟨a0, q0, hz⟩ := h
  subst q0
  exact ⟨a0, _, _, _, _, _, _, _, rfl, rfl, hz⟩
 ·exact h.elim
theorem fn_hPut : FnOk Tryz.prog 59 Tryz.f59 (bodyOf Tryz.f59) := ⟨by kernel_rfl, by kernel_rfl, by kernel_rfl⟩
noncomputable def ff_hPut : Fun := ⟨Tryz.f59.ntmps, 0, Tryz.f59.results.toList, fun i => match i with | 7 => some [6, 47, 48, 49] | _ => none, fun _ => false, fun _ => []⟩
theorem nf_hPut_a (A : KA Kd) (k : List PV -> Heap Kd -> Prop) (l : List UInt8) (h0 h1 h2 h3 h4 h5 h6 : Int) : evT HP1 ff_hPut A k 400 false [.code (bodyOf Tryz.f59)] (startEnv 64 [.sl _ e_uint8 l, .agg [.int .u32 h0, .int .u64 h1, .int .i64 h2, .int .i64 h3, .int .i64 h4, .int .i64 h5, .int .i64 h6]]) [] = (∃ (l_1 : List UInt8), PV.sl UInt8 e_uint8 l = PV.sl UInt8 e_uint8 l_1 /\ l_1.length < 1099511627776 /\ bif !(hdrE h2 h3 h4 h5 h6).isNil then k [.own 0, .err (hdrE h2 h3 h4 h5 h6)] [.row 5 l_1] else ∃ (ys : List UInt8), List.map e_uint8 ys = [PV.int IntKind.u8 (↑(UInt8.toNat (67 : UInt8)) : Int), PV.int IntKind.u8 (↑(UInt8.toNat (87 : UInt8)) : Int), PV.int IntKind.u8 (↑(UInt8.toNat (77 : UInt8)) : Int), PV.int IntKind.u8 (↑(UInt8.toNat (49 : UInt8)) : Int)] /\ (l_1.length + ys.length) * (TInfo.mk (TD.int IntKind.u8) (1 : Nat) (1 : Nat) [PV.int IntKind.u8 0] false []).bytes <= 140737488355328 /\ ∃ (zs : List (Int × Int)), List.map e_struct_v_uint64_n_int_ zs = [PV.agg [PV.int IntKind.u64 (IntKind.u64.wrap h0), PV.int IntKind.i64 4], PV.agg [PV.int IntKind.u64 h1, PV.int IntKind.i64 8], PV.agg [PV.int IntKind.u64 (IntKind.u64.wrap h2), PV.int IntKind.i64 1], PV.agg [PV.int IntKind.u64 (IntKind.u64.wrap h3), PV.int IntKind.i64 1], PV.agg [PV.int IntKind.u64 (IntKind.u64.wrap h4), PV.int IntKind.i64 1], PV.agg [PV.int IntKind.u64 (IntKind.u64.wrap h5), PV.int IntKind.i64 2], PV.agg [PV.int IntKind.u64 (IntKind.u64.wrap h6), PV.int IntKind.i64 2]] /\ A (td Tryz.f59 7) (envAt 64 [(6, .own 0), (47, .own 1), (48, .int .i64 (↑zs.length : Int)), (49, .int .i64 0)]) [.row 5 (l_1 ++ ys), .row 213 zs]) := by kernel_rfl
theorem nf_hPut_b (A : KA Kd) (k : List PV -> Heap Kd -> Prop) (l : List UInt8) (zs : List (Int × Int)) (n i : Int) : evT HP1 ff_hPut A k 400 true (td Tryz.f59 7) (envAt 64 [(6, .own 0), (47, .own 1), (48, .int .i64 n), (49, .int .i64 i)]) [.row 5 l, .row 213 zs] = (bif decide (i < n) then (0 <= i /\ i < (↑zs.length : Int)) /\ ∀ (y : (Int × Int)), zs[i.toNat]? = some y -> ∃ (l_1 : List UInt8), PV.sl UInt8 e_uint8 l = PV.sl UInt8 e_uint8 l_1 /\ (0 <= y.fst /\ y.fst < 18446744073709551616 /\ l_1.length < 1099511627776) /\ A (td Tryz.f59 7) (envAt 64 [(6, .own 0), (47, .own 1), (48, .int .i64 n), (49, .int .i64 (IntKind.i64.wrap (i + 1)))]) [.row 5 (putV l_1 y.fst y.snd), .row 213 zs]
else k [PV.own (0 : Nat), PV.err Err.nil] [AObj.row (5 : Nat) l]) := by kernel_rfl
theorem hPut_loop (A : KA Kd) (k : List PV -> Heap Kd -> Prop) (hA : Closed HP1 ff_hPut k A) (zs : List (Int × Int)) (hz : zs.length < 1000) (hv : ∀ y, y ∈ zs -> 0 <= y.1 /\ y.1 < 18446744073709551616) :
 ∀ i, i <= zs.length -> ∀ l : List UInt8, l.length + 8 * (zs.length - i) < 1000000000 -> k [.own 0, .err .nil] [.row 5 (putAll l (zs.drop i))] ->
  A (td Tryz.f59 7) (envAt 64 [(6, .own 0), (47, .own 1), (48, .int .i64 (zs.length : Int)), (49, .int .i64 (i : Int))]) [.row 5 l, .row 213 zs] := by
 refine down_loop zs _ ?_ ?_
 ·intro l _ hk
  refine (hA.nf (nf_hPut_b A k l zs _ _) ?_)
  rw [ilt_false (Nat.lt_irrefl _)]
  rw [List.drop_length] at hk; exact hk
 ·intro i y hy ih l hl hk
  have hlt := lt_of_get hy
  refine (hA.nf (nf_hPut_b A k l zs _ _) ?_)
  rw [ilt_true hlt]
  rw [drop_cons' hy] at hk
  obtain ⟨v0, v1⟩ := hv y (List.mem_of_getElem? hy)
  refine get_at hy ⟨l, rfl, ⟨v0, v1, by omega⟩, ?_⟩
  rw [wrap_succ (by omega)]
  refine ih _ ?_ hk
  have := putV_len l y.1 y.2
  omega
theorem ok_hPut : FunF B 59 0 hPutS := by
 refine funF_of (N := 64) (f := ff_hPut) env_HP1 mixed fn_hPut (by kernel_rfl) (by kernel_rfl) ?_
 intro A k ys L hA hF
 obtain ⟨l, h0, h1, h2, h3, h4, h5, h6, rfl, rfl, ⟨⟨a0, a1, a2, a3⟩, hl⟩, hk⟩ := hPutS_inv hF; clear hF
 refine ⟨by kernel_rfl, (hA.nf (nf_hPut_a A k l h0 h1 h2 h3 h4 h5 h6) ?_)⟩
 refine ⟨l, rfl, by omega, ?_⟩
 cases hn : (hdrE h2 h3 h4 h5 h6).isNil with
 | false => rw [hn] at hk; exact hk
 | true =>
  rw [hn] at hk
  obtain ⟨_, b2, b3, b4, b5, b6⟩ := hdrOk_bounds ⟨⟨a0, a1, a2, a3⟩, hn⟩
  rw [u64_id h0 a0 (by omega), u64_id h2 b2.1 (by omega), u64_id h3 b3.1 (by omega), u64_id h4 b4.1 (by omega), u64_id h5 b5.1 (by omega), u64_id h6 b6.1 (by omega)]
  refine ⟨[67, 87, 77, 49], rfl, by show (l.length + 4) * 1 <= _; omega, [(h0, 4), (h1, 8), (h2, 1), (h3, 1), (h4, 1), (h5, 2), (h6, 2)], rfl, ?_⟩
  refine hPut_loop A k hA _ (by show 7 < 1000; decide) ?_ 0 (Nat.zero_le _) _ ?_ ?_
  ·intro y hy
   simp only [List.mem_cons, List.not_mem_nil, or_false] at hy
   rcases hy with rfl | rfl | rfl | rfl | rfl | rfl | rfl <;> exact ⟨by omega, by show _ < (18446744073709551616 : Int); omega⟩
  ·show (l ++ [67, 87, 77, 49]).length + 8 * (7 - 0) < _
   rw [List.length_append]; show l.length + 4 + _ < _; omega
  ·rw [isNil_eq hn] at hk
   rw [List.drop_zero, putAll_hdr a0 a1 a2 a3 b2 b3 b4 b5 b6]; exact hk
end Go.Ab.T
