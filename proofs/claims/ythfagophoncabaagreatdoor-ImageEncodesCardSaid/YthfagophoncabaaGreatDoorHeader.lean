import Derived.Test.YthfagophoncabaaGreatDoorReader
import Derived.Test.YthfagophoncabaaGreatDoorMaB
import Derived.Test.YthfagophoncabaaGreatDoorOp
set_option linter.unusedVariables false
set_option linter.unusedSimpArgs false
set_option linter.unusedSectionVars false
namespace Go.Ab.T
open Go Go.Ab Go.Proofs
variable [DMode]
set_option maxRecDepth 100000
set_option maxHeartbeats 4000000
noncomputable def H0 := base (fun _ => none) (fun _ => none) (fun _ => none)
theorem env_H0 : EnvOk H0 := env_of (fun g F h => (by cases h)) (fun g F h => (by cases h)) (fun g F h => (by cases h))
def boundsS : SpecS := fun ys Φ => match ys with
 | [.agg [.int .u32 h0, .int .u64 h1, .int .i64 h2, .int .i64 h3, .int .i64 h4, .int .i64 h5, .int .i64 h6]] => Φ [.agg [.int .i64 h3, .int .i64 1, .int .i64 32, .int .i64 h4, .int .i64 1, .int .i64 16, .int .i64 h5, .int .i64 0, .int .i64 240, .int .i64 h6, .int .i64 0, .int .i64 512]]
 | _ => False
theorem boundsS_mono : MonoS boundsS := by
 intro ys Φ Ψ h hF
 unfold boundsS at hF ⊢
 split at hF
 ·exact h _ hF
 ·exact hF.elim
theorem boundsS_inv {ys : List PV} {Φ : List PV -> Prop} (h : boundsS ys Φ) : ∃ (h0 : Int) (h1 : Int) (h2 : Int) (h3 : Int) (h4 : Int) (h5 : Int) (h6 : Int), ys = [.agg [.int .u32 h0, .int .u64 h1, .int .i64 h2, .int .i64 h3, .int .i64 h4, .int .i64 h5, .int .i64 h6]] /\ Φ [.agg [.int .i64 h3, .int .i64 1, .int .i64 32, .int .i64 h4, .int .i64 1, .int .i64 16, .int .i64 h5, .int .i64 0, .int .i64 240, .int .i64 h6, .int .i64 0, .int .i64 512]] := by
 unfold boundsS at h
 split at h
 ·exact ⟨_, _, _, _, _, _, _, rfl, h⟩
 ·exact h.elim
theorem fn_bounds : FnOk Tryz.prog 94 Tryz.f94 (bodyOf Tryz.f94) := ⟨by kernel_rfl, by kernel_rfl, by kernel_rfl⟩
noncomputable def ff_bounds : Fun := ⟨Tryz.f94.ntmps, 0, Tryz.f94.results.toList, fun _ => none, fun _ => false, fun _ => []⟩
theorem nf_bounds (A : KA Kd) (k : List PV -> Heap Kd -> Prop) (h0 h1 h2 h3 h4 h5 h6 : Int) : evT H0 ff_bounds A k 400 false [.code (bodyOf Tryz.f94)] (startEnv 16 [.agg [.int .u32 h0, .int .u64 h1, .int .i64 h2, .int .i64 h3, .int .i64 h4, .int .i64 h5, .int .i64 h6]]) [] = (k [.agg [.int .i64 h3, .int .i64 1, .int .i64 32, .int .i64 h4, .int .i64 1, .int .i64 16, .int .i64 h5, .int .i64 0, .int .i64 240, .int .i64 h6, .int .i64 0, .int .i64 512]] []) := by kernel_rfl
theorem ok_bounds : FunS B 94 boundsS := by
 refine funS_of (N := 16) (f := ff_bounds) env_H0 mixed fn_bounds (by kernel_rfl) (by kernel_rfl) (by kernel_rfl) boundsS_mono ?_
 intro A k ys hA hF
 obtain ⟨h0, h1, h2, h3, h4, h5, h6, rfl, hk⟩ := boundsS_inv hF; clear hF
 exact ⟨by kernel_rfl, (hA.nf (nf_bounds A k h0 h1 h2 h3 h4 h5 h6) hk)⟩
def fineS : SpecS := fun ys Φ => match ys with
 | [.agg [.int .i64 v, .int .i64 lo, .int .i64 hi]] => Φ [.bool (decide (v >= lo) && decide (v <= hi))]
 | _ => False
theorem fineS_mono : MonoS fineS := by
 intro ys Φ Ψ h hF
 unfold fineS at hF ⊢
 split at hF
 ·exact h _ hF
 ·exact hF.elim
theorem fineS_inv {ys : List PV} {Φ : List PV -> Prop} (h : fineS ys Φ) : ∃ (v : Int) (lo : Int) (hi : Int), ys = [.agg [.int .i64 v, .int .i64 lo, .int .i64 hi]] /\ Φ [.bool (decide (v >= lo) && decide (v <= hi))] := by
 unfold fineS at h
 split at h
 ·exact ⟨_, _, _, rfl, h⟩
 ·exact h.elim
theorem fn_fine : FnOk Tryz.prog 95 Tryz.f95 (bodyOf Tryz.f95) := ⟨by kernel_rfl, by kernel_rfl, by kernel_rfl⟩
noncomputable def ff_fine : Fun := ⟨Tryz.f95.ntmps, 0, Tryz.f95.results.toList, fun _ => none, fun _ => false, fun _ => []⟩
theorem nf_fine (A : KA Kd) (k : List PV -> Heap Kd -> Prop) (v lo hi : Int) : evT H0 ff_fine A k 400 false [.code (bodyOf Tryz.f95)] (startEnv 15 [.agg [.int .i64 v, .int .i64 lo, .int .i64 hi]]) [] = (bif decide (v >= lo) then k [.bool (decide (v <= hi))] [] else k [.bool false] []) := by kernel_rfl
theorem ok_fine : FunS B 95 fineS := by
 refine funS_of (N := 15) (f := ff_fine) env_H0 mixed fn_fine (by kernel_rfl) (by kernel_rfl) (by kernel_rfl) fineS_mono ?_
 intro A k ys hA hF
 obtain ⟨v, lo, hi, rfl, hk⟩ := fineS_inv hF; clear hF
 refine ⟨by kernel_rfl, (hA.nf (nf_fine A k v lo hi) ?_)⟩
 cases h1 : decide (v >= lo) with
 | true => rw [h1, Bool.true_and] at hk; exact hk
 | false => rw [h1, Bool.false_and] at hk; exact hk
noncomputable def H1 := base (fun g => match g with | 88 => some (lift 1 EnterS) | 89 => some (lift 1 NeedS) | 96 => some (lift 1 ErrS) | 90 => some (lift 1 U8S) | 93 => some (lift 1 U16S) | 91 => some (lift 1 U32S) | 92 => some (lift 1 U64S) | _ => none) (fun g => match g with | 43 => some PlaceS | 94 => some boundsS | 95 => some fineS | _ => none) (fun _ => none)
theorem env_H1 : EnvOk H1 := env_of (by
 intro g F h
 split at h
 ·cases h; exact ok_Place
 ·cases h; exact ok_bounds
 ·cases h; exact ok_fine
 ·cases h) (by
 intro g F h
 split at h
 ·cases h; exact (lift_ok ok_Enter)
 ·cases h; exact (lift_ok ok_Need)
 ·cases h; exact (lift_ok ok_rErr)
 ·cases h; exact (lift_ok ok_U8)
 ·cases h; exact (lift_ok ok_U16)
 ·cases h; exact (lift_ok ok_U32)
 ·cases h; exact (lift_ok ok_U64)
 ·cases h) (fun g F h => (by cases h))
def hReadS : List PV -> Heap Kd -> (List PV -> Heap Kd -> Prop) -> Prop := fun ys L k => match ys, L with
 | [.ptr 0 0], [.box [.str s, .int .i64 a, .int .i64 sec, .err e]] => (0 <= a /\ a <= (s.size : Int) /\ s.size < 4611686018427387904) /\ k [.agg [.int .u32 (hV s 4 (hx11 s (a, e)) (hx4 s (a, e))), .int .u64 (hV s 8 (hx11 s (a, e)) (hx5 s (a, e))), .int .i64 (hV s 1 (hx11 s (a, e)) (hx6 s (a, e))), .int .i64 (hV s 1 (hx11 s (a, e)) (hx7 s (a, e))), .int .i64 (hV s 1 (hx11 s (a, e)) (hx8 s (a, e))), .int .i64 (hV s 2 (hx11 s (a, e)) (hx9 s (a, e))), .int .i64 (hV s 2 (hx11 s (a, e)) (hx10 s (a, e)))], .err (hx11 s (a, e)).2] [.box [.str s, .int .i64 (hx11 s (a, e)).1, .int .i64 1, .err (hx11 s (a, e)).2]]
 | _, _ => False
theorem hReadS_inv {ys : List PV} {L : Heap Kd} {k : List PV -> Heap Kd -> Prop} (h : hReadS ys L k) : ∃ (s : ByteArray) (a : Int) (sec : Int) (e : Err), ys = [.ptr 0 0] /\ L = [.box [.str s, .int .i64 a, .int .i64 sec, .err e]] /\ (0 <= a /\ a <= (s.size : Int) /\ s.size < 4611686018427387904) /\ k [.agg [.int .u32 (hV s 4 (hx11 s (a, e)) (hx4 s (a, e))), .int .u64 (hV s 8 (hx11 s (a, e)) (hx5 s (a, e))), .int .i64 (hV s 1 (hx11 s (a, e)) (hx6 s (a, e))), .int .i64 (hV s 1 (hx11 s (a, e)) (hx7 s (a, e))), .int .i64 (hV s 1 (hx11 s (a, e)) (hx8 s (a, e))), .int .i64 (hV s 2 (hx11 s (a, e)) (hx9 s (a, e))), .int .i64 (hV s 2 (hx11 s (a, e)) (hx10 s (a, e)))], .err (hx11 s (a, e)).2] [.box [.str s, .int .i64 (hx11 s (a, e)).1, .int .i64 1, .err (hx11 s (a, e)).2]] := by
 unfold hReadS at h
 split at h
 ·exact ⟨_, _, _, _, rfl, rfl, h⟩
 ·exact h.elim
theorem fn_hRead : FnOk Tryz.prog 33 Tryz.f33 (bodyOf Tryz.f33) := ⟨by kernel_rfl, by kernel_rfl, by kernel_rfl⟩
noncomputable def ff_hRead : Fun := ⟨Tryz.f33.ntmps, 1, Tryz.f33.results.toList, fun i => match i with | 10 => some [0, 2, 6, 44, 45] | 3 => some [0, 2, 14] | _ => none, fun _ => false, fun i => match i with | 6 => [0] | _ => []⟩
theorem nf_hRead_a (A : KA Kd) (k : List PV -> Heap Kd -> Prop) (s : ByteArray) (a sec : Int) (e : Err) : evT H1 ff_hRead A k 400 false [.code (bodyOf Tryz.f33)] (startEnv 86 [.ptr 0 0]) [.box [.str s, .int .i64 a, .int .i64 sec, .err e]] = (A (td Tryz.f33 3) (envAt 86 [(0, .ptr 0 0), (2, .ptr 1 0), (14, .int .i64 0)]) [.box [.str s, .int .i64 a, .int .i64 1, .err e], .box [.int .u32 0, .int .u64 0, .int .i64 0, .int .i64 0, .int .i64 0, .int .i64 0, .int .i64 0]]) := by kernel_rfl
theorem nf_hRead_b0 (A : KA Kd) (k : List PV -> Heap Kd -> Prop) (s : ByteArray) (a : Int) (e : Err) : evT H1 ff_hRead A k 400 true (td Tryz.f33 3) (envAt 86 [(0, .ptr 0 0), (2, .ptr 1 0), (14, .int .i64 0)]) [.box [.str s, .int .i64 a, .int .i64 1, .err e], .box [.int .u32 0, .int .u64 0, .int .i64 0, .int .i64 0, .int .i64 0, .int .i64 0, .int .i64 0]] = (((0 : Int) <= (0 : Int) /\ 0 < (↑(ByteArray.mk #[(67 : UInt8), (87 : UInt8), (77 : UInt8), (49 : UInt8)]).size : Int)) /\ ∀ (b : UInt8), (ByteArray.mk #[(67 : UInt8), (87 : UInt8), (77 : UInt8), (49 : UInt8)])[Int.toNat (0 : Int)]? = some b -> (0 <= a /\ a <= (↑s.size : Int) /\ s.size < 4611686018427387904) /\ A (td Tryz.f33 3) (envAt 86 [(0, .ptr 0 0), (2, .ptr 1 0), (14, .int .i64 (IntKind.i64.wrap ((0 : Int) + (1 : Int))))]) [.box [.str s, .int .i64 (rdAt s a 1 e), .int .i64 1, .err (needE (rdE s a 1 1 e) (rdV s a 1 e == IntKind.i64.wrap (↑b.toNat : Int)) 1 3 a)], .box [.int .u32 0, .int .u64 0, .int .i64 0, .int .i64 0, .int .i64 0, .int .i64 0, .int .i64 0]]) := by kernel_rfl
theorem nf_hRead_b1 (A : KA Kd) (k : List PV -> Heap Kd -> Prop) (s : ByteArray) (a : Int) (e : Err) : evT H1 ff_hRead A k 400 true (td Tryz.f33 3) (envAt 86 [(0, .ptr 0 0), (2, .ptr 1 0), (14, .int .i64 1)]) [.box [.str s, .int .i64 a, .int .i64 1, .err e], .box [.int .u32 0, .int .u64 0, .int .i64 0, .int .i64 0, .int .i64 0, .int .i64 0, .int .i64 0]] = (((0 : Int) <= (1 : Int) /\ 1 < (↑(ByteArray.mk #[(67 : UInt8), (87 : UInt8), (77 : UInt8), (49 : UInt8)]).size : Int)) /\ ∀ (b : UInt8), (ByteArray.mk #[(67 : UInt8), (87 : UInt8), (77 : UInt8), (49 : UInt8)])[Int.toNat (1 : Int)]? = some b -> (0 <= a /\ a <= (↑s.size : Int) /\ s.size < 4611686018427387904) /\ A (td Tryz.f33 3) (envAt 86 [(0, .ptr 0 0), (2, .ptr 1 0), (14, .int .i64 (IntKind.i64.wrap ((1 : Int) + (1 : Int))))]) [.box [.str s, .int .i64 (rdAt s a 1 e), .int .i64 1, .err (needE (rdE s a 1 1 e) (rdV s a 1 e == IntKind.i64.wrap (↑b.toNat : Int)) 1 3 a)], .box [.int .u32 0, .int .u64 0, .int .i64 0, .int .i64 0, .int .i64 0, .int .i64 0, .int .i64 0]]) := by kernel_rfl
theorem nf_hRead_b2 (A : KA Kd) (k : List PV -> Heap Kd -> Prop) (s : ByteArray) (a : Int) (e : Err) : evT H1 ff_hRead A k 400 true (td Tryz.f33 3) (envAt 86 [(0, .ptr 0 0), (2, .ptr 1 0), (14, .int .i64 2)]) [.box [.str s, .int .i64 a, .int .i64 1, .err e], .box [.int .u32 0, .int .u64 0, .int .i64 0, .int .i64 0, .int .i64 0, .int .i64 0, .int .i64 0]] = (((0 : Int) <= (2 : Int) /\ 2 < (↑(ByteArray.mk #[(67 : UInt8), (87 : UInt8), (77 : UInt8), (49 : UInt8)]).size : Int)) /\ ∀ (b : UInt8), (ByteArray.mk #[(67 : UInt8), (87 : UInt8), (77 : UInt8), (49 : UInt8)])[Int.toNat (2 : Int)]? = some b -> (0 <= a /\ a <= (↑s.size : Int) /\ s.size < 4611686018427387904) /\ A (td Tryz.f33 3) (envAt 86 [(0, .ptr 0 0), (2, .ptr 1 0), (14, .int .i64 (IntKind.i64.wrap ((2 : Int) + (1 : Int))))]) [.box [.str s, .int .i64 (rdAt s a 1 e), .int .i64 1, .err (needE (rdE s a 1 1 e) (rdV s a 1 e == IntKind.i64.wrap (↑b.toNat : Int)) 1 3 a)], .box [.int .u32 0, .int .u64 0, .int .i64 0, .int .i64 0, .int .i64 0, .int .i64 0, .int .i64 0]]) := by kernel_rfl
theorem nf_hRead_b3 (A : KA Kd) (k : List PV -> Heap Kd -> Prop) (s : ByteArray) (a : Int) (e : Err) : evT H1 ff_hRead A k 400 true (td Tryz.f33 3) (envAt 86 [(0, .ptr 0 0), (2, .ptr 1 0), (14, .int .i64 3)]) [.box [.str s, .int .i64 a, .int .i64 1, .err e], .box [.int .u32 0, .int .u64 0, .int .i64 0, .int .i64 0, .int .i64 0, .int .i64 0, .int .i64 0]] = (((0 : Int) <= (3 : Int) /\ 3 < (↑(ByteArray.mk #[(67 : UInt8), (87 : UInt8), (77 : UInt8), (49 : UInt8)]).size : Int)) /\ ∀ (b : UInt8), (ByteArray.mk #[(67 : UInt8), (87 : UInt8), (77 : UInt8), (49 : UInt8)])[Int.toNat (3 : Int)]? = some b -> (0 <= a /\ a <= (↑s.size : Int) /\ s.size < 4611686018427387904) /\ A (td Tryz.f33 3) (envAt 86 [(0, .ptr 0 0), (2, .ptr 1 0), (14, .int .i64 (IntKind.i64.wrap ((3 : Int) + (1 : Int))))]) [.box [.str s, .int .i64 (rdAt s a 1 e), .int .i64 1, .err (needE (rdE s a 1 1 e) (rdV s a 1 e == IntKind.i64.wrap (↑b.toNat : Int)) 1 3 a)], .box [.int .u32 0, .int .u64 0, .int .i64 0, .int .i64 0, .int .i64 0, .int .i64 0, .int .i64 0]]) := by kernel_rfl
theorem nf_hRead_b4 (A : KA Kd) (k : List PV -> Heap Kd -> Prop) (s : ByteArray) (a : Int) (e : Err) : evT H1 ff_hRead A k 400 true (td Tryz.f33 3) (envAt 86 [(0, .ptr 0 0), (2, .ptr 1 0), (14, .int .i64 4)]) [.box [.str s, .int .i64 a, .int .i64 1, .err e], .box [.int .u32 0, .int .u64 0, .int .i64 0, .int .i64 0, .int .i64 0, .int .i64 0, .int .i64 0]] = ((0 <= a /\ a <= (↑s.size : Int) /\ s.size < 4611686018427387904) /\ (0 <= rdAt s a 4 e /\ rdAt s a 4 e <= (↑s.size : Int) /\ s.size < 4611686018427387904) /\ (0 <= rdAt s (rdAt s a 4 e) 8 (rdE s a 4 1 e) /\ rdAt s (rdAt s a 4 e) 8 (rdE s a 4 1 e) <= (↑s.size : Int) /\ s.size < 4611686018427387904) /\ A (td Tryz.f33 10) (envAt 86 [(0, .ptr 0 0), (2, .ptr 1 0), (6, .ptr 2 0), (44, .agg [PV.fn (Fn.func (90 : Nat)) [.ptr 0 0] [], PV.fn (Fn.func (90 : Nat)) [.ptr 0 0] [], PV.fn (Fn.func (93 : Nat)) [.ptr 0 0] [], PV.fn (Fn.func (93 : Nat)) [.ptr 0 0] []]), (45, .int .i64 0)]) [.box [.str s, .int .i64 (rdAt s (rdAt s (rdAt s a 4 e) 8 (rdE s a 4 1 e)) 1 (rdE s (rdAt s a 4 e) 8 1 (rdE s a 4 1 e))), .int .i64 1, .err (rdE s (rdAt s (rdAt s a 4 e) 8 (rdE s a 4 1 e)) 1 1 (rdE s (rdAt s a 4 e) 8 1 (rdE s a 4 1 e)))], .box [.int .u32 0, .int .u64 0, .int .i64 0, .int .i64 0, .int .i64 0, .int .i64 0, .int .i64 0], .box [.int .u32 (rdV s a 4 e), .int .u64 (rdV s (rdAt s a 4 e) 8 (rdE s a 4 1 e)), .int .i64 (rdV s (rdAt s (rdAt s a 4 e) 8 (rdE s a 4 1 e)) 1 (rdE s (rdAt s a 4 e) 8 1 (rdE s a 4 1 e))), .int .i64 0, .int .i64 0, .int .i64 0, .int .i64 0]]) := by kernel_rfl
theorem nf_hRead_c0 (A : KA Kd) (k : List PV -> Heap Kd -> Prop) (s : ByteArray) (a : Int) (e : Err) (h0 h1 h2 h3 h4 h5 h6 : Int) : evT H1 ff_hRead A k 400 true (td Tryz.f33 10) (envAt 86 [(0, .ptr 0 0), (2, .ptr 1 0), (6, .ptr 2 0), (44, .agg [.fn (.func 90) [.ptr 0 0] [], .fn (.func 90) [.ptr 0 0] [], .fn (.func 93) [.ptr 0 0] [], .fn (.func 93) [.ptr 0 0] []]), (45, .int .i64 0)]) [.box [.str s, .int .i64 a, .int .i64 1, .err e], .box [.int .u32 0, .int .u64 0, .int .i64 0, .int .i64 0, .int .i64 0, .int .i64 0, .int .i64 0], .box [.int .u32 h0, .int .u64 h1, .int .i64 h2, .int .i64 h3, .int .i64 h4, .int .i64 h5, .int .i64 h6]] = ((0 <= a /\ a <= (↑s.size : Int) /\ s.size < 4611686018427387904) /\ A (td Tryz.f33 10) (envAt 86 [(0, .ptr 0 0), (2, .ptr 1 0), (6, .ptr 2 0), (44, .agg [PV.fn (Fn.func (90 : FuncId)) [.ptr 0 0] [], PV.fn (Fn.func (90 : FuncId)) [.ptr 0 0] [], PV.fn (Fn.func (93 : FuncId)) [.ptr 0 0] [], PV.fn (Fn.func (93 : FuncId)) [.ptr 0 0] []]), (45, .int .i64 (IntKind.i64.wrap ((0 : Int) + (1 : Int))))]) [.box [.str s, .int .i64 (rdAt s a 1 e), .int .i64 1, .err (needE (rdE s a 1 1 e) (decide (rdV s a 1 e >= 1) && decide (rdV s a 1 e <= 32)) 1 8 a)], .box [.int .u32 0, .int .u64 0, .int .i64 0, .int .i64 0, .int .i64 0, .int .i64 0, .int .i64 0], .box [.int .u32 h0, .int .u64 h1, .int .i64 h2, .int .i64 (rdV s a 1 e), .int .i64 h4, .int .i64 h5, .int .i64 h6]]) := by kernel_rfl
theorem nf_hRead_c1 (A : KA Kd) (k : List PV -> Heap Kd -> Prop) (s : ByteArray) (a : Int) (e : Err) (h0 h1 h2 h3 h4 h5 h6 : Int) : evT H1 ff_hRead A k 400 true (td Tryz.f33 10) (envAt 86 [(0, .ptr 0 0), (2, .ptr 1 0), (6, .ptr 2 0), (44, .agg [.fn (.func 90) [.ptr 0 0] [], .fn (.func 90) [.ptr 0 0] [], .fn (.func 93) [.ptr 0 0] [], .fn (.func 93) [.ptr 0 0] []]), (45, .int .i64 1)]) [.box [.str s, .int .i64 a, .int .i64 1, .err e], .box [.int .u32 0, .int .u64 0, .int .i64 0, .int .i64 0, .int .i64 0, .int .i64 0, .int .i64 0], .box [.int .u32 h0, .int .u64 h1, .int .i64 h2, .int .i64 h3, .int .i64 h4, .int .i64 h5, .int .i64 h6]] = ((0 <= a /\ a <= (↑s.size : Int) /\ s.size < 4611686018427387904) /\ A (td Tryz.f33 10) (envAt 86 [(0, .ptr 0 0), (2, .ptr 1 0), (6, .ptr 2 0), (44, .agg [PV.fn (Fn.func (90 : FuncId)) [.ptr 0 0] [], PV.fn (Fn.func (90 : FuncId)) [.ptr 0 0] [], PV.fn (Fn.func (93 : FuncId)) [.ptr 0 0] [], PV.fn (Fn.func (93 : FuncId)) [.ptr 0 0] []]), (45, .int .i64 (IntKind.i64.wrap ((1 : Int) + (1 : Int))))]) [.box [.str s, .int .i64 (rdAt s a 1 e), .int .i64 1, .err (needE (rdE s a 1 1 e) (decide (rdV s a 1 e >= 1) && decide (rdV s a 1 e <= 16)) 1 8 a)], .box [.int .u32 0, .int .u64 0, .int .i64 0, .int .i64 0, .int .i64 0, .int .i64 0, .int .i64 0], .box [.int .u32 h0, .int .u64 h1, .int .i64 h2, .int .i64 h3, .int .i64 (rdV s a 1 e), .int .i64 h5, .int .i64 h6]]) := by kernel_rfl
theorem nf_hRead_c2 (A : KA Kd) (k : List PV -> Heap Kd -> Prop) (s : ByteArray) (a : Int) (e : Err) (h0 h1 h2 h3 h4 h5 h6 : Int) : evT H1 ff_hRead A k 400 true (td Tryz.f33 10) (envAt 86 [(0, .ptr 0 0), (2, .ptr 1 0), (6, .ptr 2 0), (44, .agg [.fn (.func 90) [.ptr 0 0] [], .fn (.func 90) [.ptr 0 0] [], .fn (.func 93) [.ptr 0 0] [], .fn (.func 93) [.ptr 0 0] []]), (45, .int .i64 2)]) [.box [.str s, .int .i64 a, .int .i64 1, .err e], .box [.int .u32 0, .int .u64 0, .int .i64 0, .int .i64 0, .int .i64 0, .int .i64 0, .int .i64 0], .box [.int .u32 h0, .int .u64 h1, .int .i64 h2, .int .i64 h3, .int .i64 h4, .int .i64 h5, .int .i64 h6]] = ((0 <= a /\ a <= (↑s.size : Int) /\ s.size < 4611686018427387904) /\ A (td Tryz.f33 10) (envAt 86 [(0, .ptr 0 0), (2, .ptr 1 0), (6, .ptr 2 0), (44, .agg [PV.fn (Fn.func (90 : FuncId)) [.ptr 0 0] [], PV.fn (Fn.func (90 : FuncId)) [.ptr 0 0] [], PV.fn (Fn.func (93 : FuncId)) [.ptr 0 0] [], PV.fn (Fn.func (93 : FuncId)) [.ptr 0 0] []]), (45, .int .i64 (IntKind.i64.wrap ((2 : Int) + (1 : Int))))]) [.box [.str s, .int .i64 (rdAt s a 2 e), .int .i64 1, .err (needE (rdE s a 2 1 e) (decide (rdV s a 2 e >= 0) && decide (rdV s a 2 e <= 240)) 1 8 a)], .box [.int .u32 0, .int .u64 0, .int .i64 0, .int .i64 0, .int .i64 0, .int .i64 0, .int .i64 0], .box [.int .u32 h0, .int .u64 h1, .int .i64 h2, .int .i64 h3, .int .i64 h4, .int .i64 (rdV s a 2 e), .int .i64 h6]]) := by kernel_rfl
theorem nf_hRead_c3 (A : KA Kd) (k : List PV -> Heap Kd -> Prop) (s : ByteArray) (a : Int) (e : Err) (h0 h1 h2 h3 h4 h5 h6 : Int) : evT H1 ff_hRead A k 400 true (td Tryz.f33 10) (envAt 86 [(0, .ptr 0 0), (2, .ptr 1 0), (6, .ptr 2 0), (44, .agg [.fn (.func 90) [.ptr 0 0] [], .fn (.func 90) [.ptr 0 0] [], .fn (.func 93) [.ptr 0 0] [], .fn (.func 93) [.ptr 0 0] []]), (45, .int .i64 3)]) [.box [.str s, .int .i64 a, .int .i64 1, .err e], .box [.int .u32 0, .int .u64 0, .int .i64 0, .int .i64 0, .int .i64 0, .int .i64 0, .int .i64 0], .box [.int .u32 h0, .int .u64 h1, .int .i64 h2, .int .i64 h3, .int .i64 h4, .int .i64 h5, .int .i64 h6]] = ((0 <= a /\ a <= (↑s.size : Int) /\ s.size < 4611686018427387904) /\ A (td Tryz.f33 10) (envAt 86 [(0, .ptr 0 0), (2, .ptr 1 0), (6, .ptr 2 0), (44, .agg [PV.fn (Fn.func (90 : FuncId)) [.ptr 0 0] [], PV.fn (Fn.func (90 : FuncId)) [.ptr 0 0] [], PV.fn (Fn.func (93 : FuncId)) [.ptr 0 0] [], PV.fn (Fn.func (93 : FuncId)) [.ptr 0 0] []]), (45, .int .i64 (IntKind.i64.wrap ((3 : Int) + (1 : Int))))]) [.box [.str s, .int .i64 (rdAt s a 2 e), .int .i64 1, .err (needE (rdE s a 2 1 e) (decide (rdV s a 2 e >= 0) && decide (rdV s a 2 e <= 512)) 1 8 a)], .box [.int .u32 0, .int .u64 0, .int .i64 0, .int .i64 0, .int .i64 0, .int .i64 0, .int .i64 0], .box [.int .u32 h0, .int .u64 h1, .int .i64 h2, .int .i64 h3, .int .i64 h4, .int .i64 h5, .int .i64 (rdV s a 2 e)]]) := by kernel_rfl
theorem nf_hRead_c4 (A : KA Kd) (k : List PV -> Heap Kd -> Prop) (s : ByteArray) (a : Int) (e : Err) (h0 h1 h2 h3 h4 h5 h6 : Int) : evT H1 ff_hRead A k 400 true (td Tryz.f33 10) (envAt 86 [(0, .ptr 0 0), (2, .ptr 1 0), (6, .ptr 2 0), (44, .agg [.fn (.func 90) [.ptr 0 0] [], .fn (.func 90) [.ptr 0 0] [], .fn (.func 93) [.ptr 0 0] [], .fn (.func 93) [.ptr 0 0] []]), (45, .int .i64 4)]) [.box [.str s, .int .i64 a, .int .i64 1, .err e], .box [.int .u32 0, .int .u64 0, .int .i64 0, .int .i64 0, .int .i64 0, .int .i64 0, .int .i64 0], .box [.int .u32 h0, .int .u64 h1, .int .i64 h2, .int .i64 h3, .int .i64 h4, .int .i64 h5, .int .i64 h6]] = (bif !e.isNil then k [.agg [.int .u32 0, .int .u64 0, .int .i64 0, .int .i64 0, .int .i64 0, .int .i64 0, .int .i64 0], .err e] [.box [.str s, .int .i64 a, .int .i64 1, .err e]]
else k [PV.agg [PV.int IntKind.u32 h0, PV.int IntKind.u64 h1, PV.int IntKind.i64 h2, PV.int IntKind.i64 h3, PV.int IntKind.i64 h4, PV.int IntKind.i64 h5, PV.int IntKind.i64 h6], PV.err Err.nil] [AObj.box [PV.str s, PV.int IntKind.i64 a, PV.int IntKind.i64 (1 : Int), PV.err e]]) := by kernel_rfl
theorem ok_hRead : FunF B 33 1 hReadS := by
 refine funF_of (N := 86) (f := ff_hRead) env_H1 mixed fn_hRead (by kernel_rfl) (by kernel_rfl) ?_
 intro A k ys L hA hF
 obtain ⟨s, a, sec, e, rfl, rfl, ⟨h0, h1, h2⟩, hk⟩ := hReadS_inv hF; clear hF
 refine ⟨by kernel_rfl, (hA.nf (nf_hRead_a A k s a sec e) ?_)⟩
 have i0 : hIn s (a, e) := ⟨h0, h1⟩
 refine (hA.nf (nf_hRead_b0 A k s ((a, e)).1 ((a, e)).2) ?_)
 refine ⟨by decide, fun b hb => ?_⟩
 obtain rfl : b = 67 := (Option.some.inj hb).symm
 have w0 : IntKind.i64.wrap (((67 : UInt8).toNat : Nat) : Int) = 67 := by decide
 have v0 : IntKind.i64.wrap ((0 : Int) + 1) = 1 := by decide
 rw [w0, v0]
 refine ⟨⟨i0.1, i0.2, h2⟩, ?_⟩
 have i1 := i0.m 67
 refine (hA.nf (nf_hRead_b1 A k s (hM s 67 ((a, e))).1 (hM s 67 ((a, e))).2) ?_)
 refine ⟨by decide, fun b hb => ?_⟩
 obtain rfl : b = 87 := (Option.some.inj hb).symm
 have w1 : IntKind.i64.wrap (((87 : UInt8).toNat : Nat) : Int) = 87 := by decide
 have v1 : IntKind.i64.wrap ((1 : Int) + 1) = 2 := by decide
 rw [w1, v1]
 refine ⟨⟨i1.1, i1.2, h2⟩, ?_⟩
 have i2 := i1.m 87
 refine (hA.nf (nf_hRead_b2 A k s (hM s 87 (hM s 67 ((a, e)))).1 (hM s 87 (hM s 67 ((a, e)))).2) ?_)
 refine ⟨by decide, fun b hb => ?_⟩
 obtain rfl : b = 77 := (Option.some.inj hb).symm
 have w2 : IntKind.i64.wrap (((77 : UInt8).toNat : Nat) : Int) = 77 := by decide
 have v2 : IntKind.i64.wrap ((2 : Int) + 1) = 3 := by decide
 rw [w2, v2]
 refine ⟨⟨i2.1, i2.2, h2⟩, ?_⟩
 have i3 := i2.m 77
 refine (hA.nf (nf_hRead_b3 A k s (hM s 77 (hM s 87 (hM s 67 ((a, e))))).1 (hM s 77 (hM s 87 (hM s 67 ((a, e))))).2) ?_)
 refine ⟨by decide, fun b hb => ?_⟩
 obtain rfl : b = 49 := (Option.some.inj hb).symm
 have w3 : IntKind.i64.wrap (((49 : UInt8).toNat : Nat) : Int) = 49 := by decide
 have v3 : IntKind.i64.wrap ((3 : Int) + 1) = 4 := by decide
 rw [w3, v3]
 refine ⟨⟨i3.1, i3.2, h2⟩, ?_⟩
 have i4 := i3.m 49
 have i5 : hIn s (hx5 s (a, e)) := i4.r (by decide)
 have i6 : hIn s (hx6 s (a, e)) := i5.r (by decide)
 have i7 : hIn s (hx7 s (a, e)) := i6.r (by decide)
 have i8 : hIn s (hx8 s (a, e)) := i7.n (by decide)
 have i9 : hIn s (hx9 s (a, e)) := i8.n (by decide)
 have i10 : hIn s (hx10 s (a, e)) := i9.n (by decide)
 refine (hA.nf (nf_hRead_b4 A k s (hx4 s (a, e)).1 (hx4 s (a, e)).2) ?_)
 refine ⟨⟨i4.1, i4.2, h2⟩, ⟨i5.1, i5.2, h2⟩, ⟨i6.1, i6.2, h2⟩, ?_⟩
 refine (hA.nf (nf_hRead_c0 A k s (hx7 s (a, e)).1 (hx7 s (a, e)).2 (rdV s (hx4 s (a, e)).1 4 (hx4 s (a, e)).2) (rdV s (hx5 s (a, e)).1 8 (hx5 s (a, e)).2) (rdV s (hx6 s (a, e)).1 1 (hx6 s (a, e)).2) 0 0 0 0) ?_)
 refine ⟨⟨i7.1, i7.2, h2⟩, ?_⟩
 refine (hA.nf (nf_hRead_c1 A k s (hx8 s (a, e)).1 (hx8 s (a, e)).2 (rdV s (hx4 s (a, e)).1 4 (hx4 s (a, e)).2) (rdV s (hx5 s (a, e)).1 8 (hx5 s (a, e)).2) (rdV s (hx6 s (a, e)).1 1 (hx6 s (a, e)).2) (rdV s (hx7 s (a, e)).1 1 (hx7 s (a, e)).2) 0 0 0) ?_)
 refine ⟨⟨i8.1, i8.2, h2⟩, ?_⟩
 refine (hA.nf (nf_hRead_c2 A k s (hx9 s (a, e)).1 (hx9 s (a, e)).2 (rdV s (hx4 s (a, e)).1 4 (hx4 s (a, e)).2) (rdV s (hx5 s (a, e)).1 8 (hx5 s (a, e)).2) (rdV s (hx6 s (a, e)).1 1 (hx6 s (a, e)).2) (rdV s (hx7 s (a, e)).1 1 (hx7 s (a, e)).2) (rdV s (hx8 s (a, e)).1 1 (hx8 s (a, e)).2) 0 0) ?_)
 refine ⟨⟨i9.1, i9.2, h2⟩, ?_⟩
 refine (hA.nf (nf_hRead_c3 A k s (hx10 s (a, e)).1 (hx10 s (a, e)).2 (rdV s (hx4 s (a, e)).1 4 (hx4 s (a, e)).2) (rdV s (hx5 s (a, e)).1 8 (hx5 s (a, e)).2) (rdV s (hx6 s (a, e)).1 1 (hx6 s (a, e)).2) (rdV s (hx7 s (a, e)).1 1 (hx7 s (a, e)).2) (rdV s (hx8 s (a, e)).1 1 (hx8 s (a, e)).2) (rdV s (hx9 s (a, e)).1 2 (hx9 s (a, e)).2) 0) ?_)
 refine ⟨⟨i10.1, i10.2, h2⟩, ?_⟩
 refine (hA.nf (nf_hRead_c4 A k s (hx11 s (a, e)).1 (hx11 s (a, e)).2 (rdV s (hx4 s (a, e)).1 4 (hx4 s (a, e)).2) (rdV s (hx5 s (a, e)).1 8 (hx5 s (a, e)).2) (rdV s (hx6 s (a, e)).1 1 (hx6 s (a, e)).2) (rdV s (hx7 s (a, e)).1 1 (hx7 s (a, e)).2) (rdV s (hx8 s (a, e)).1 1 (hx8 s (a, e)).2) (rdV s (hx9 s (a, e)).1 2 (hx9 s (a, e)).2) (rdV s (hx10 s (a, e)).1 2 (hx10 s (a, e)).2)) ?_)
 unfold hV at hk
 cases hn : (hx11 s (a, e)).2.isNil with
 | false => simp only [hn, cond_false] at hk; exact hk
 | true =>
  simp only [hn, cond_true] at hk
  rw [isNil_eq hn] at hk ⊢
  exact hk
end Go.Ab.T
