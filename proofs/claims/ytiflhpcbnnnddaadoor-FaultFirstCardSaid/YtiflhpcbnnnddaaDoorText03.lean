import Derived.Test.YtiflhpcbnnnddaaDoorFault
import Derived.Test.YtiflhpcbnnnddaaDoorMaB
set_option linter.unusedVariables false
set_option linter.unusedSimpArgs false
namespace Go.Ab.T
open Go Go.Ab Go.Proofs
set_option maxRecDepth 100000
set_option maxHeartbeats 4000000
def itoaS : SpecS := fun ys Φ => match ys with
  | [.int .i64 n] => (n = 17 ∨ n = 3) ∧ Φ [.str (itoa2 n)]
  | _ => False
theorem itoaS_mono : MonoS itoaS := by
  intro ys Φ Ψ h hF
  unfold itoaS at hF ⊢
  split at hF
  · obtain ⟨hp, hk⟩ := hF; exact ⟨hp, h _ hk⟩
  · exact hF.elim
theorem itoaS_inv {ys : List PV} {Φ : List PV → Prop} (h : itoaS ys Φ) : ∃ (n : Int), ys = [.int .i64 n] ∧ (n = 17 ∨ n = 3) ∧ Φ [.str (itoa2 n)] := by
  unfold itoaS at h
  split at h
  · exact ⟨_, rfl, h⟩
  · exact h.elim
def fmtS : SpecS := fun ys Φ => match ys with
  | [.int .i64 n, .int .i64 b] => ((n = 17 ∨ n = 3) ∧ b = 10) ∧ Φ [.str (itoa2 n)]
  | _ => False
theorem fmtS_mono : MonoS fmtS := by
  intro ys Φ Ψ h hF
  unfold fmtS at hF ⊢
  split at hF
  · obtain ⟨hp, hk⟩ := hF; exact ⟨hp, h _ hk⟩
  · exact hF.elim
theorem fmtS_inv {ys : List PV} {Φ : List PV → Prop} (h : fmtS ys Φ) : ∃ (n : Int) (b : Int), ys = [.int .i64 n, .int .i64 b] ∧ ((n = 17 ∨ n = 3) ∧ b = 10) ∧ Φ [.str (itoa2 n)] := by
  unfold fmtS at h
  split at h
  · exact ⟨_, _, rfl, h⟩
  · exact h.elim
theorem fn_small : FnOk Tryd.prog 86 Tryd.f86 (bodyOf Tryd.f86) := ⟨by kernel_rfl, by kernel_rfl, by kernel_rfl⟩
noncomputable def ff_small : Fun := ⟨Tryd.f86.ntmps, 0, Tryd.f86.results.toList, fun _ => none, fun _ => false, fun _ => []⟩
theorem nf_small_a (A : KA Kd) (k : List PV → Heap Kd → Prop)  : evT B ff_small A k 400 false [.code (bodyOf Tryd.f86)] (startEnv 15 [.int .i64 17]) [] = (((0 : Int) ≤ IntKind.i64.wrap ((17 : Int) * (2 : Int)) ∧ IntKind.i64.wrap ((17 : Int) * (2 : Int)) ≤ IntKind.i64.wrap (IntKind.i64.wrap ((17 : Int) * (2 : Int)) + (2 : Int)) ∧ IntKind.i64.wrap (IntKind.i64.wrap ((17 : Int) * (2 : Int)) + (2 : Int)) ≤ (↑(ByteArray.mk (([(48 : UInt8), (48 : UInt8), (48 : UInt8), (49 : UInt8), (48 : UInt8), (50 : UInt8), (48 : UInt8), (51 : UInt8), (48 : UInt8), (52 : UInt8), (48 : UInt8), (53 : UInt8), (48 : UInt8), (54 : UInt8), (48 : UInt8), (55 : UInt8), (48 : UInt8), (56 : UInt8), (48 : UInt8), (57 : UInt8), (49 : UInt8), (48 : UInt8), (49 : UInt8), (49 : UInt8), (49 : UInt8), (50 : UInt8), (49 : UInt8), (51 : UInt8), (49 : UInt8), (52 : UInt8), (49 : UInt8), (53 : UInt8), (49 : UInt8), (54 : UInt8), (49 : UInt8), (55 : UInt8), (49 : UInt8), (56 : UInt8), (49 : UInt8), (57 : UInt8), (50 : UInt8), (48 : UInt8), (50 : UInt8), (49 : UInt8), (50 : UInt8), (50 : UInt8), (50 : UInt8), (51 : UInt8), (50 : UInt8), (52 : UInt8)].append [(50 : UInt8), (53 : UInt8), (50 : UInt8), (54 : UInt8), (50 : UInt8), (55 : UInt8), (50 : UInt8), (56 : UInt8), (50 : UInt8), (57 : UInt8), (51 : UInt8), (48 : UInt8), (51 : UInt8), (49 : UInt8), (51 : UInt8), (50 : UInt8), (51 : UInt8), (51 : UInt8), (51 : UInt8), (52 : UInt8), (51 : UInt8), (53 : UInt8), (51 : UInt8), (54 : UInt8), (51 : UInt8), (55 : UInt8), (51 : UInt8), (56 : UInt8), (51 : UInt8), (57 : UInt8), (52 : UInt8), (48 : UInt8), (52 : UInt8), (49 : UInt8), (52 : UInt8), (50 : UInt8), (52 : UInt8), (51 : UInt8), (52 : UInt8), (52 : UInt8), (52 : UInt8), (53 : UInt8), (52 : UInt8), (54 : UInt8), (52 : UInt8), (55 : UInt8), (52 : UInt8), (56 : UInt8), (52 : UInt8), (57 : UInt8)]).append ([(53 : UInt8), (48 : UInt8), (53 : UInt8), (49 : UInt8), (53 : UInt8), (50 : UInt8), (53 : UInt8), (51 : UInt8), (53 : UInt8), (52 : UInt8), (53 : UInt8), (53 : UInt8), (53 : UInt8), (54 : UInt8), (53 : UInt8), (55 : UInt8), (53 : UInt8), (56 : UInt8), (53 : UInt8), (57 : UInt8), (54 : UInt8), (48 : UInt8), (54 : UInt8), (49 : UInt8), (54 : UInt8), (50 : UInt8), (54 : UInt8), (51 : UInt8), (54 : UInt8), (52 : UInt8), (54 : UInt8), (53 : UInt8), (54 : UInt8), (54 : UInt8), (54 : UInt8), (55 : UInt8), (54 : UInt8), (56 : UInt8), (54 : UInt8), (57 : UInt8), (55 : UInt8), (48 : UInt8), (55 : UInt8), (49 : UInt8), (55 : UInt8), (50 : UInt8), (55 : UInt8), (51 : UInt8), (55 : UInt8), (52 : UInt8)].append [(55 : UInt8), (53 : UInt8), (55 : UInt8), (54 : UInt8), (55 : UInt8), (55 : UInt8), (55 : UInt8), (56 : UInt8), (55 : UInt8), (57 : UInt8), (56 : UInt8), (48 : UInt8), (56 : UInt8), (49 : UInt8), (56 : UInt8), (50 : UInt8), (56 : UInt8), (51 : UInt8), (56 : UInt8), (52 : UInt8), (56 : UInt8), (53 : UInt8), (56 : UInt8), (54 : UInt8), (56 : UInt8), (55 : UInt8), (56 : UInt8), (56 : UInt8), (56 : UInt8), (57 : UInt8), (57 : UInt8), (48 : UInt8), (57 : UInt8), (49 : UInt8), (57 : UInt8), (50 : UInt8), (57 : UInt8), (51 : UInt8), (57 : UInt8), (52 : UInt8), (57 : UInt8), (53 : UInt8), (57 : UInt8), (54 : UInt8), (57 : UInt8), (55 : UInt8), (57 : UInt8), (56 : UInt8), (57 : UInt8), (57 : UInt8)])).toArray).size : Int)) ∧ k [PV.str ((ByteArray.mk (([(48 : UInt8), (48 : UInt8), (48 : UInt8), (49 : UInt8), (48 : UInt8), (50 : UInt8), (48 : UInt8), (51 : UInt8), (48 : UInt8), (52 : UInt8), (48 : UInt8), (53 : UInt8), (48 : UInt8), (54 : UInt8), (48 : UInt8), (55 : UInt8), (48 : UInt8), (56 : UInt8), (48 : UInt8), (57 : UInt8), (49 : UInt8), (48 : UInt8), (49 : UInt8), (49 : UInt8), (49 : UInt8), (50 : UInt8), (49 : UInt8), (51 : UInt8), (49 : UInt8), (52 : UInt8), (49 : UInt8), (53 : UInt8), (49 : UInt8), (54 : UInt8), (49 : UInt8), (55 : UInt8), (49 : UInt8), (56 : UInt8), (49 : UInt8), (57 : UInt8), (50 : UInt8), (48 : UInt8), (50 : UInt8), (49 : UInt8), (50 : UInt8), (50 : UInt8), (50 : UInt8), (51 : UInt8), (50 : UInt8), (52 : UInt8)].append [(50 : UInt8), (53 : UInt8), (50 : UInt8), (54 : UInt8), (50 : UInt8), (55 : UInt8), (50 : UInt8), (56 : UInt8), (50 : UInt8), (57 : UInt8), (51 : UInt8), (48 : UInt8), (51 : UInt8), (49 : UInt8), (51 : UInt8), (50 : UInt8), (51 : UInt8), (51 : UInt8), (51 : UInt8), (52 : UInt8), (51 : UInt8), (53 : UInt8), (51 : UInt8), (54 : UInt8), (51 : UInt8), (55 : UInt8), (51 : UInt8), (56 : UInt8), (51 : UInt8), (57 : UInt8), (52 : UInt8), (48 : UInt8), (52 : UInt8), (49 : UInt8), (52 : UInt8), (50 : UInt8), (52 : UInt8), (51 : UInt8), (52 : UInt8), (52 : UInt8), (52 : UInt8), (53 : UInt8), (52 : UInt8), (54 : UInt8), (52 : UInt8), (55 : UInt8), (52 : UInt8), (56 : UInt8), (52 : UInt8), (57 : UInt8)]).append ([(53 : UInt8), (48 : UInt8), (53 : UInt8), (49 : UInt8), (53 : UInt8), (50 : UInt8), (53 : UInt8), (51 : UInt8), (53 : UInt8), (52 : UInt8), (53 : UInt8), (53 : UInt8), (53 : UInt8), (54 : UInt8), (53 : UInt8), (55 : UInt8), (53 : UInt8), (56 : UInt8), (53 : UInt8), (57 : UInt8), (54 : UInt8), (48 : UInt8), (54 : UInt8), (49 : UInt8), (54 : UInt8), (50 : UInt8), (54 : UInt8), (51 : UInt8), (54 : UInt8), (52 : UInt8), (54 : UInt8), (53 : UInt8), (54 : UInt8), (54 : UInt8), (54 : UInt8), (55 : UInt8), (54 : UInt8), (56 : UInt8), (54 : UInt8), (57 : UInt8), (55 : UInt8), (48 : UInt8), (55 : UInt8), (49 : UInt8), (55 : UInt8), (50 : UInt8), (55 : UInt8), (51 : UInt8), (55 : UInt8), (52 : UInt8)].append [(55 : UInt8), (53 : UInt8), (55 : UInt8), (54 : UInt8), (55 : UInt8), (55 : UInt8), (55 : UInt8), (56 : UInt8), (55 : UInt8), (57 : UInt8), (56 : UInt8), (48 : UInt8), (56 : UInt8), (49 : UInt8), (56 : UInt8), (50 : UInt8), (56 : UInt8), (51 : UInt8), (56 : UInt8), (52 : UInt8), (56 : UInt8), (53 : UInt8), (56 : UInt8), (54 : UInt8), (56 : UInt8), (55 : UInt8), (56 : UInt8), (56 : UInt8), (56 : UInt8), (57 : UInt8), (57 : UInt8), (48 : UInt8), (57 : UInt8), (49 : UInt8), (57 : UInt8), (50 : UInt8), (57 : UInt8), (51 : UInt8), (57 : UInt8), (52 : UInt8), (57 : UInt8), (53 : UInt8), (57 : UInt8), (54 : UInt8), (57 : UInt8), (55 : UInt8), (57 : UInt8), (56 : UInt8), (57 : UInt8), (57 : UInt8)])).toArray).extract (IntKind.i64.wrap ((17 : Int) * (2 : Int))).toNat (IntKind.i64.wrap (IntKind.i64.wrap ((17 : Int) * (2 : Int)) + (2 : Int))).toNat)] []) := by kernel_rfl
theorem nf_small_b (A : KA Kd) (k : List PV → Heap Kd → Prop)  : evT B ff_small A k 400 false [.code (bodyOf Tryd.f86)] (startEnv 15 [.int .i64 3]) [] = (((0 : Int) ≤ (3 : Int) ∧ (3 : Int) ≤ IntKind.i64.wrap ((3 : Int) + (1 : Int)) ∧ IntKind.i64.wrap ((3 : Int) + (1 : Int)) ≤ (↑(ByteArray.mk #[(48 : UInt8), (49 : UInt8), (50 : UInt8), (51 : UInt8), (52 : UInt8), (53 : UInt8), (54 : UInt8), (55 : UInt8), (56 : UInt8), (57 : UInt8), (97 : UInt8), (98 : UInt8), (99 : UInt8), (100 : UInt8), (101 : UInt8), (102 : UInt8), (103 : UInt8), (104 : UInt8), (105 : UInt8), (106 : UInt8), (107 : UInt8), (108 : UInt8), (109 : UInt8), (110 : UInt8), (111 : UInt8), (112 : UInt8), (113 : UInt8), (114 : UInt8), (115 : UInt8), (116 : UInt8), (117 : UInt8), (118 : UInt8), (119 : UInt8), (120 : UInt8), (121 : UInt8), (122 : UInt8)]).size : Int)) ∧ k [PV.str ((ByteArray.mk #[(48 : UInt8), (49 : UInt8), (50 : UInt8), (51 : UInt8), (52 : UInt8), (53 : UInt8), (54 : UInt8), (55 : UInt8), (56 : UInt8), (57 : UInt8), (97 : UInt8), (98 : UInt8), (99 : UInt8), (100 : UInt8), (101 : UInt8), (102 : UInt8), (103 : UInt8), (104 : UInt8), (105 : UInt8), (106 : UInt8), (107 : UInt8), (108 : UInt8), (109 : UInt8), (110 : UInt8), (111 : UInt8), (112 : UInt8), (113 : UInt8), (114 : UInt8), (115 : UInt8), (116 : UInt8), (117 : UInt8), (118 : UInt8), (119 : UInt8), (120 : UInt8), (121 : UInt8), (122 : UInt8)]).extract (Int.toNat (3 : Int)) (IntKind.i64.wrap ((3 : Int) + (1 : Int))).toNat)] []) := by kernel_rfl
theorem ok_small : FunS B 86 itoaS := by
  refine funS_of (N := 15) (f := ff_small) env0 mixed fn_small (by kernel_rfl) (by kernel_rfl) (by kernel_rfl) itoaS_mono ?_
  intro A k ys hA hF
  obtain ⟨n, rfl, hn, hk⟩ := itoaS_inv hF; clear hF
  rcases hn with rfl | rfl
  · exact ⟨by kernel_rfl, hA.nf (nf_small_a A k) ⟨by decide, hk⟩⟩
  · exact ⟨by kernel_rfl, hA.nf (nf_small_b A k) ⟨by decide, hk⟩⟩
noncomputable def X0 := base (fun g => match g with | 40 => some (lift 0 namesF) | 54 => some (lift 0 namesF) | _ => none) (fun g => match g with | 39 => some nameS | 18 => some nameS | 17 => some newS | 16 => some atS | 22 => some inS | 86 => some itoaS | _ => none) (fun _ => none)
theorem env_X0 : EnvOk X0 := env_of (by
    intro g F h
    split at h
    · cases h; exact ok_Name
    · cases h; exact ok_rName
    · cases h; exact ok_New
    · cases h; exact ok_At
    · cases h; exact ok_In
    · cases h; exact ok_small
    · cases h) (by
    intro g F h
    split at h
    · cases h; exact (lift_ok ok_rnames)
    · cases h; exact (lift_ok ok_names)
    · cases h) (fun g F h => (by cases h))
theorem fn_fmt : FnOk Tryd.prog 85 Tryd.f85 (bodyOf Tryd.f85) := ⟨by kernel_rfl, by kernel_rfl, by kernel_rfl⟩
noncomputable def ff_fmt : Fun := ⟨Tryd.f85.ntmps, 0, Tryd.f85.results.toList, fun _ => none, fun _ => false, fun _ => []⟩
theorem nf_fmt_a (A : KA Kd) (k : List PV → Heap Kd → Prop)  : evT X0 ff_fmt A k 400 false [.code (bodyOf Tryd.f85)] (startEnv 54 [.int .i64 17, .int .i64 10]) [] = (((17 : Int) = (17 : Int) ∨ (17 : Int) = (3 : Int)) ∧ k [PV.str (itoa2 (17 : Int))] []) := by kernel_rfl
theorem nf_fmt_b (A : KA Kd) (k : List PV → Heap Kd → Prop)  : evT X0 ff_fmt A k 400 false [.code (bodyOf Tryd.f85)] (startEnv 54 [.int .i64 3, .int .i64 10]) [] = (((3 : Int) = (17 : Int) ∨ (3 : Int) = (3 : Int)) ∧ k [PV.str (itoa2 (3 : Int))] []) := by kernel_rfl
theorem ok_fmt : FunS B 85 fmtS := by
  refine funS_of (N := 54) (f := ff_fmt) env_X0 mixed fn_fmt (by kernel_rfl) (by kernel_rfl) (by kernel_rfl) fmtS_mono ?_
  intro A k ys hA hF
  obtain ⟨n, b, rfl, ⟨hn, rfl⟩, hk⟩ := fmtS_inv hF; clear hF
  rcases hn with rfl | rfl
  · exact ⟨by kernel_rfl, hA.nf (nf_fmt_a A k) ⟨by decide, hk⟩⟩
  · exact ⟨by kernel_rfl, hA.nf (nf_fmt_b A k) ⟨by decide, hk⟩⟩
noncomputable def X1 := base (fun g => match g with | 40 => some (lift 0 namesF) | 54 => some (lift 0 namesF) | _ => none) (fun g => match g with | 39 => some nameS | 18 => some nameS | 17 => some newS | 16 => some atS | 22 => some inS | 86 => some itoaS | 85 => some fmtS | _ => none) (fun _ => none)
theorem env_X1 : EnvOk X1 := env_of (by
    intro g F h
    split at h
    · cases h; exact ok_Name
    · cases h; exact ok_rName
    · cases h; exact ok_New
    · cases h; exact ok_At
    · cases h; exact ok_In
    · cases h; exact ok_small
    · cases h; exact ok_fmt
    · cases h) (by
    intro g F h
    split at h
    · cases h; exact (lift_ok ok_rnames)
    · cases h; exact (lift_ok ok_names)
    · cases h) (fun g F h => (by cases h))
theorem fn_itoaI : FnOk Tryd.prog 84 Tryd.f84 (bodyOf Tryd.f84) := ⟨by kernel_rfl, by kernel_rfl, by kernel_rfl⟩
noncomputable def ff_itoaI : Fun := ⟨Tryd.f84.ntmps, 0, Tryd.f84.results.toList, fun _ => none, fun _ => false, fun _ => []⟩
theorem nf_itoaI (A : KA Kd) (k : List PV → Heap Kd → Prop) (n : Int) : evT X1 ff_itoaI A k 400 false [.code (bodyOf Tryd.f84)] (startEnv 5 [.int .i64 n]) [] = (((n = (17 : Int) ∨ n = (3 : Int)) ∧ (10 : Int) = (10 : Int)) ∧ k [PV.str (itoa2 n)] []) := by kernel_rfl
theorem ok_itoaI : FunS B 84 itoaS := by
  refine funS_of (N := 5) (f := ff_itoaI) env_X1 mixed fn_itoaI (by kernel_rfl) (by kernel_rfl) (by kernel_rfl) itoaS_mono ?_
  intro A k ys hA hF
  obtain ⟨n, rfl, hn, hk⟩ := itoaS_inv hF; clear hF
  exact ⟨by kernel_rfl, hA.nf (nf_itoaI A k n) ⟨⟨hn, rfl⟩, hk⟩⟩
noncomputable def X2 := base (fun g => match g with | 40 => some (lift 0 namesF) | 54 => some (lift 0 namesF) | _ => none) (fun g => match g with | 39 => some nameS | 18 => some nameS | 17 => some newS | 16 => some atS | 22 => some inS | 86 => some itoaS | 85 => some fmtS | 84 => some itoaS | _ => none) (fun _ => none)
theorem env_X2 : EnvOk X2 := env_of (by
    intro g F h
    split at h
    · cases h; exact ok_Name
    · cases h; exact ok_rName
    · cases h; exact ok_New
    · cases h; exact ok_At
    · cases h; exact ok_In
    · cases h; exact ok_small
    · cases h; exact ok_fmt
    · cases h; exact ok_itoaI
    · cases h) (by
    intro g F h
    split at h
    · cases h; exact (lift_ok ok_rnames)
    · cases h; exact (lift_ok ok_names)
    · cases h) (fun g F h => (by cases h))
theorem fn_itoa : FnOk Tryd.prog 83 Tryd.f83 (bodyOf Tryd.f83) := ⟨by kernel_rfl, by kernel_rfl, by kernel_rfl⟩
noncomputable def ff_itoa : Fun := ⟨Tryd.f83.ntmps, 0, Tryd.f83.results.toList, fun _ => none, fun _ => false, fun _ => []⟩
theorem nf_itoa (A : KA Kd) (k : List PV → Heap Kd → Prop) (n : Int) : evT X2 ff_itoa A k 400 false [.code (bodyOf Tryd.f83)] (startEnv 5 [.int .i64 n]) [] = ((n = (17 : Int) ∨ n = (3 : Int)) ∧ k [PV.str (itoa2 n)] []) := by kernel_rfl
theorem ok_itoa : FunS B 83 itoaS := by
  refine funS_of (N := 5) (f := ff_itoa) env_X2 mixed fn_itoa (by kernel_rfl) (by kernel_rfl) (by kernel_rfl) itoaS_mono ?_
  intro A k ys hA hF
  obtain ⟨n, rfl, hn, hk⟩ := itoaS_inv hF; clear hF
  exact ⟨by kernel_rfl, hA.nf (nf_itoa A k n) ⟨hn, hk⟩⟩
noncomputable def X3 := base (fun g => match g with | 40 => some (lift 0 namesF) | 54 => some (lift 0 namesF) | _ => none) (fun g => match g with | 39 => some nameS | 18 => some nameS | 17 => some newS | 16 => some atS | 22 => some inS | 86 => some itoaS | 85 => some fmtS | 84 => some itoaS | 83 => some itoaS | _ => none) (fun _ => none)
theorem env_X3 : EnvOk X3 := env_of (by
    intro g F h
    split at h
    · cases h; exact ok_Name
    · cases h; exact ok_rName
    · cases h; exact ok_New
    · cases h; exact ok_At
    · cases h; exact ok_In
    · cases h; exact ok_small
    · cases h; exact ok_fmt
    · cases h; exact ok_itoaI
    · cases h; exact ok_itoa
    · cases h) (by
    intro g F h
    split at h
    · cases h; exact (lift_ok ok_rnames)
    · cases h; exact (lift_ok ok_names)
    · cases h) (fun g F h => (by cases h))
theorem m_cls : MethOk Tryd.prog 57 "Error" 80 := by intro v w; kernel_rfl
theorem m_sec : MethOk Tryd.prog 60 "Error" 81 := by intro v w; kernel_rfl
theorem m_plc : MethOk Tryd.prog 64 "Error" 97 := by intro v w; kernel_rfl
theorem no_ok (g : FuncId) : FunS B g noS := fun _ _ _ h => h.elim
theorem fn_clsE : FnOk Tryd.prog 80 Tryd.f80 (bodyOf Tryd.f80) := ⟨by kernel_rfl, by kernel_rfl, by kernel_rfl⟩
noncomputable def ff_clsE : Fun := ⟨Tryd.f80.ntmps, 0, Tryd.f80.results.toList, fun _ => none, fun _ => false, fun _ => []⟩
theorem nf_clsE (A : KA Kd) (k : List PV → Heap Kd → Prop) (n : Int) : evT X3 ff_clsE A k 400 false [.code (bodyOf Tryd.f80)] (startEnv 5 [.int .i64 n]) [] = (k [PV.str (nameOf n)] []) := by kernel_rfl
theorem ok_clsE : FunS B 80 nameS := by
  refine funS_of (N := 5) (f := ff_clsE) env_X3 mixed fn_clsE (by kernel_rfl) (by kernel_rfl) (by kernel_rfl) nameS_mono ?_
  intro A k ys hA hF
  obtain ⟨n, rfl, hk⟩ := nameS_inv hF; clear hF
  exact ⟨by kernel_rfl, hA.nf (nf_clsE A k n) hk⟩
def e1S : SpecS := fun ys Φ => match ys with
  | [.err (.cls k)] => (k = 12) ∧ Φ [.str tx1]
  | _ => False
theorem e1S_mono : MonoS e1S := by
  intro ys Φ Ψ h hF
  unfold e1S at hF ⊢
  split at hF
  · obtain ⟨hp, hk⟩ := hF; exact ⟨hp, h _ hk⟩
  · exact hF.elim
theorem e1S_inv {ys : List PV} {Φ : List PV → Prop} (h : e1S ys Φ) : ∃ (k : Int), ys = [.err (.cls k)] ∧ (k = 12) ∧ Φ [.str tx1] := by
  unfold e1S at h
  split at h
  · exact ⟨_, rfl, h⟩
  · exact h.elim
theorem ok_e1 : FunI B "Error" e1S := by
  refine funI_of (C := B) m_cls m_sec m_plc ok_clsE (no_ok _) (no_ok _) ?_
  intro e ys Φ hh
  obtain ⟨k, he, rfl, hp⟩ := e1S_inv hh
  cases he
  exact by_nf (q := Φ [.str tx1]) (by kernel_rfl) hp
noncomputable def X4 := base (fun g => match g with | 40 => some (lift 0 namesF) | 54 => some (lift 0 namesF) | _ => none) (fun g => match g with | 39 => some nameS | 18 => some nameS | 17 => some newS | 16 => some atS | 22 => some inS | 86 => some itoaS | 85 => some fmtS | 84 => some itoaS | 83 => some itoaS | _ => none) (fun g => match g with | "Error" => some e1S | _ => none)
theorem env_X4 : EnvOk X4 := env_of (by
    intro g F h
    split at h
    · cases h; exact ok_Name
    · cases h; exact ok_rName
    · cases h; exact ok_New
    · cases h; exact ok_At
    · cases h; exact ok_In
    · cases h; exact ok_small
    · cases h; exact ok_fmt
    · cases h; exact ok_itoaI
    · cases h; exact ok_itoa
    · cases h) (by
    intro g F h
    split at h
    · cases h; exact (lift_ok ok_rnames)
    · cases h; exact (lift_ok ok_names)
    · cases h) (by
    intro g F h
    split at h
    · cases h; exact ok_e1
    · cases h)
def p2S : SpecS := fun ys Φ => match ys with
  | [.el (.agg [.int .i64 n, .err (.cls k)]) 0] => (n = 17 ∧ k = 12) ∧ Φ [.str tx2]
  | _ => False
theorem p2S_mono : MonoS p2S := by
  intro ys Φ Ψ h hF
  unfold p2S at hF ⊢
  split at hF
  · obtain ⟨hp, hk⟩ := hF; exact ⟨hp, h _ hk⟩
  · exact hF.elim
theorem p2S_inv {ys : List PV} {Φ : List PV → Prop} (h : p2S ys Φ) : ∃ (n : Int) (k : Int), ys = [.el (.agg [.int .i64 n, .err (.cls k)]) 0] ∧ (n = 17 ∧ k = 12) ∧ Φ [.str tx2] := by
  unfold p2S at h
  split at h
  · exact ⟨_, _, rfl, h⟩
  · exact h.elim
theorem fn_plcE : FnOk Tryd.prog 97 Tryd.f97 (bodyOf Tryd.f97) := ⟨by kernel_rfl, by kernel_rfl, by kernel_rfl⟩
noncomputable def ff_plcE : Fun := ⟨Tryd.f97.ntmps, 0, Tryd.f97.results.toList, fun _ => none, fun _ => false, fun _ => []⟩
theorem nf_plcE (A : KA Kd) (k : List PV → Heap Kd → Prop)  : evT X4 ff_plcE A k 400 false [.code (bodyOf Tryd.f97)] (startEnv 16 [.el (.agg [.int .i64 17, .err (.cls 12)]) 0]) [] = (((17 : Int) = (17 : Int) ∨ (17 : Int) = (3 : Int)) ∧ (ByteArray.mk #[(97 : UInt8), (116 : UInt8), (32 : UInt8)]).size + (itoa2 (17 : Int)).size ≤ (9223372036854775807 : Nat) ∧ (ByteArray.mk #[(97 : UInt8), (116 : UInt8), (32 : UInt8)] ++ itoa2 (17 : Int)).size + (ByteArray.mk #[(58 : UInt8), (32 : UInt8)]).size ≤ (9223372036854775807 : Nat) ∧ (12 : Int) = (12 : Int) ∧ (ByteArray.mk #[(97 : UInt8), (116 : UInt8), (32 : UInt8)] ++ itoa2 (17 : Int) ++ ByteArray.mk #[(58 : UInt8), (32 : UInt8)]).size + tx1.size ≤ (9223372036854775807 : Nat) ∧ k [PV.str (ByteArray.mk #[(97 : UInt8), (116 : UInt8), (32 : UInt8)] ++ itoa2 (17 : Int) ++ ByteArray.mk #[(58 : UInt8), (32 : UInt8)] ++ tx1)] []) := by kernel_rfl
theorem ok_plcE : FunS B 97 p2S := by
  refine funS_of (N := 16) (f := ff_plcE) env_X4 mixed fn_plcE (by kernel_rfl) (by kernel_rfl) (by kernel_rfl) p2S_mono ?_
  intro A k ys hA hF
  obtain ⟨n, k2, rfl, ⟨rfl, rfl⟩, hk⟩ := p2S_inv hF; clear hF
  exact ⟨by kernel_rfl, hA.nf (nf_plcE A k) ⟨by decide, by decide, by decide, rfl, by decide, hk⟩⟩
def e2S : SpecS := fun ys Φ => match ys with
  | [.err (.plc n (.cls k))] => (n = 17 ∧ k = 12) ∧ Φ [.str tx2]
  | _ => False
theorem e2S_mono : MonoS e2S := by
  intro ys Φ Ψ h hF
  unfold e2S at hF ⊢
  split at hF
  · obtain ⟨hp, hk⟩ := hF; exact ⟨hp, h _ hk⟩
  · exact hF.elim
theorem e2S_inv {ys : List PV} {Φ : List PV → Prop} (h : e2S ys Φ) : ∃ (n : Int) (k : Int), ys = [.err (.plc n (.cls k))] ∧ (n = 17 ∧ k = 12) ∧ Φ [.str tx2] := by
  unfold e2S at h
  split at h
  · exact ⟨_, _, rfl, h⟩
  · exact h.elim
theorem ok_e2 : FunI B "Error" e2S := by
  refine funI_of (C := B) m_cls m_sec m_plc (no_ok _) (no_ok _) ok_plcE ?_
  intro e ys Φ hh
  obtain ⟨n, k, he, ⟨rfl, rfl⟩, hp⟩ := e2S_inv hh
  cases he
  exact ⟨⟨rfl, rfl⟩, hp⟩
noncomputable def X5 := base (fun g => match g with | 40 => some (lift 0 namesF) | 54 => some (lift 0 namesF) | _ => none) (fun g => match g with | 39 => some nameS | 18 => some nameS | 17 => some newS | 16 => some atS | 22 => some inS | 86 => some itoaS | 85 => some fmtS | 84 => some itoaS | 83 => some itoaS | _ => none) (fun g => match g with | "Error" => some e2S | _ => none)
theorem env_X5 : EnvOk X5 := env_of (by
    intro g F h
    split at h
    · cases h; exact ok_Name
    · cases h; exact ok_rName
    · cases h; exact ok_New
    · cases h; exact ok_At
    · cases h; exact ok_In
    · cases h; exact ok_small
    · cases h; exact ok_fmt
    · cases h; exact ok_itoaI
    · cases h; exact ok_itoa
    · cases h) (by
    intro g F h
    split at h
    · cases h; exact (lift_ok ok_rnames)
    · cases h; exact (lift_ok ok_names)
    · cases h) (by
    intro g F h
    split at h
    · cases h; exact ok_e2
    · cases h)
def p3S : SpecS := fun ys Φ => match ys with
  | [.el (.agg [.int .i64 n, .err (.plc m (.cls k))]) 0] => (n = 3 ∧ m = 17 ∧ k = 12) ∧ Φ [.str tx3]
  | _ => False
theorem p3S_mono : MonoS p3S := by
  intro ys Φ Ψ h hF
  unfold p3S at hF ⊢
  split at hF
  · obtain ⟨hp, hk⟩ := hF; exact ⟨hp, h _ hk⟩
  · exact hF.elim
theorem p3S_inv {ys : List PV} {Φ : List PV → Prop} (h : p3S ys Φ) : ∃ (n : Int) (m : Int) (k : Int), ys = [.el (.agg [.int .i64 n, .err (.plc m (.cls k))]) 0] ∧ (n = 3 ∧ m = 17 ∧ k = 12) ∧ Φ [.str tx3] := by
  unfold p3S at h
  split at h
  · exact ⟨_, _, _, rfl, h⟩
  · exact h.elim
theorem fn_secE : FnOk Tryd.prog 81 Tryd.f81 (bodyOf Tryd.f81) := ⟨by kernel_rfl, by kernel_rfl, by kernel_rfl⟩
noncomputable def ff_secE : Fun := ⟨Tryd.f81.ntmps, 0, Tryd.f81.results.toList, fun _ => none, fun _ => false, fun _ => []⟩
theorem nf_secE (A : KA Kd) (k : List PV → Heap Kd → Prop)  : evT X5 ff_secE A k 400 false [.code (bodyOf Tryd.f81)] (startEnv 16 [.el (.agg [.int .i64 3, .err (.plc 17 (.cls 12))]) 0]) [] = (((3 : Int) = (17 : Int) ∨ (3 : Int) = (3 : Int)) ∧ (ByteArray.mk #[(115 : UInt8), (101 : UInt8), (99 : UInt8), (116 : UInt8), (105 : UInt8), (111 : UInt8), (110 : UInt8), (32 : UInt8)]).size + (itoa2 (3 : Int)).size ≤ (9223372036854775807 : Nat) ∧ (ByteArray.mk #[(115 : UInt8), (101 : UInt8), (99 : UInt8), (116 : UInt8), (105 : UInt8), (111 : UInt8), (110 : UInt8), (32 : UInt8)] ++ itoa2 (3 : Int)).size + (ByteArray.mk #[(58 : UInt8), (32 : UInt8)]).size ≤ (9223372036854775807 : Nat) ∧ ((17 : Int) = (17 : Int) ∧ (12 : Int) = (12 : Int)) ∧ (ByteArray.mk #[(115 : UInt8), (101 : UInt8), (99 : UInt8), (116 : UInt8), (105 : UInt8), (111 : UInt8), (110 : UInt8), (32 : UInt8)] ++ itoa2 (3 : Int) ++ ByteArray.mk #[(58 : UInt8), (32 : UInt8)]).size + tx2.size ≤ (9223372036854775807 : Nat) ∧ k [PV.str (ByteArray.mk #[(115 : UInt8), (101 : UInt8), (99 : UInt8), (116 : UInt8), (105 : UInt8), (111 : UInt8), (110 : UInt8), (32 : UInt8)] ++ itoa2 (3 : Int) ++ ByteArray.mk #[(58 : UInt8), (32 : UInt8)] ++ tx2)] []) := by kernel_rfl
theorem ok_secE : FunS B 81 p3S := by
  refine funS_of (N := 16) (f := ff_secE) env_X5 mixed fn_secE (by kernel_rfl) (by kernel_rfl) (by kernel_rfl) p3S_mono ?_
  intro A k ys hA hF
  obtain ⟨n, m, k2, rfl, ⟨rfl, rfl, rfl⟩, hk⟩ := p3S_inv hF; clear hF
  exact ⟨by kernel_rfl, hA.nf (nf_secE A k) ⟨by decide, by decide, by decide, ⟨rfl, rfl⟩, by decide, hk⟩⟩
def e3S : SpecS := fun ys Φ => match ys with
  | [.err (.sec n (.plc m (.cls k)))] => (n = 3 ∧ m = 17 ∧ k = 12) ∧ Φ [.str tx3]
  | _ => False
theorem e3S_mono : MonoS e3S := by
  intro ys Φ Ψ h hF
  unfold e3S at hF ⊢
  split at hF
  · obtain ⟨hp, hk⟩ := hF; exact ⟨hp, h _ hk⟩
  · exact hF.elim
theorem e3S_inv {ys : List PV} {Φ : List PV → Prop} (h : e3S ys Φ) : ∃ (n : Int) (m : Int) (k : Int), ys = [.err (.sec n (.plc m (.cls k)))] ∧ (n = 3 ∧ m = 17 ∧ k = 12) ∧ Φ [.str tx3] := by
  unfold e3S at h
  split at h
  · exact ⟨_, _, _, rfl, h⟩
  · exact h.elim
theorem ok_e3 : FunI B "Error" e3S := by
  refine funI_of (C := B) m_cls m_sec m_plc (no_ok _) ok_secE (no_ok _) ?_
  intro e ys Φ hh
  obtain ⟨n, m, k, he, ⟨rfl, rfl, rfl⟩, hp⟩ := e3S_inv hh
  cases he
  exact ⟨⟨rfl, rfl, rfl⟩, hp⟩
noncomputable def X6 := base (fun g => match g with | 40 => some (lift 0 namesF) | 54 => some (lift 0 namesF) | _ => none) (fun g => match g with | 39 => some nameS | 18 => some nameS | 17 => some newS | 16 => some atS | 22 => some inS | 86 => some itoaS | 85 => some fmtS | 84 => some itoaS | 83 => some itoaS | _ => none) (fun g => match g with | "Error" => some e3S | _ => none)
theorem env_X6 : EnvOk X6 := env_of (by
    intro g F h
    split at h
    · cases h; exact ok_Name
    · cases h; exact ok_rName
    · cases h; exact ok_New
    · cases h; exact ok_At
    · cases h; exact ok_In
    · cases h; exact ok_small
    · cases h; exact ok_fmt
    · cases h; exact ok_itoaI
    · cases h; exact ok_itoa
    · cases h) (by
    intro g F h
    split at h
    · cases h; exact (lift_ok ok_rnames)
    · cases h; exact (lift_ok ok_names)
    · cases h) (by
    intro g F h
    split at h
    · cases h; exact ok_e3
    · cases h)
theorem fn_text : FnOk Tryd.prog 38 Tryd.f38 (bodyOf Tryd.f38) := ⟨by kernel_rfl, by kernel_rfl, by kernel_rfl⟩
noncomputable def ff_text : Fun := ⟨Tryd.f38.ntmps, 0, Tryd.f38.results.toList, fun _ => none, fun _ => false, fun _ => []⟩
theorem nf_text (A : KA Kd) (k : List PV → Heap Kd → Prop)  : evT X6 ff_text A k 400 false [.code (bodyOf Tryd.f38)] (startEnv 7 [.err (.sec 3 (.plc 17 (.cls 12)))]) [] = (((3 : Int) = (3 : Int) ∧ (17 : Int) = (17 : Int) ∧ (12 : Int) = (12 : Int)) ∧ k [PV.str tx3] []) := by kernel_rfl
theorem ok_text : FunS B 38 e3S := by
  refine funS_of (N := 7) (f := ff_text) env_X6 mixed fn_text (by kernel_rfl) (by kernel_rfl) (by kernel_rfl) e3S_mono ?_
  intro A k ys hA hF
  obtain ⟨n, m, k2, rfl, ⟨rfl, rfl, rfl⟩, hk⟩ := e3S_inv hF; clear hF
  exact ⟨by kernel_rfl, hA.nf (nf_text A k) ⟨⟨rfl, rfl, rfl⟩, hk⟩⟩
noncomputable def X7 := base (fun g => match g with | 40 => some (lift 0 namesF) | 54 => some (lift 0 namesF) | _ => none) (fun g => match g with | 39 => some nameS | 18 => some nameS | 17 => some newS | 16 => some atS | 22 => some inS | 86 => some itoaS | 85 => some fmtS | 84 => some itoaS | 83 => some itoaS | 38 => some e3S | _ => none) (fun g => match g with | "Error" => some e3S | _ => none)
theorem env_X7 : EnvOk X7 := env_of (by
    intro g F h
    split at h
    · cases h; exact ok_Name
    · cases h; exact ok_rName
    · cases h; exact ok_New
    · cases h; exact ok_At
    · cases h; exact ok_In
    · cases h; exact ok_small
    · cases h; exact ok_fmt
    · cases h; exact ok_itoaI
    · cases h; exact ok_itoa
    · cases h; exact ok_text
    · cases h) (by
    intro g F h
    split at h
    · cases h; exact (lift_ok ok_rnames)
    · cases h; exact (lift_ok ok_names)
    · cases h) (by
    intro g F h
    split at h
    · cases h; exact ok_e3
    · cases h)
theorem fn_awake03 : FnOk Tryd.prog 15 Tryd.f15 (bodyOf Tryd.f15) := ⟨by kernel_rfl, by kernel_rfl, by kernel_rfl⟩
noncomputable def ff_awake03 : Fun := ⟨Tryd.f15.ntmps, 0, Tryd.f15.results.toList, fun _ => none, fun _ => false, fun _ => []⟩
theorem nf_awake03 (A : KA Kd) (k : List PV → Heap Kd → Prop)  : evT X7 ff_awake03 A k 400 false [.code (bodyOf Tryd.f15)] (startEnv 6 []) [] = (((3 : Int) = (3 : Int) ∧ (17 : Int) = (17 : Int) ∧ (12 : Int) = (12 : Int)) ∧ k [PV.bool (tx3.toList == (ByteArray.mk #[(115 : UInt8), (101 : UInt8), (99 : UInt8), (116 : UInt8), (105 : UInt8), (111 : UInt8), (110 : UInt8), (32 : UInt8), (51 : UInt8), (58 : UInt8), (32 : UInt8), (97 : UInt8), (116 : UInt8), (32 : UInt8), (49 : UInt8), (55 : UInt8), (58 : UInt8), (32 : UInt8), (111 : UInt8), (118 : UInt8), (101 : UInt8), (114 : UInt8), (108 : UInt8), (97 : UInt8), (112 : UInt8)]).toList)] []) := by kernel_rfl
def trueS : SpecS := fun ys Φ => match ys with
  | [] => Φ [.bool true]
  | _ => False
theorem trueS_mono : MonoS trueS := by
  intro ys Φ Ψ h hF
  unfold trueS at hF ⊢
  split at hF
  · exact h _ hF
  · exact hF.elim
theorem trueS_inv {ys : List PV} {Φ : List PV → Prop} (h : trueS ys Φ) : ys = [] ∧ Φ [.bool true] := by
  unfold trueS at h
  split at h
  · exact ⟨rfl, h⟩
  · exact h.elim
theorem ok_awake03 : FunS B 15 trueS := by
  refine funS_of (N := 6) (f := ff_awake03) env_X7 mixed fn_awake03 (by kernel_rfl) (by kernel_rfl) (by kernel_rfl) trueS_mono ?_
  intro A k ys hA hF
  obtain ⟨rfl, hk⟩ := trueS_inv hF; clear hF
  refine ⟨by kernel_rfl, hA.nf (nf_awake03 A k) ⟨⟨rfl, rfl, rfl⟩, ?_⟩⟩
  have : (tx3.toList == (ByteArray.mk #[115, 101, 99, 116, 105, 111, 110, 32, 51, 58, 32, 97, 116, 32, 49, 55, 58, 32, 111, 118, 101, 114, 108, 97, 112]).toList) = true := beq_self_eq_true _
  rw [this]; exact hk
noncomputable def X8 := base (fun g => match g with | 40 => some (lift 0 namesF) | 54 => some (lift 0 namesF) | _ => none) (fun g => match g with | 39 => some nameS | 18 => some nameS | 17 => some newS | 16 => some atS | 22 => some inS | 86 => some itoaS | 85 => some fmtS | 84 => some itoaS | 83 => some itoaS | 38 => some e3S | 15 => some trueS | _ => none) (fun g => match g with | "Error" => some e3S | _ => none)
theorem env_X8 : EnvOk X8 := env_of (by
    intro g F h
    split at h
    · cases h; exact ok_Name
    · cases h; exact ok_rName
    · cases h; exact ok_New
    · cases h; exact ok_At
    · cases h; exact ok_In
    · cases h; exact ok_small
    · cases h; exact ok_fmt
    · cases h; exact ok_itoaI
    · cases h; exact ok_itoa
    · cases h; exact ok_text
    · cases h; exact ok_awake03
    · cases h) (by
    intro g F h
    split at h
    · cases h; exact (lift_ok ok_rnames)
    · cases h; exact (lift_ok ok_names)
    · cases h) (by
    intro g F h
    split at h
    · cases h; exact ok_e3
    · cases h)
def firstS : SpecS := fun ys Φ => match ys with
  | [x_0] => ∃ (l : List Err), x_0 = .sl _ e_error l ∧ (l.length < 4611686018427387904) ∧ Φ [.err (firstE l)]
  | _ => False
theorem firstS_mono : MonoS firstS := by
  intro ys Φ Ψ h hF
  unfold firstS at hF ⊢
  split at hF
  · obtain ⟨a0, q0, hp, hk⟩ := hF; exact ⟨a0, q0, hp, h _ hk⟩
  · exact hF.elim
theorem firstS_inv {ys : List PV} {Φ : List PV → Prop} (h : firstS ys Φ) : ∃ (l : List Err), ys = [.sl _ e_error l] ∧ (l.length < 4611686018427387904) ∧ Φ [.err (firstE l)] := by
  unfold firstS at h
  split at h
  · obtain ⟨a0, q0, hz⟩ := h
    subst q0
    exact ⟨a0, rfl, hz⟩
  · exact h.elim
theorem fn_first : FnOk Tryd.prog 19 Tryd.f19 (bodyOf Tryd.f19) := ⟨by kernel_rfl, by kernel_rfl, by kernel_rfl⟩
noncomputable def ff_first : Fun := ⟨Tryd.f19.ntmps, 0, Tryd.f19.results.toList, fun i => match i with | 2 => some [5, 6, 7] | _ => none, fun _ => false, fun _ => []⟩
theorem nf_first_a (A : KA Kd) (k : List PV → Heap Kd → Prop) (l : List Err) : evT X8 ff_first A k 400 false [.code (bodyOf Tryd.f19)] (startEnv 15 [.sl _ e_error l]) [] = (A (td Tryd.f19 (2 : Nat)) (envAt (15 : Nat) [((5 : Nat), PV.sl Err e_error l), ((6 : Nat), PV.int IntKind.i64 (↑l.length : Int)), ((7 : Nat), PV.int IntKind.i64 (0 : Int))]) []) := by kernel_rfl
theorem nf_first_b (A : KA Kd) (k : List PV → Heap Kd → Prop) (l : List Err) (n i : Int) : evT X8 ff_first A k 400 true (td Tryd.f19 2) (envAt 15 [(5, .sl _ e_error l), (6, .int .i64 n), (7, .int .i64 i)]) [] = (bif decide (i < n) then ((0 : Int) ≤ i ∧ i < (↑l.length : Int)) ∧ ∀ (y : Err), l[i.toNat]? = some y → bif !y.isNil then k [PV.err y] [] else A (td Tryd.f19 (2 : Nat)) (envAt (15 : Nat) [((5 : Nat), PV.sl Err e_error l), ((6 : Nat), PV.int IntKind.i64 n), ((7 : Nat), PV.int IntKind.i64 (IntKind.i64.wrap (i + (1 : Int))))]) []
else k [PV.err Err.nil] []) := by kernel_rfl
theorem ok_first : FunS B 19 firstS := by
  refine funS_of (N := 15) (f := ff_first) env_X8 mixed fn_first (by kernel_rfl) (by kernel_rfl) (by kernel_rfl) firstS_mono ?_
  intro A k ys hA hF
  obtain ⟨l, rfl, hl, hk⟩ := firstS_inv hF; clear hF
  refine ⟨by kernel_rfl, (hA.nf (nf_first_a A k l) ?_)⟩
  refine down_loop l (fun i => k [.err (firstE (l.drop i))] [] → A (td Tryd.f19 2) (envAt 15 [(5, .sl _ e_error l), (6, .int .i64 (l.length : Int)), (7, .int .i64 (i : Int))]) []) ?_ ?_ 0 (Nat.zero_le _) hk
  · intro hk
    refine (hA.nf (nf_first_b A k l _ _) ?_)
    rw [ilt_false (Nat.lt_irrefl _)]
    rw [List.drop_length] at hk; exact hk
  · intro i y hy ih hk
    have hlt := lt_of_get hy
    refine (hA.nf (nf_first_b A k l _ _) ?_)
    rw [ilt_true hlt, cond_true]
    refine get_at hy ?_
    rw [drop_cons' hy, firstE] at hk
    cases c1 : y.isNil with
    | false => rw [c1] at hk; exact hk
    | true => rw [c1] at hk; rw [Bool.not_true, cond_false, wrap_succ (by omega)]; exact ih hk
end Go.Ab.T
