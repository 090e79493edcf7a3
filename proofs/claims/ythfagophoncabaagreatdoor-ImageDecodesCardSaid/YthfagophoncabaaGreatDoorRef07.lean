import Derived.Test.YthfagophoncabaaGreatDoorRef05
import Derived.Test.YthfagophoncabaaGreatDoorMaB
set_option linter.unusedVariables false
set_option linter.unusedSimpArgs false
set_option linter.unusedSectionVars false
namespace Go.Ab.T
open Go Go.Ab Go.Proofs
variable [DMode]
set_option maxRecDepth 100000
set_option maxHeartbeats 4000000
noncomputable def S0 := base (fun _ => none) (fun _ => none) (fun _ => none)
theorem env_S0 : EnvOk S0 := env_of (fun g F h => (by cases h)) (fun g F h => (by cases h)) (fun g F h => (by cases h))
def fineRSb : SpecS := fun ys Φ => match ys with
 | [.int .i64 i, .int .i64 n] => (0 <= i /\ i < 5) /\ Φ [.bool (fineQ i n)]
 | _ => False
theorem fineRSb_mono : MonoS fineRSb := by
 intro ys Φ Ψ h hF
 unfold fineRSb at hF ⊢
 split at hF
 ·obtain ⟨hp, hk⟩ := hF; exact ⟨hp, h _ hk⟩
 ·exact hF.elim
theorem fineRSb_inv {ys : List PV} {Φ : List PV -> Prop} (h : fineRSb ys Φ) : ∃ (i : Int) (n : Int), ys = [.int .i64 i, .int .i64 n] /\ (0 <= i /\ i < 5) /\ Φ [.bool (fineQ i n)] := by
 unfold fineRSb at h
 split at h
 ·exact ⟨_, _, rfl, h⟩
 ·exact h.elim
theorem fn_rFine7 : FnOk Tryz.prog 79 Tryz.f79 (bodyOf Tryz.f79) := ⟨by kernel_rfl, by kernel_rfl, by kernel_rfl⟩
noncomputable def ff_rFine7 : Fun := ⟨Tryz.f79.ntmps, 0, Tryz.f79.results.toList, fun _ => none, fun _ => false, fun _ => []⟩
theorem nf_rFine7 (A : KA Kd) (k : List PV -> Heap Kd -> Prop) (i n : Int) : evT S0 ff_rFine7 A k 400 false [.code (bodyOf Tryz.f79)] (startEnv 25 [.int .i64 i, .int .i64 n]) [] = (∃ (zs : List Int), List.map e_int zs = [PV.int IntKind.i64 0, PV.int IntKind.i64 32, PV.int IntKind.i64 16, PV.int IntKind.i64 240, PV.int IntKind.i64 512] /\ (0 <= i /\ i < (↑zs.length : Int)) /\ ∀ (y : Int), zs[i.toNat]? = some y -> bif decide (n <= y) then bif decide (n >= 1) then k [.bool true] [] else bif decide (i >= 3) then k [.bool (n == 0)] [] else k [.bool false] [] else k [.bool false] []) := by kernel_rfl
theorem ok_rFine7 : FunS B 79 fineRSb := by
 refine funS_of (N := 25) (f := ff_rFine7) env_S0 mixed fn_rFine7 (by kernel_rfl) (by kernel_rfl) (by kernel_rfl) fineRSb_mono ?_
 intro A k ys hA hF
 obtain ⟨i, n, rfl, ⟨h0, h1⟩, hk⟩ := fineRSb_inv hF; clear hF
 refine ⟨by kernel_rfl, (hA.nf (nf_rFine7 A k i n) ?_)⟩
 refine ⟨[0, 32, 16, 240, 512], rfl, ⟨h0, h1⟩, fun y hy => ?_⟩
 obtain rfl : y = mostQ i := mostQ_get h0 h1 hy
 unfold fineQ at hk
 cases c1 : decide (n <= mostQ i) with
 | false => rw [c1] at hk; exact hk
 | true =>
  rw [c1] at hk
  cases c2 : decide (n >= 1) with
  | true => rw [c2] at hk; exact hk
  | false =>
   rw [c2] at hk
   cases c3 : decide (i >= 3) with
   | true => rw [c3] at hk; exact hk
   | false => rw [c3] at hk; exact hk
noncomputable def S1 := base (fun _ => none) (fun g => match g with | 57 => some rFailS | 122 => some rNumS | 79 => some fineRSb | _ => none) (fun _ => none)
theorem env_S1 : EnvOk S1 := env_of (by
 intro g F h
 split at h
 ·cases h; exact ok_rFail
 ·cases h; exact ok_rNum
 ·cases h; exact ok_rFine7
 ·cases h) (fun g F h => (by cases h)) (fun g F h => (by cases h))
theorem fn_rGetH : FnOk Tryz.prog 51 Tryz.f51 (bodyOf Tryz.f51) := ⟨by kernel_rfl, by kernel_rfl, by kernel_rfl⟩
noncomputable def ff_rGetH : Fun := ⟨Tryz.f51.ntmps, 0, Tryz.f51.results.toList, fun i => match i with | 17 => some [1, 2, 3, 8, 12, 13] | 3 => some [1, 2, 3, 4] | 24 => some [1, 2, 3, 8, 12, 13, 16] | _ => none, fun i => match i with | 24 => true | _ => false, fun i => match i with | 34 => [1,2] | _ => []⟩
theorem nf_rGetH_a (A : KA Kd) (k : List PV -> Heap Kd -> Prop) (s : ByteArray) (a sec f1 f2 f3 : Int) : evT S1 ff_rGetH A k 400 false [.code (bodyOf Tryz.f51)] (startEnv 126 [.agg [.str s, .int .i64 a, .int .i64 sec, .int .i64 f1, .int .i64 f2, .int .i64 f3]]) [] = (A (td Tryz.f51 3) (envAt 126 [(1, .ptr 0 0), (2, .ptr 1 0), (3, .ptr 2 0), (4, .int .i64 0)]) [.box [.str s, .int .i64 a, .int .i64 1, .int .i64 f1, .int .i64 f2, .int .i64 f3], .box [.str ⟨#[]⟩, .int .i64 0, .int .i64 0, .int .i64 0, .int .i64 0, .int .i64 0], .box [.int .u32 0, .int .u64 0, .int .i64 0, .int .i64 0, .int .i64 0, .int .i64 0, .int .i64 0]]) := by kernel_rfl
theorem nf_rGetH_b (A : KA Kd) (k : List PV -> Heap Kd -> Prop) (s : ByteArray) (a f1 f2 f3 i : Int) : evT S1 ff_rGetH A k 400 true (td Tryz.f51 3) (envAt 126 [(1, .ptr 0 0), (2, .ptr 1 0), (3, .ptr 2 0), (4, .int .i64 i)]) [.box [.str s, .int .i64 a, .int .i64 1, .int .i64 f1, .int .i64 f2, .int .i64 f3], .box [.str ⟨#[]⟩, .int .i64 0, .int .i64 0, .int .i64 0, .int .i64 0, .int .i64 0], .box [.int .u32 0, .int .u64 0, .int .i64 0, .int .i64 0, .int .i64 0, .int .i64 0, .int .i64 0]] = (bif decide (i < 4) then s.size < 4611686018427387904 /\ bif (nF s a 1 1 (f1, f2, f3)).fst == 0 then (0 <= i /\ i < (↑(ByteArray.mk #[(67 : UInt8), (87 : UInt8), (77 : UInt8), (49 : UInt8)]).size : Int)) /\ ∀ (b : UInt8), (ByteArray.mk #[(67 : UInt8), (87 : UInt8), (77 : UInt8), (49 : UInt8)])[i.toNat]? = some b -> bif IntKind.u8.wrap (nV s a 1 (f1, f2, f3)) != (↑b.toNat : Int) then A (td Tryz.f51 3) (envAt 126 [(1, .ptr 0 0), (2, .ptr 1 0), (3, .ptr 2 0), (4, .int .i64 (IntKind.i64.wrap (i + 1)))]) [.box [.str s, .int .i64 (nAt s a 1 (f1, f2, f3)), .int .i64 1, .int .i64 (rFail (nF s a 1 1 (f1, f2, f3)) 1 3 a).fst, .int .i64 (rFail (nF s a 1 1 (f1, f2, f3)) 1 3 a).snd.fst, .int .i64 (rFail (nF s a 1 1 (f1, f2, f3)) 1 3 a).snd.snd], .box [.str ⟨#[]⟩, .int .i64 0, .int .i64 0, .int .i64 0, .int .i64 0, .int .i64 0], .box [.int .u32 0, .int .u64 0, .int .i64 0, .int .i64 0, .int .i64 0, .int .i64 0, .int .i64 0]] else A (td Tryz.f51 3) (envAt 126 [(1, .ptr 0 0), (2, .ptr 1 0), (3, .ptr 2 0), (4, .int .i64 (IntKind.i64.wrap (i + 1)))]) [.box [.str s, .int .i64 (nAt s a 1 (f1, f2, f3)), .int .i64 1, .int .i64 (nF s a 1 1 (f1, f2, f3)).fst, .int .i64 (nF s a 1 1 (f1, f2, f3)).snd.fst, .int .i64 (nF s a 1 1 (f1, f2, f3)).snd.snd], .box [.str ⟨#[]⟩, .int .i64 0, .int .i64 0, .int .i64 0, .int .i64 0, .int .i64 0], .box [.int .u32 0, .int .u64 0, .int .i64 0, .int .i64 0, .int .i64 0, .int .i64 0, .int .i64 0]] else A (td Tryz.f51 3) (envAt 126 [(1, .ptr 0 0), (2, .ptr 1 0), (3, .ptr 2 0), (4, .int .i64 (IntKind.i64.wrap (i + 1)))]) [.box [.str s, .int .i64 (nAt s a 1 (f1, f2, f3)), .int .i64 1, .int .i64 (nF s a 1 1 (f1, f2, f3)).fst, .int .i64 (nF s a 1 1 (f1, f2, f3)).snd.fst, .int .i64 (nF s a 1 1 (f1, f2, f3)).snd.snd], .box [.str ⟨#[]⟩, .int .i64 0, .int .i64 0, .int .i64 0, .int .i64 0, .int .i64 0], .box [.int .u32 0, .int .u64 0, .int .i64 0, .int .i64 0, .int .i64 0, .int .i64 0, .int .i64 0]]
else s.size < (4611686018427387904 : Nat) /\ s.size < (4611686018427387904 : Nat) /\ s.size < (4611686018427387904 : Nat) /\ ∃ (zs : List Int), List.map e_int zs = [PV.int IntKind.i64 (0 : Int), PV.int IntKind.i64 (1 : Int), PV.int IntKind.i64 (1 : Int), PV.int IntKind.i64 (2 : Int), PV.int IntKind.i64 (2 : Int)] /\ A (td Tryz.f51 (17 : Nat)) (envAt (126 : Nat) [((1 : Nat), PV.ptr (0 : Nat) (0 : Nat)), ((2 : Nat), PV.ptr (1 : Nat) (0 : Nat)), ((3 : Nat), PV.ptr (2 : Nat) (0 : Nat)), ((8 : Nat), PV.ptr (3 : Nat) (0 : Nat)), ((12 : Nat), PV.own (4 : Nat)), ((13 : Nat), PV.int IntKind.i64 (1 : Int))]) [AObj.box [PV.str s, PV.int IntKind.i64 (nAt s (nAt s (nAt s a (4 : Int) (f1, f2, f3)) (8 : Int) (nF s a (4 : Int) (1 : Int) (f1, f2, f3))) (1 : Int) (nF s (nAt s a (4 : Int) (f1, f2, f3)) (8 : Int) (1 : Int) (nF s a (4 : Int) (1 : Int) (f1, f2, f3)))), PV.int IntKind.i64 (1 : Int), PV.int IntKind.i64 (nF s (nAt s (nAt s a (4 : Int) (f1, f2, f3)) (8 : Int) (nF s a (4 : Int) (1 : Int) (f1, f2, f3))) (1 : Int) (1 : Int) (nF s (nAt s a (4 : Int) (f1, f2, f3)) (8 : Int) (1 : Int) (nF s a (4 : Int) (1 : Int) (f1, f2, f3)))).fst, PV.int IntKind.i64 (nF s (nAt s (nAt s a (4 : Int) (f1, f2, f3)) (8 : Int) (nF s a (4 : Int) (1 : Int) (f1, f2, f3))) (1 : Int) (1 : Int) (nF s (nAt s a (4 : Int) (f1, f2, f3)) (8 : Int) (1 : Int) (nF s a (4 : Int) (1 : Int) (f1, f2, f3)))).snd.fst, PV.int IntKind.i64 (nF s (nAt s (nAt s a (4 : Int) (f1, f2, f3)) (8 : Int) (nF s a (4 : Int) (1 : Int) (f1, f2, f3))) (1 : Int) (1 : Int) (nF s (nAt s a (4 : Int) (f1, f2, f3)) (8 : Int) (1 : Int) (nF s a (4 : Int) (1 : Int) (f1, f2, f3)))).snd.snd], AObj.box [PV.str (ByteArray.mk #[]), PV.int IntKind.i64 (0 : Int), PV.int IntKind.i64 (0 : Int), PV.int IntKind.i64 (0 : Int), PV.int IntKind.i64 (0 : Int), PV.int IntKind.i64 (0 : Int)], AObj.box [PV.int IntKind.u32 (0 : Int), PV.int IntKind.u64 (0 : Int), PV.int IntKind.i64 (0 : Int), PV.int IntKind.i64 (0 : Int), PV.int IntKind.i64 (0 : Int), PV.int IntKind.i64 (0 : Int), PV.int IntKind.i64 (0 : Int)], AObj.box [PV.int IntKind.u32 (IntKind.u32.wrap (nV s a (4 : Int) (f1, f2, f3))), PV.int IntKind.u64 (nV s (nAt s a (4 : Int) (f1, f2, f3)) (8 : Int) (nF s a (4 : Int) (1 : Int) (f1, f2, f3))), PV.int IntKind.i64 (IntKind.i64.wrap (nV s (nAt s (nAt s a (4 : Int) (f1, f2, f3)) (8 : Int) (nF s a (4 : Int) (1 : Int) (f1, f2, f3))) (1 : Int) (nF s (nAt s a (4 : Int) (f1, f2, f3)) (8 : Int) (1 : Int) (nF s a (4 : Int) (1 : Int) (f1, f2, f3))))), PV.int IntKind.i64 (0 : Int), PV.int IntKind.i64 (0 : Int), PV.int IntKind.i64 (0 : Int), PV.int IntKind.i64 (0 : Int)], AObj.row (3 : Nat) zs]) := by kernel_rfl
theorem nf_rGetH_c (A : KA Kd) (k : List PV -> Heap Kd -> Prop) (s : ByteArray) (a f1 f2 f3 h0 h1 h2 h3 h4 h5 h6 i : Int) : evT S1 ff_rGetH A k 400 true (td Tryz.f51 17) (envAt 126 [(1, .ptr 0 0), (2, .ptr 1 0), (3, .ptr 2 0), (8, .ptr 3 0), (12, .own 4), (13, .int .i64 i)]) [.box [.str s, .int .i64 a, .int .i64 1, .int .i64 f1, .int .i64 f2, .int .i64 f3], .box [.str ⟨#[]⟩, .int .i64 0, .int .i64 0, .int .i64 0, .int .i64 0, .int .i64 0], .box [.int .u32 0, .int .u64 0, .int .i64 0, .int .i64 0, .int .i64 0, .int .i64 0, .int .i64 0], .box [.int .u32 h0, .int .u64 h1, .int .i64 h2, .int .i64 h3, .int .i64 h4, .int .i64 h5, .int .i64 h6], .row 3 ([0, 1, 1, 2, 2] : List Int)] = (bif decide (i <= 4) then (0 <= i /\ i < (↑[(0 : Int), (1 : Int), (1 : Int), (2 : Int), (2 : Int)].length : Int)) /\ (∀ (y : Int), [(0 : Int), (1 : Int), (1 : Int), (2 : Int), (2 : Int)][i.toNat]? = some y -> (s.size < 4611686018427387904 /\ bif (nF s a y 1 (f1, f2, f3)).fst == 0 then (0 <= i /\ i < 5) /\ bif !fineQ i (IntKind.i64.wrap (nV s a y (f1, f2, f3))) then A (tdr Tryz.f51 24) (envAt 126 [(1, .ptr 0 0), (2, .ptr 1 0), (3, .ptr 2 0), (8, .ptr 3 0), (12, .own 4), (13, .int .i64 i), (16, .int .u64 (nV s a y (f1, f2, f3)))]) [.box [.str s, .int .i64 (nAt s a y (f1, f2, f3)), .int .i64 1, .int .i64 (rFail (nF s a y 1 (f1, f2, f3)) 1 8 a).fst, .int .i64 (rFail (nF s a y 1 (f1, f2, f3)) 1 8 a).snd.fst, .int .i64 (rFail (nF s a y 1 (f1, f2, f3)) 1 8 a).snd.snd], .box [.str ⟨#[]⟩, .int .i64 0, .int .i64 0, .int .i64 0, .int .i64 0, .int .i64 0], .box [.int .u32 0, .int .u64 0, .int .i64 0, .int .i64 0, .int .i64 0, .int .i64 0, .int .i64 0], .box [.int .u32 h0, .int .u64 h1, .int .i64 h2, .int .i64 h3, .int .i64 h4, .int .i64 h5, .int .i64 h6], .row 3 [(0 : Int), (1 : Int), (1 : Int), (2 : Int), (2 : Int)]] else A (tdr Tryz.f51 24) (envAt 126 [(1, .ptr 0 0), (2, .ptr 1 0), (3, .ptr 2 0), (8, .ptr 3 0), (12, .own 4), (13, .int .i64 i), (16, .int .u64 (nV s a y (f1, f2, f3)))]) [.box [.str s, .int .i64 (nAt s a y (f1, f2, f3)), .int .i64 1, .int .i64 (nF s a y 1 (f1, f2, f3)).fst, .int .i64 (nF s a y 1 (f1, f2, f3)).snd.fst, .int .i64 (nF s a y 1 (f1, f2, f3)).snd.snd], .box [.str ⟨#[]⟩, .int .i64 0, .int .i64 0, .int .i64 0, .int .i64 0, .int .i64 0], .box [.int .u32 0, .int .u64 0, .int .i64 0, .int .i64 0, .int .i64 0, .int .i64 0, .int .i64 0], .box [.int .u32 h0, .int .u64 h1, .int .i64 h2, .int .i64 h3, .int .i64 h4, .int .i64 h5, .int .i64 h6], .row 3 [(0 : Int), (1 : Int), (1 : Int), (2 : Int), (2 : Int)]] else A (tdr Tryz.f51 24) (envAt 126 [(1, .ptr 0 0), (2, .ptr 1 0), (3, .ptr 2 0), (8, .ptr 3 0), (12, .own 4), (13, .int .i64 i), (16, .int .u64 (nV s a y (f1, f2, f3)))]) [.box [.str s, .int .i64 (nAt s a y (f1, f2, f3)), .int .i64 1, .int .i64 (nF s a y 1 (f1, f2, f3)).fst, .int .i64 (nF s a y 1 (f1, f2, f3)).snd.fst, .int .i64 (nF s a y 1 (f1, f2, f3)).snd.snd], .box [.str ⟨#[]⟩, .int .i64 0, .int .i64 0, .int .i64 0, .int .i64 0, .int .i64 0], .box [.int .u32 0, .int .u64 0, .int .i64 0, .int .i64 0, .int .i64 0, .int .i64 0, .int .i64 0], .box [.int .u32 h0, .int .u64 h1, .int .i64 h2, .int .i64 h3, .int .i64 h4, .int .i64 h5, .int .i64 h6], .row 3 [(0 : Int), (1 : Int), (1 : Int), (2 : Int), (2 : Int)]]) /\ s.size < 4611686018427387904 /\ bif (nF s a y 1 (f1, f2, f3)).fst == 0 then (0 <= i /\ i < 5) /\ bif !fineQ i (IntKind.i64.wrap (nV s a y (f1, f2, f3))) then A (tdr Tryz.f51 24) (envAt 126 [(1, .ptr 0 0), (2, .ptr 1 0), (3, .ptr 2 0), (8, .ptr 3 0), (12, .own 4), (13, .int .i64 i), (16, .int .u64 (nV s a y (f1, f2, f3)))]) [.box [.str s, .int .i64 (nAt s a y (f1, f2, f3)), .int .i64 1, .int .i64 (rFail (nF s a y 1 (f1, f2, f3)) 1 8 a).fst, .int .i64 (rFail (nF s a y 1 (f1, f2, f3)) 1 8 a).snd.fst, .int .i64 (rFail (nF s a y 1 (f1, f2, f3)) 1 8 a).snd.snd], .box [.str ⟨#[]⟩, .int .i64 0, .int .i64 0, .int .i64 0, .int .i64 0, .int .i64 0], .box [.int .u32 0, .int .u64 0, .int .i64 0, .int .i64 0, .int .i64 0, .int .i64 0, .int .i64 0], .box [.int .u32 h0, .int .u64 h1, .int .i64 h2, .int .i64 h3, .int .i64 h4, .int .i64 h5, .int .i64 h6], .row 3 [(0 : Int), (1 : Int), (1 : Int), (2 : Int), (2 : Int)]] else A (tdr Tryz.f51 24) (envAt 126 [(1, .ptr 0 0), (2, .ptr 1 0), (3, .ptr 2 0), (8, .ptr 3 0), (12, .own 4), (13, .int .i64 i), (16, .int .u64 (nV s a y (f1, f2, f3)))]) [.box [.str s, .int .i64 (nAt s a y (f1, f2, f3)), .int .i64 1, .int .i64 (nF s a y 1 (f1, f2, f3)).fst, .int .i64 (nF s a y 1 (f1, f2, f3)).snd.fst, .int .i64 (nF s a y 1 (f1, f2, f3)).snd.snd], .box [.str ⟨#[]⟩, .int .i64 0, .int .i64 0, .int .i64 0, .int .i64 0, .int .i64 0], .box [.int .u32 0, .int .u64 0, .int .i64 0, .int .i64 0, .int .i64 0, .int .i64 0, .int .i64 0], .box [.int .u32 h0, .int .u64 h1, .int .i64 h2, .int .i64 h3, .int .i64 h4, .int .i64 h5, .int .i64 h6], .row 3 [(0 : Int), (1 : Int), (1 : Int), (2 : Int), (2 : Int)]] else A (tdr Tryz.f51 24) (envAt 126 [(1, .ptr 0 0), (2, .ptr 1 0), (3, .ptr 2 0), (8, .ptr 3 0), (12, .own 4), (13, .int .i64 i), (16, .int .u64 (nV s a y (f1, f2, f3)))]) [.box [.str s, .int .i64 (nAt s a y (f1, f2, f3)), .int .i64 1, .int .i64 (nF s a y 1 (f1, f2, f3)).fst, .int .i64 (nF s a y 1 (f1, f2, f3)).snd.fst, .int .i64 (nF s a y 1 (f1, f2, f3)).snd.snd], .box [.str ⟨#[]⟩, .int .i64 0, .int .i64 0, .int .i64 0, .int .i64 0, .int .i64 0], .box [.int .u32 0, .int .u64 0, .int .i64 0, .int .i64 0, .int .i64 0, .int .i64 0, .int .i64 0], .box [.int .u32 h0, .int .u64 h1, .int .i64 h2, .int .i64 h3, .int .i64 h4, .int .i64 h5, .int .i64 h6], .row 3 [(0 : Int), (1 : Int), (1 : Int), (2 : Int), (2 : Int)]]) /\ ∀ (y : Int), [(0 : Int), (1 : Int), (1 : Int), (2 : Int), (2 : Int)][i.toNat]? = some y -> s.size < 4611686018427387904 /\ bif (nF s a y 1 (f1, f2, f3)).fst == 0 then (0 <= i /\ i < 5) /\ bif !fineQ i (IntKind.i64.wrap (nV s a y (f1, f2, f3))) then A (tdr Tryz.f51 24) (envAt 126 [(1, .ptr 0 0), (2, .ptr 1 0), (3, .ptr 2 0), (8, .ptr 3 0), (12, .own 4), (13, .int .i64 i), (16, .int .u64 (nV s a y (f1, f2, f3)))]) [.box [.str s, .int .i64 (nAt s a y (f1, f2, f3)), .int .i64 1, .int .i64 (rFail (nF s a y 1 (f1, f2, f3)) 1 8 a).fst, .int .i64 (rFail (nF s a y 1 (f1, f2, f3)) 1 8 a).snd.fst, .int .i64 (rFail (nF s a y 1 (f1, f2, f3)) 1 8 a).snd.snd], .box [.str ⟨#[]⟩, .int .i64 0, .int .i64 0, .int .i64 0, .int .i64 0, .int .i64 0], .box [.int .u32 0, .int .u64 0, .int .i64 0, .int .i64 0, .int .i64 0, .int .i64 0, .int .i64 0], .box [.int .u32 h0, .int .u64 h1, .int .i64 h2, .int .i64 h3, .int .i64 h4, .int .i64 h5, .int .i64 h6], .row 3 [(0 : Int), (1 : Int), (1 : Int), (2 : Int), (2 : Int)]] else A (tdr Tryz.f51 24) (envAt 126 [(1, .ptr 0 0), (2, .ptr 1 0), (3, .ptr 2 0), (8, .ptr 3 0), (12, .own 4), (13, .int .i64 i), (16, .int .u64 (nV s a y (f1, f2, f3)))]) [.box [.str s, .int .i64 (nAt s a y (f1, f2, f3)), .int .i64 1, .int .i64 (nF s a y 1 (f1, f2, f3)).fst, .int .i64 (nF s a y 1 (f1, f2, f3)).snd.fst, .int .i64 (nF s a y 1 (f1, f2, f3)).snd.snd], .box [.str ⟨#[]⟩, .int .i64 0, .int .i64 0, .int .i64 0, .int .i64 0, .int .i64 0], .box [.int .u32 0, .int .u64 0, .int .i64 0, .int .i64 0, .int .i64 0, .int .i64 0, .int .i64 0], .box [.int .u32 h0, .int .u64 h1, .int .i64 h2, .int .i64 h3, .int .i64 h4, .int .i64 h5, .int .i64 h6], .row 3 [(0 : Int), (1 : Int), (1 : Int), (2 : Int), (2 : Int)]] else A (tdr Tryz.f51 24) (envAt 126 [(1, .ptr 0 0), (2, .ptr 1 0), (3, .ptr 2 0), (8, .ptr 3 0), (12, .own 4), (13, .int .i64 i), (16, .int .u64 (nV s a y (f1, f2, f3)))]) [.box [.str s, .int .i64 (nAt s a y (f1, f2, f3)), .int .i64 1, .int .i64 (nF s a y 1 (f1, f2, f3)).fst, .int .i64 (nF s a y 1 (f1, f2, f3)).snd.fst, .int .i64 (nF s a y 1 (f1, f2, f3)).snd.snd], .box [.str ⟨#[]⟩, .int .i64 0, .int .i64 0, .int .i64 0, .int .i64 0, .int .i64 0], .box [.int .u32 0, .int .u64 0, .int .i64 0, .int .i64 0, .int .i64 0, .int .i64 0, .int .i64 0], .box [.int .u32 h0, .int .u64 h1, .int .i64 h2, .int .i64 h3, .int .i64 h4, .int .i64 h5, .int .i64 h6], .row 3 [(0 : Int), (1 : Int), (1 : Int), (2 : Int), (2 : Int)]]
else bif f1 != (0 : Int) then k [PV.agg [PV.str s, PV.int IntKind.i64 a, PV.int IntKind.i64 (1 : Int), PV.int IntKind.i64 f1, PV.int IntKind.i64 f2, PV.int IntKind.i64 f3], PV.agg [PV.int IntKind.u32 (0 : Int), PV.int IntKind.u64 (0 : Int), PV.int IntKind.i64 (0 : Int), PV.int IntKind.i64 (0 : Int), PV.int IntKind.i64 (0 : Int), PV.int IntKind.i64 (0 : Int), PV.int IntKind.i64 (0 : Int)]] [] else k [PV.agg [PV.str s, PV.int IntKind.i64 a, PV.int IntKind.i64 (1 : Int), PV.int IntKind.i64 f1, PV.int IntKind.i64 f2, PV.int IntKind.i64 f3], PV.agg [PV.int IntKind.u32 h0, PV.int IntKind.u64 h1, PV.int IntKind.i64 h2, PV.int IntKind.i64 h3, PV.int IntKind.i64 h4, PV.int IntKind.i64 h5, PV.int IntKind.i64 h6]] []) := by kernel_rfl
theorem nf_rGetH_24 (A : KA Kd) (k : List PV -> Heap Kd -> Prop) (s : ByteArray) (a f1 f2 f3 h0 h1 h2 h3 h4 h5 h6 i v : Int) : evT S1 ff_rGetH A k 400 true (tdr Tryz.f51 24) (envAt 126 [(1, .ptr 0 0), (2, .ptr 1 0), (3, .ptr 2 0), (8, .ptr 3 0), (12, .own 4), (13, .int .i64 i), (16, .int .u64 v)]) [.box [.str s, .int .i64 a, .int .i64 1, .int .i64 f1, .int .i64 f2, .int .i64 f3], .box [.str ⟨#[]⟩, .int .i64 0, .int .i64 0, .int .i64 0, .int .i64 0, .int .i64 0], .box [.int .u32 0, .int .u64 0, .int .i64 0, .int .i64 0, .int .i64 0, .int .i64 0, .int .i64 0], .box [.int .u32 h0, .int .u64 h1, .int .i64 h2, .int .i64 h3, .int .i64 h4, .int .i64 h5, .int .i64 h6], .row 3 ([0, 1, 1, 2, 2] : List Int)] = (bif i == 1 then A (td Tryz.f51 17) (envAt 126 [(1, .ptr 0 0), (2, .ptr 1 0), (3, .ptr 2 0), (8, .ptr 3 0), (12, .own 4), (13, .int .i64 (IntKind.i64.wrap (i + 1)))]) [.box [.str s, .int .i64 a, .int .i64 1, .int .i64 f1, .int .i64 f2, .int .i64 f3], .box [.str ⟨#[]⟩, .int .i64 0, .int .i64 0, .int .i64 0, .int .i64 0, .int .i64 0], .box [.int .u32 0, .int .u64 0, .int .i64 0, .int .i64 0, .int .i64 0, .int .i64 0, .int .i64 0], .box [.int .u32 h0, .int .u64 h1, .int .i64 h2, .int .i64 (IntKind.i64.wrap v), .int .i64 h4, .int .i64 h5, .int .i64 h6], .row 3 [(0 : Int), (1 : Int), (1 : Int), (2 : Int), (2 : Int)]]
else bif i == (2 : Int) then A (td Tryz.f51 (17 : Nat)) (envAt (126 : Nat) [((1 : Nat), PV.ptr (0 : Nat) (0 : Nat)), ((2 : Nat), PV.ptr (1 : Nat) (0 : Nat)), ((3 : Nat), PV.ptr (2 : Nat) (0 : Nat)), ((8 : Nat), PV.ptr (3 : Nat) (0 : Nat)), ((12 : Nat), PV.own (4 : Nat)), ((13 : Nat), PV.int IntKind.i64 (IntKind.i64.wrap (i + (1 : Int))))]) [AObj.box [PV.str s, PV.int IntKind.i64 a, PV.int IntKind.i64 (1 : Int), PV.int IntKind.i64 f1, PV.int IntKind.i64 f2, PV.int IntKind.i64 f3], AObj.box [PV.str (ByteArray.mk #[]), PV.int IntKind.i64 (0 : Int), PV.int IntKind.i64 (0 : Int), PV.int IntKind.i64 (0 : Int), PV.int IntKind.i64 (0 : Int), PV.int IntKind.i64 (0 : Int)], AObj.box [PV.int IntKind.u32 (0 : Int), PV.int IntKind.u64 (0 : Int), PV.int IntKind.i64 (0 : Int), PV.int IntKind.i64 (0 : Int), PV.int IntKind.i64 (0 : Int), PV.int IntKind.i64 (0 : Int), PV.int IntKind.i64 (0 : Int)], AObj.box [PV.int IntKind.u32 h0, PV.int IntKind.u64 h1, PV.int IntKind.i64 h2, PV.int IntKind.i64 h3, PV.int IntKind.i64 (IntKind.i64.wrap v), PV.int IntKind.i64 h5, PV.int IntKind.i64 h6], AObj.row (3 : Nat) [(0 : Int), (1 : Int), (1 : Int), (2 : Int), (2 : Int)]] else bif i == (3 : Int) then A (td Tryz.f51 (17 : Nat)) (envAt (126 : Nat) [((1 : Nat), PV.ptr (0 : Nat) (0 : Nat)), ((2 : Nat), PV.ptr (1 : Nat) (0 : Nat)), ((3 : Nat), PV.ptr (2 : Nat) (0 : Nat)), ((8 : Nat), PV.ptr (3 : Nat) (0 : Nat)), ((12 : Nat), PV.own (4 : Nat)), ((13 : Nat), PV.int IntKind.i64 (IntKind.i64.wrap (i + (1 : Int))))]) [AObj.box [PV.str s, PV.int IntKind.i64 a, PV.int IntKind.i64 (1 : Int), PV.int IntKind.i64 f1, PV.int IntKind.i64 f2, PV.int IntKind.i64 f3], AObj.box [PV.str (ByteArray.mk #[]), PV.int IntKind.i64 (0 : Int), PV.int IntKind.i64 (0 : Int), PV.int IntKind.i64 (0 : Int), PV.int IntKind.i64 (0 : Int), PV.int IntKind.i64 (0 : Int)], AObj.box [PV.int IntKind.u32 (0 : Int), PV.int IntKind.u64 (0 : Int), PV.int IntKind.i64 (0 : Int), PV.int IntKind.i64 (0 : Int), PV.int IntKind.i64 (0 : Int), PV.int IntKind.i64 (0 : Int), PV.int IntKind.i64 (0 : Int)], AObj.box [PV.int IntKind.u32 h0, PV.int IntKind.u64 h1, PV.int IntKind.i64 h2, PV.int IntKind.i64 h3, PV.int IntKind.i64 h4, PV.int IntKind.i64 (IntKind.i64.wrap v), PV.int IntKind.i64 h6], AObj.row (3 : Nat) [(0 : Int), (1 : Int), (1 : Int), (2 : Int), (2 : Int)]] else A (td Tryz.f51 (17 : Nat)) (envAt (126 : Nat) [((1 : Nat), PV.ptr (0 : Nat) (0 : Nat)), ((2 : Nat), PV.ptr (1 : Nat) (0 : Nat)), ((3 : Nat), PV.ptr (2 : Nat) (0 : Nat)), ((8 : Nat), PV.ptr (3 : Nat) (0 : Nat)), ((12 : Nat), PV.own (4 : Nat)), ((13 : Nat), PV.int IntKind.i64 (IntKind.i64.wrap (i + (1 : Int))))]) [AObj.box [PV.str s, PV.int IntKind.i64 a, PV.int IntKind.i64 (1 : Int), PV.int IntKind.i64 f1, PV.int IntKind.i64 f2, PV.int IntKind.i64 f3], AObj.box [PV.str (ByteArray.mk #[]), PV.int IntKind.i64 (0 : Int), PV.int IntKind.i64 (0 : Int), PV.int IntKind.i64 (0 : Int), PV.int IntKind.i64 (0 : Int), PV.int IntKind.i64 (0 : Int)], AObj.box [PV.int IntKind.u32 (0 : Int), PV.int IntKind.u64 (0 : Int), PV.int IntKind.i64 (0 : Int), PV.int IntKind.i64 (0 : Int), PV.int IntKind.i64 (0 : Int), PV.int IntKind.i64 (0 : Int), PV.int IntKind.i64 (0 : Int)], AObj.box [PV.int IntKind.u32 h0, PV.int IntKind.u64 h1, PV.int IntKind.i64 h2, PV.int IntKind.i64 h3, PV.int IntKind.i64 h4, PV.int IntKind.i64 h5, PV.int IntKind.i64 (IntKind.i64.wrap v)], AObj.row (3 : Nat) [(0 : Int), (1 : Int), (1 : Int), (2 : Int), (2 : Int)]]) := by kernel_rfl
theorem rb07 (A : KA Kd) (k : List PV -> Heap Kd -> Prop) (hA : Closed S1 ff_rGetH k A) (s : ByteArray) (hs : s.size < 4611686018427387904) (i : Nat) (hi : i < 4) (c : UInt8) (hc : (ByteArray.mk #[67, 87, 77, 49])[i]? = some c) (hc0 : ((0 : Int) == (c.toNat : Int)) = false) (x : RS) (hg : GoodE x.2) (hx : hIn s x)
 (ih : A (td Tryz.f51 3) (envAt 126 [(1, .ptr 0 0), (2, .ptr 1 0), (3, .ptr 2 0), (4, .int .i64 ((i + 1 : Nat) : Int))]) [.box [.str s, .int .i64 (hM s c.toNat x).1, .int .i64 1, .int .i64 (ofE (hM s c.toNat x).2).1, .int .i64 (ofE (hM s c.toNat x).2).2.1, .int .i64 (ofE (hM s c.toNat x).2).2.2], .box [.str ⟨#[]⟩, .int .i64 0, .int .i64 0, .int .i64 0, .int .i64 0, .int .i64 0], .box [.int .u32 0, .int .u64 0, .int .i64 0, .int .i64 0, .int .i64 0, .int .i64 0, .int .i64 0]]) : A (td Tryz.f51 3) (envAt 126 [(1, .ptr 0 0), (2, .ptr 1 0), (3, .ptr 2 0), (4, .int .i64 (i : Int))]) [.box [.str s, .int .i64 (x).1, .int .i64 1, .int .i64 (ofE (x).2).1, .int .i64 (ofE (x).2).2.1, .int .i64 (ofE (x).2).2.2], .box [.str ⟨#[]⟩, .int .i64 0, .int .i64 0, .int .i64 0, .int .i64 0, .int .i64 0], .box [.int .u32 0, .int .u64 0, .int .i64 0, .int .i64 0, .int .i64 0, .int .i64 0, .int .i64 0]] := by
 refine (hA.nf (nf_rGetH_b A k s _ _ _ _ _) ?_)
 have d : decide ((i : Int) < 4) = true := decide_eq_true (by omega)
 rw [d, cond_true]
 refine ⟨hs, ?_⟩
 have z1 : sizeOk 1 = true := rfl
 try simp only [F3_eta]
 rw [hg.nF 1 hx.1 hx.2 z1, hg.nV hx.1 hx.2 z1, hg.nAt hx.1 hx.2 z1]
 try simp only [F3_eta]
 have hg1 : GoodE (rdE s x.1 1 1 x.2) := hg.rd s x.1 1 1
 have hn := rdE_nil s x.1 1 1 x.2
 obtain ⟨v0, v1⟩ := rdV_lt s x.1 1 x.2
 have v1 : rdV s x.1 1 x.2 < 256 := v1
 have hv0 : (rdE s x.1 1 1 x.2).isNil = false -> rdV s x.1 1 x.2 = 0 := fun h => by
  rw [hn] at h; unfold rdV; rw [h]; rfl
 simp only [hM] at ih
 have hv0 : (rdE s x.1 1 1 x.2).isNil = false -> rdV s x.1 ((1 : Nat) : Int) x.2 = 0 := hv0
 have e1i : ((1 : Nat) : Int) = 1 := rfl
 rw [e1i] at hv0
 generalize rdE s x.1 1 1 x.2 = e1 at *
 generalize rdV s x.1 1 x.2 = v at *
 rw [hg1.nil_iff, wrap_succ (by omega)]
 cases c1 : e1.isNil with
 | false =>
  have hb := hv0 c1
  subst hb
  rw [needE_bad c1] at ih
  exact ih
 | true =>
  refine ⟨⟨Int.natCast_nonneg _, by show (i : Int) < 4; omega⟩, fun b hb => ?_⟩
  rw [Int.toNat_natCast, hc] at hb; cases hb
  rw [u8_id _ v0 v1]
  cases c2 : (v == (c.toNat : Int)) with
  | true =>
   have : (v != (c.toNat : Int)) = false := by simp only [bne, c2]; rfl
   rw [this]
   rw [c2] at ih; exact ih
  | false =>
   have : (v != (c.toNat : Int)) = true := by simp only [bne, c2]; rfl
   rw [this]
   rw [c2] at ih
   simp only [needE, cond_false, hg1.ofE_fail] at ih
   exact ih
theorem rc07 (A : KA Kd) (k : List PV -> Heap Kd -> Prop) (hA : Closed S1 ff_rGetH k A) (s : ByteArray) (hs : s.size < 4611686018427387904) (h0 h1 h2 h3 h4 h5 h6 : Int) (x : RS) (hg : GoodE x.2) (hx : hIn s x) (i n : Nat) (lo hi : Int) (hi0 : 1 <= i) (hi4 : i <= 4) (hy : ([0, 1, 1, 2, 2] : List Int)[(i : Int).toNat]? = some (n : Int)) (hz : sizeOk (n : Int) = true) (hn8 : n <= 2)
 (hfq : ∀ v : Int, 0 <= v -> fineQ (i : Int) v = (decide (v >= lo) && decide (v <= hi)))
 (ih : A (tdr Tryz.f51 24) (envAt 126 [(1, .ptr 0 0), (2, .ptr 1 0), (3, .ptr 2 0), (8, .ptr 3 0), (12, .own 4), (13, .int .i64 (i : Int)), (16, .int .u64 (rdV s x.1 (n : Int) x.2))]) [.box [.str s, .int .i64 (hN s (n : Int) lo hi x).1, .int .i64 1, .int .i64 (ofE (hN s (n : Int) lo hi x).2).1, .int .i64 (ofE (hN s (n : Int) lo hi x).2).2.1, .int .i64 (ofE (hN s (n : Int) lo hi x).2).2.2], .box [.str ⟨#[]⟩, .int .i64 0, .int .i64 0, .int .i64 0, .int .i64 0, .int .i64 0], .box [.int .u32 0, .int .u64 0, .int .i64 0, .int .i64 0, .int .i64 0, .int .i64 0, .int .i64 0], .box [.int .u32 h0, .int .u64 h1, .int .i64 h2, .int .i64 h3, .int .i64 h4, .int .i64 h5, .int .i64 h6], .row 3 ([0, 1, 1, 2, 2] : List Int)]) :
 A (td Tryz.f51 17) (envAt 126 [(1, .ptr 0 0), (2, .ptr 1 0), (3, .ptr 2 0), (8, .ptr 3 0), (12, .own 4), (13, .int .i64 (i : Int))]) [.box [.str s, .int .i64 (x).1, .int .i64 1, .int .i64 (ofE (x).2).1, .int .i64 (ofE (x).2).2.1, .int .i64 (ofE (x).2).2.2], .box [.str ⟨#[]⟩, .int .i64 0, .int .i64 0, .int .i64 0, .int .i64 0, .int .i64 0], .box [.int .u32 0, .int .u64 0, .int .i64 0, .int .i64 0, .int .i64 0, .int .i64 0, .int .i64 0], .box [.int .u32 h0, .int .u64 h1, .int .i64 h2, .int .i64 h3, .int .i64 h4, .int .i64 h5, .int .i64 h6], .row 3 ([0, 1, 1, 2, 2] : List Int)] := by
 refine (hA.nf (nf_rGetH_c A k s _ _ _ _ h0 h1 h2 h3 h4 h5 h6 _) ?_)
 have d : decide ((i : Int) <= 4) = true := decide_eq_true (by omega)
 rw [d, cond_true]
 have hb : (0 : Int) <= (i : Int) /\ (i : Int) < (([0, 1, 1, 2, 2] : List Int).length : Int) := ⟨by omega, by show (i : Int) < 5; omega⟩
 have hsplit : ∀ {p : Int -> Prop}, p (n : Int) -> ((0 : Int) <= (i : Int) /\ (i : Int) < (([0, 1, 1, 2, 2] : List Int).length : Int)) /\ (∀ y, ([0, 1, 1, 2, 2] : List Int)[(i : Int).toNat]? = some y -> p y /\ p y) /\ ∀ y, ([0, 1, 1, 2, 2] : List Int)[(i : Int).toNat]? = some y -> p y := fun {p} hp =>
  ⟨hb, fun y h => by rw [hy] at h; cases h; exact ⟨hp, hp⟩, fun y h => by rw [hy] at h; cases h; exact hp⟩
 refine hsplit ?_
 refine ⟨hs, ?_⟩
 try simp only [F3_eta]
 rw [hg.nF 1 hx.1 hx.2 hz, hg.nV hx.1 hx.2 hz, hg.nAt hx.1 hx.2 hz]
 try simp only [F3_eta]
 have hg1 : GoodE (rdE s x.1 (n : Int) 1 x.2) := hg.rd s x.1 n 1
 have hn := rdE_nil s x.1 (n : Int) 1 x.2
 obtain ⟨v0, v1⟩ := rdV_lt s x.1 n x.2
 have v2 : rdV s x.1 (n : Int) x.2 < 65536 := by
  have e := Nat.pow_le_pow_right (show 0 < 256 by decide) hn8
  have e2 : 256 ^ 2 = 65536 := by decide
  omega
 have hN1 : hN s (n : Int) lo hi x = (rdAt s x.1 n x.2, needE (rdE s x.1 n 1 x.2) (fineQ (i : Int) (rdV s x.1 n x.2)) 1 8 x.1) := by rw [hfq _ v0]; rfl
 rw [hN1] at ih
 rw [hg1.nil_iff, wrap_id (rdV s x.1 (n : Int) x.2) (by omega) (by omega)]
 cases c1 : (rdE s x.1 (n : Int) 1 x.2).isNil with
 | false =>
  rw [needE_bad c1] at ih
  exact ih
 | true =>
  refine ⟨⟨by omega, by omega⟩, ?_⟩
  cases c2 : fineQ (i : Int) (rdV s x.1 (n : Int) x.2) with
  | true => rw [c2] at ih; exact ih
  | false =>
   rw [c2] at ih
   have e8 : needE (rdE s x.1 (n : Int) 1 x.2) false 1 8 x.1 = failR (rdE s x.1 (n : Int) 1 x.2) 1 8 x.1 := rfl
   rw [e8] at ih
   simp only [hg1.ofE_fail] at ih
   exact ih
theorem rc07_1 (A : KA Kd) (k : List PV -> Heap Kd -> Prop) (hA : Closed S1 ff_rGetH k A) (s : ByteArray) (hs : s.size < 4611686018427387904) (h0 h1 h2 h3 h4 h5 h6 : Int) (x : RS) (hg : GoodE x.2) (hx : hIn s x)
 (ih : A (td Tryz.f51 17) (envAt 126 [(1, .ptr 0 0), (2, .ptr 1 0), (3, .ptr 2 0), (8, .ptr 3 0), (12, .own 4), (13, .int .i64 2)]) [.box [.str s, .int .i64 (hN s 1 1 32 x).1, .int .i64 1, .int .i64 (ofE (hN s 1 1 32 x).2).1, .int .i64 (ofE (hN s 1 1 32 x).2).2.1, .int .i64 (ofE (hN s 1 1 32 x).2).2.2], .box [.str ⟨#[]⟩, .int .i64 0, .int .i64 0, .int .i64 0, .int .i64 0, .int .i64 0], .box [.int .u32 0, .int .u64 0, .int .i64 0, .int .i64 0, .int .i64 0, .int .i64 0, .int .i64 0], .box [.int .u32 h0, .int .u64 h1, .int .i64 h2, .int .i64 (rdV s x.1 1 x.2), .int .i64 h4, .int .i64 h5, .int .i64 h6], .row 3 ([0, 1, 1, 2, 2] : List Int)]) :
 A (td Tryz.f51 17) (envAt 126 [(1, .ptr 0 0), (2, .ptr 1 0), (3, .ptr 2 0), (8, .ptr 3 0), (12, .own 4), (13, .int .i64 1)]) [.box [.str s, .int .i64 (x).1, .int .i64 1, .int .i64 (ofE (x).2).1, .int .i64 (ofE (x).2).2.1, .int .i64 (ofE (x).2).2.2], .box [.str ⟨#[]⟩, .int .i64 0, .int .i64 0, .int .i64 0, .int .i64 0, .int .i64 0], .box [.int .u32 0, .int .u64 0, .int .i64 0, .int .i64 0, .int .i64 0, .int .i64 0, .int .i64 0], .box [.int .u32 h0, .int .u64 h1, .int .i64 h2, .int .i64 h3, .int .i64 h4, .int .i64 h5, .int .i64 h6], .row 3 ([0, 1, 1, 2, 2] : List Int)] := by
 obtain ⟨v0, v1⟩ := rdV_lt s x.1 1 x.2
 have v2 : rdV s x.1 (1 : Int) x.2 < 65536 := by
  have e2 : 256 ^ 1 <= 65536 := by decide
  have v1 : rdV s x.1 (1 : Int) x.2 < ((256 ^ 1 : Nat) : Int) := v1
  omega
 have v0 : 0 <= rdV s x.1 (1 : Int) x.2 := v0
 refine rc07 A k hA s hs h0 h1 h2 h3 h4 h5 h6 x hg hx 1 1 1 32 (by omega) (by omega) rfl rfl (by omega) (fun v h => fineQ_1 h) ?_
 refine (hA.nf (nf_rGetH_24 A k s _ _ _ _ h0 h1 h2 h3 h4 h5 h6 _ _) ?_)
 have w : IntKind.i64.wrap (rdV s x.1 ((1 : Nat) : Int) x.2) = rdV s x.1 (1 : Int) x.2 := wrap_id _ (by omega) (by omega)
 have w1 : IntKind.i64.wrap (((1 : Nat) : Int) + 1) = 2 := by decide
 rw [w, w1]
 exact ih
theorem rc07_2 (A : KA Kd) (k : List PV -> Heap Kd -> Prop) (hA : Closed S1 ff_rGetH k A) (s : ByteArray) (hs : s.size < 4611686018427387904) (h0 h1 h2 h3 h4 h5 h6 : Int) (x : RS) (hg : GoodE x.2) (hx : hIn s x)
 (ih : A (td Tryz.f51 17) (envAt 126 [(1, .ptr 0 0), (2, .ptr 1 0), (3, .ptr 2 0), (8, .ptr 3 0), (12, .own 4), (13, .int .i64 3)]) [.box [.str s, .int .i64 (hN s 1 1 16 x).1, .int .i64 1, .int .i64 (ofE (hN s 1 1 16 x).2).1, .int .i64 (ofE (hN s 1 1 16 x).2).2.1, .int .i64 (ofE (hN s 1 1 16 x).2).2.2], .box [.str ⟨#[]⟩, .int .i64 0, .int .i64 0, .int .i64 0, .int .i64 0, .int .i64 0], .box [.int .u32 0, .int .u64 0, .int .i64 0, .int .i64 0, .int .i64 0, .int .i64 0, .int .i64 0], .box [.int .u32 h0, .int .u64 h1, .int .i64 h2, .int .i64 h3, .int .i64 (rdV s x.1 1 x.2), .int .i64 h5, .int .i64 h6], .row 3 ([0, 1, 1, 2, 2] : List Int)]) :
 A (td Tryz.f51 17) (envAt 126 [(1, .ptr 0 0), (2, .ptr 1 0), (3, .ptr 2 0), (8, .ptr 3 0), (12, .own 4), (13, .int .i64 2)]) [.box [.str s, .int .i64 (x).1, .int .i64 1, .int .i64 (ofE (x).2).1, .int .i64 (ofE (x).2).2.1, .int .i64 (ofE (x).2).2.2], .box [.str ⟨#[]⟩, .int .i64 0, .int .i64 0, .int .i64 0, .int .i64 0, .int .i64 0], .box [.int .u32 0, .int .u64 0, .int .i64 0, .int .i64 0, .int .i64 0, .int .i64 0, .int .i64 0], .box [.int .u32 h0, .int .u64 h1, .int .i64 h2, .int .i64 h3, .int .i64 h4, .int .i64 h5, .int .i64 h6], .row 3 ([0, 1, 1, 2, 2] : List Int)] := by
 obtain ⟨v0, v1⟩ := rdV_lt s x.1 1 x.2
 have v2 : rdV s x.1 (1 : Int) x.2 < 65536 := by
  have e2 : 256 ^ 1 <= 65536 := by decide
  have v1 : rdV s x.1 (1 : Int) x.2 < ((256 ^ 1 : Nat) : Int) := v1
  omega
 have v0 : 0 <= rdV s x.1 (1 : Int) x.2 := v0
 refine rc07 A k hA s hs h0 h1 h2 h3 h4 h5 h6 x hg hx 2 1 1 16 (by omega) (by omega) rfl rfl (by omega) (fun v h => fineQ_2 h) ?_
 refine (hA.nf (nf_rGetH_24 A k s _ _ _ _ h0 h1 h2 h3 h4 h5 h6 _ _) ?_)
 have w : IntKind.i64.wrap (rdV s x.1 ((1 : Nat) : Int) x.2) = rdV s x.1 (1 : Int) x.2 := wrap_id _ (by omega) (by omega)
 have w1 : IntKind.i64.wrap (((2 : Nat) : Int) + 1) = 3 := by decide
 rw [w, w1]
 exact ih
theorem rc07_3 (A : KA Kd) (k : List PV -> Heap Kd -> Prop) (hA : Closed S1 ff_rGetH k A) (s : ByteArray) (hs : s.size < 4611686018427387904) (h0 h1 h2 h3 h4 h5 h6 : Int) (x : RS) (hg : GoodE x.2) (hx : hIn s x)
 (ih : A (td Tryz.f51 17) (envAt 126 [(1, .ptr 0 0), (2, .ptr 1 0), (3, .ptr 2 0), (8, .ptr 3 0), (12, .own 4), (13, .int .i64 4)]) [.box [.str s, .int .i64 (hN s 2 0 240 x).1, .int .i64 1, .int .i64 (ofE (hN s 2 0 240 x).2).1, .int .i64 (ofE (hN s 2 0 240 x).2).2.1, .int .i64 (ofE (hN s 2 0 240 x).2).2.2], .box [.str ⟨#[]⟩, .int .i64 0, .int .i64 0, .int .i64 0, .int .i64 0, .int .i64 0], .box [.int .u32 0, .int .u64 0, .int .i64 0, .int .i64 0, .int .i64 0, .int .i64 0, .int .i64 0], .box [.int .u32 h0, .int .u64 h1, .int .i64 h2, .int .i64 h3, .int .i64 h4, .int .i64 (rdV s x.1 2 x.2), .int .i64 h6], .row 3 ([0, 1, 1, 2, 2] : List Int)]) :
 A (td Tryz.f51 17) (envAt 126 [(1, .ptr 0 0), (2, .ptr 1 0), (3, .ptr 2 0), (8, .ptr 3 0), (12, .own 4), (13, .int .i64 3)]) [.box [.str s, .int .i64 (x).1, .int .i64 1, .int .i64 (ofE (x).2).1, .int .i64 (ofE (x).2).2.1, .int .i64 (ofE (x).2).2.2], .box [.str ⟨#[]⟩, .int .i64 0, .int .i64 0, .int .i64 0, .int .i64 0, .int .i64 0], .box [.int .u32 0, .int .u64 0, .int .i64 0, .int .i64 0, .int .i64 0, .int .i64 0, .int .i64 0], .box [.int .u32 h0, .int .u64 h1, .int .i64 h2, .int .i64 h3, .int .i64 h4, .int .i64 h5, .int .i64 h6], .row 3 ([0, 1, 1, 2, 2] : List Int)] := by
 obtain ⟨v0, v1⟩ := rdV_lt s x.1 2 x.2
 have v2 : rdV s x.1 (2 : Int) x.2 < 65536 := by
  have e2 : 256 ^ 2 <= 65536 := by decide
  have v1 : rdV s x.1 (2 : Int) x.2 < ((256 ^ 2 : Nat) : Int) := v1
  omega
 have v0 : 0 <= rdV s x.1 (2 : Int) x.2 := v0
 refine rc07 A k hA s hs h0 h1 h2 h3 h4 h5 h6 x hg hx 3 2 0 240 (by omega) (by omega) rfl rfl (by omega) (fun v h => fineQ_3 h) ?_
 refine (hA.nf (nf_rGetH_24 A k s _ _ _ _ h0 h1 h2 h3 h4 h5 h6 _ _) ?_)
 have w : IntKind.i64.wrap (rdV s x.1 ((2 : Nat) : Int) x.2) = rdV s x.1 (2 : Int) x.2 := wrap_id _ (by omega) (by omega)
 have w1 : IntKind.i64.wrap (((3 : Nat) : Int) + 1) = 4 := by decide
 rw [w, w1]
 exact ih
theorem rc07_4 (A : KA Kd) (k : List PV -> Heap Kd -> Prop) (hA : Closed S1 ff_rGetH k A) (s : ByteArray) (hs : s.size < 4611686018427387904) (h0 h1 h2 h3 h4 h5 h6 : Int) (x : RS) (hg : GoodE x.2) (hx : hIn s x)
 (ih : A (td Tryz.f51 17) (envAt 126 [(1, .ptr 0 0), (2, .ptr 1 0), (3, .ptr 2 0), (8, .ptr 3 0), (12, .own 4), (13, .int .i64 5)]) [.box [.str s, .int .i64 (hN s 2 0 512 x).1, .int .i64 1, .int .i64 (ofE (hN s 2 0 512 x).2).1, .int .i64 (ofE (hN s 2 0 512 x).2).2.1, .int .i64 (ofE (hN s 2 0 512 x).2).2.2], .box [.str ⟨#[]⟩, .int .i64 0, .int .i64 0, .int .i64 0, .int .i64 0, .int .i64 0], .box [.int .u32 0, .int .u64 0, .int .i64 0, .int .i64 0, .int .i64 0, .int .i64 0, .int .i64 0], .box [.int .u32 h0, .int .u64 h1, .int .i64 h2, .int .i64 h3, .int .i64 h4, .int .i64 h5, .int .i64 (rdV s x.1 2 x.2)], .row 3 ([0, 1, 1, 2, 2] : List Int)]) :
 A (td Tryz.f51 17) (envAt 126 [(1, .ptr 0 0), (2, .ptr 1 0), (3, .ptr 2 0), (8, .ptr 3 0), (12, .own 4), (13, .int .i64 4)]) [.box [.str s, .int .i64 (x).1, .int .i64 1, .int .i64 (ofE (x).2).1, .int .i64 (ofE (x).2).2.1, .int .i64 (ofE (x).2).2.2], .box [.str ⟨#[]⟩, .int .i64 0, .int .i64 0, .int .i64 0, .int .i64 0, .int .i64 0], .box [.int .u32 0, .int .u64 0, .int .i64 0, .int .i64 0, .int .i64 0, .int .i64 0, .int .i64 0], .box [.int .u32 h0, .int .u64 h1, .int .i64 h2, .int .i64 h3, .int .i64 h4, .int .i64 h5, .int .i64 h6], .row 3 ([0, 1, 1, 2, 2] : List Int)] := by
 obtain ⟨v0, v1⟩ := rdV_lt s x.1 2 x.2
 have v2 : rdV s x.1 (2 : Int) x.2 < 65536 := by
  have e2 : 256 ^ 2 <= 65536 := by decide
  have v1 : rdV s x.1 (2 : Int) x.2 < ((256 ^ 2 : Nat) : Int) := v1
  omega
 have v0 : 0 <= rdV s x.1 (2 : Int) x.2 := v0
 refine rc07 A k hA s hs h0 h1 h2 h3 h4 h5 h6 x hg hx 4 2 0 512 (by omega) (by omega) rfl rfl (by omega) (fun v h => fineQ_4 h) ?_
 refine (hA.nf (nf_rGetH_24 A k s _ _ _ _ h0 h1 h2 h3 h4 h5 h6 _ _) ?_)
 have w : IntKind.i64.wrap (rdV s x.1 ((2 : Nat) : Int) x.2) = rdV s x.1 (2 : Int) x.2 := wrap_id _ (by omega) (by omega)
 have w1 : IntKind.i64.wrap (((4 : Nat) : Int) + 1) = 5 := by decide
 rw [w, w1]
 exact ih
def rGetHS : SpecS := fun ys Φ => match ys with
 | [.agg [.str s, .int .i64 a, .int .i64 sec, .int .i64 f1, .int .i64 f2, .int .i64 f3]] => ((0 <= a /\ a <= (s.size : Int) /\ s.size < 4611686018427387904) /\ GoodF (f1, f2, f3)) /\ Φ [.agg [.str s, .int .i64 (hx11 s (a, toE (f1, f2, f3))).1, .int .i64 1, .int .i64 (ofE (hx11 s (a, toE (f1, f2, f3))).2).1, .int .i64 (ofE (hx11 s (a, toE (f1, f2, f3))).2).2.1, .int .i64 (ofE (hx11 s (a, toE (f1, f2, f3))).2).2.2], .agg [.int .u32 (hV s 4 (hx11 s (a, toE (f1, f2, f3))) (hx4 s (a, toE (f1, f2, f3)))), .int .u64 (hV s 8 (hx11 s (a, toE (f1, f2, f3))) (hx5 s (a, toE (f1, f2, f3)))), .int .i64 (hV s 1 (hx11 s (a, toE (f1, f2, f3))) (hx6 s (a, toE (f1, f2, f3)))), .int .i64 (hV s 1 (hx11 s (a, toE (f1, f2, f3))) (hx7 s (a, toE (f1, f2, f3)))), .int .i64 (hV s 1 (hx11 s (a, toE (f1, f2, f3))) (hx8 s (a, toE (f1, f2, f3)))), .int .i64 (hV s 2 (hx11 s (a, toE (f1, f2, f3))) (hx9 s (a, toE (f1, f2, f3)))), .int .i64 (hV s 2 (hx11 s (a, toE (f1, f2, f3))) (hx10 s (a, toE (f1, f2, f3))))]]
 | _ => False
theorem rGetHS_mono : MonoS rGetHS := by
 intro ys Φ Ψ h hF
 unfold rGetHS at hF ⊢
 split at hF
 ·obtain ⟨hp, hk⟩ := hF; exact ⟨hp, h _ hk⟩
 ·exact hF.elim
theorem rGetHS_inv {ys : List PV} {Φ : List PV -> Prop} (h : rGetHS ys Φ) : ∃ (s : ByteArray) (a : Int) (sec : Int) (f1 : Int) (f2 : Int) (f3 : Int), ys = [.agg [.str s, .int .i64 a, .int .i64 sec, .int .i64 f1, .int .i64 f2, .int .i64 f3]] /\ ((0 <= a /\ a <= (s.size : Int) /\ s.size < 4611686018427387904) /\ GoodF (f1, f2, f3)) /\ Φ [.agg [.str s, .int .i64 (hx11 s (a, toE (f1, f2, f3))).1, .int .i64 1, .int .i64 (ofE (hx11 s (a, toE (f1, f2, f3))).2).1, .int .i64 (ofE (hx11 s (a, toE (f1, f2, f3))).2).2.1, .int .i64 (ofE (hx11 s (a, toE (f1, f2, f3))).2).2.2], .agg [.int .u32 (hV s 4 (hx11 s (a, toE (f1, f2, f3))) (hx4 s (a, toE (f1, f2, f3)))), .int .u64 (hV s 8 (hx11 s (a, toE (f1, f2, f3))) (hx5 s (a, toE (f1, f2, f3)))), .int .i64 (hV s 1 (hx11 s (a, toE (f1, f2, f3))) (hx6 s (a, toE (f1, f2, f3)))), .int .i64 (hV s 1 (hx11 s (a, toE (f1, f2, f3))) (hx7 s (a, toE (f1, f2, f3)))), .int .i64 (hV s 1 (hx11 s (a, toE (f1, f2, f3))) (hx8 s (a, toE (f1, f2, f3)))), .int .i64 (hV s 2 (hx11 s (a, toE (f1, f2, f3))) (hx9 s (a, toE (f1, f2, f3)))), .int .i64 (hV s 2 (hx11 s (a, toE (f1, f2, f3))) (hx10 s (a, toE (f1, f2, f3))))]] := by
 unfold rGetHS at h
 split at h
 ·exact ⟨_, _, _, _, _, _, rfl, h⟩
 ·exact h.elim
theorem ok_rGetH : FunS B 51 rGetHS := by
 refine funS_of (N := 126) (f := ff_rGetH) env_S1 mixed fn_rGetH (by kernel_rfl) (by kernel_rfl) (by kernel_rfl) rGetHS_mono ?_
 intro A k ys hA hF
 obtain ⟨s, a, sec, f1, f2, f3, rfl, ⟨⟨h0, h1, hs⟩, hgf⟩, hk⟩ := rGetHS_inv hF; clear hF
 refine ⟨by kernel_rfl, (hA.nf (nf_rGetH_a A k s a sec f1 f2 f3) ?_)⟩
 obtain ⟨e, hg, hf⟩ := hgf.ex
 rw [hf, hg.toE] at hk
 obtain ⟨rfl, rfl, rfl⟩ : f1 = (ofE e).1 /\ f2 = (ofE e).2.1 /\ f3 = (ofE e).2.2 := ⟨congrArg (·.1) hf, congrArg (·.2.1) hf, congrArg (·.2.2) hf⟩
 clear hf hgf
 have i0 : hIn s (a, e) := ⟨h0, h1⟩
 have g0 : GoodE (a, e).2 := hg
 refine rb07 A k hA s hs 0 (by decide) 67 rfl rfl (a, e) g0 i0 ?_
 have i1 := i0.m 67
 have g1 : GoodE (hM s 67 (a, e)).2 := (g0.rd _ _ _ _).need _ _ _ _
 refine rb07 A k hA s hs 1 (by decide) 87 rfl rfl _ g1 i1 ?_
 have i2 := i1.m 87
 have g2 : GoodE (hM s 87 (hM s 67 (a, e))).2 := (g1.rd _ _ _ _).need _ _ _ _
 refine rb07 A k hA s hs 2 (by decide) 77 rfl rfl _ g2 i2 ?_
 have i3 := i2.m 77
 have g3 : GoodE (hM s 77 (hM s 87 (hM s 67 (a, e)))).2 := (g2.rd _ _ _ _).need _ _ _ _
 refine rb07 A k hA s hs 3 (by decide) 49 rfl rfl _ g3 i3 ?_
 have i4 : hIn s (hx4 s (a, e)) := i3.m 49
 have g4 : GoodE (hx4 s (a, e)).2 := (g3.rd _ _ _ _).need _ _ _ _
 have i5 : hIn s (hx5 s (a, e)) := i4.r (by decide)
 have g5 : GoodE (hx5 s (a, e)).2 := g4.rd _ _ _ _
 have i6 : hIn s (hx6 s (a, e)) := i5.r (by decide)
 have g6 : GoodE (hx6 s (a, e)).2 := g5.rd _ _ _ _
 have i7 : hIn s (hx7 s (a, e)) := i6.r (by decide)
 have g7 : GoodE (hx7 s (a, e)).2 := g6.rd _ _ _ _
 have i8 : hIn s (hx8 s (a, e)) := i7.n (by decide)
 have g8 : GoodE (hx8 s (a, e)).2 := (g7.rd _ _ _ _).need _ _ _ _
 have i9 : hIn s (hx9 s (a, e)) := i8.n (by decide)
 have g9 : GoodE (hx9 s (a, e)).2 := (g8.rd _ _ _ _).need _ _ _ _
 have i10 : hIn s (hx10 s (a, e)) := i9.n (by decide)
 have g10 : GoodE (hx10 s (a, e)).2 := (g9.rd _ _ _ _).need _ _ _ _
 have g11 : GoodE (hx11 s (a, e)).2 := (g10.rd _ _ _ _).need _ _ _ _
 show A (td Tryz.f51 3) (envAt 126 [(1, .ptr 0 0), (2, .ptr 1 0), (3, .ptr 2 0), (4, .int .i64 (4 : Int))]) [.box [.str s, .int .i64 (hx4 s (a, e)).1, .int .i64 1, .int .i64 (ofE (hx4 s (a, e)).2).1, .int .i64 (ofE (hx4 s (a, e)).2).2.1, .int .i64 (ofE (hx4 s (a, e)).2).2.2], .box [.str ⟨#[]⟩, .int .i64 0, .int .i64 0, .int .i64 0, .int .i64 0, .int .i64 0], .box [.int .u32 0, .int .u64 0, .int .i64 0, .int .i64 0, .int .i64 0, .int .i64 0, .int .i64 0]]
 refine (hA.nf (nf_rGetH_b A k s _ _ _ _ _) ?_)
 have d : decide ((4 : Int) < 4) = false := rfl
 rw [d, cond_false]
 refine ⟨hs, hs, hs, [0, 1, 1, 2, 2], rfl, ?_⟩
 have z1 : sizeOk 1 = true := rfl
 have z4 : sizeOk 4 = true := rfl
 have z8 : sizeOk 8 = true := rfl
 obtain ⟨u0, u1⟩ := rdV_lt s (hx4 s (a, e)).1 4 (hx4 s (a, e)).2
 obtain ⟨w0, w1⟩ := rdV_lt s (hx6 s (a, e)).1 1 (hx6 s (a, e)).2
 have u0 : 0 <= rdV s (hx4 s (a, e)).1 (4 : Int) (hx4 s (a, e)).2 := u0
 have u1 : rdV s (hx4 s (a, e)).1 (4 : Int) (hx4 s (a, e)).2 < 4294967296 := u1
 have w0 : 0 <= rdV s (hx6 s (a, e)).1 (1 : Int) (hx6 s (a, e)).2 := w0
 have w1 : rdV s (hx6 s (a, e)).1 (1 : Int) (hx6 s (a, e)).2 < 256 := w1
 try simp only [F3_eta]
 rw [g4.nF 1 i4.1 i4.2 z4, g4.nV i4.1 i4.2 z4, g4.nAt i4.1 i4.2 z4]
 try simp only [F3_eta]
 have q5 : rdE s (hx4 s (a, e)).1 4 1 (hx4 s (a, e)).2 = (hx5 s (a, e)).2 := rfl
 have p5 : rdAt s (hx4 s (a, e)).1 4 (hx4 s (a, e)).2 = (hx5 s (a, e)).1 := rfl
 rw [q5, p5]
 rw [g5.nF 1 i5.1 i5.2 z8, g5.nV i5.1 i5.2 z8, g5.nAt i5.1 i5.2 z8]
 try simp only [F3_eta]
 have q6 : rdE s (hx5 s (a, e)).1 8 1 (hx5 s (a, e)).2 = (hx6 s (a, e)).2 := rfl
 have p6 : rdAt s (hx5 s (a, e)).1 8 (hx5 s (a, e)).2 = (hx6 s (a, e)).1 := rfl
 rw [q6, p6]
 rw [g6.nF 1 i6.1 i6.2 z1, g6.nV i6.1 i6.2 z1, g6.nAt i6.1 i6.2 z1]
 have q7 : rdE s (hx6 s (a, e)).1 1 1 (hx6 s (a, e)).2 = (hx7 s (a, e)).2 := rfl
 have p7 : rdAt s (hx6 s (a, e)).1 1 (hx6 s (a, e)).2 = (hx7 s (a, e)).1 := rfl
 rw [q7, p7, u32_id _ u0 u1, wrap_id _ (by omega) (by omega)]
 refine rc07_1 A k hA s hs _ _ _ _ _ _ _ _ g7 i7 ?_
 refine rc07_2 A k hA s hs _ _ _ _ _ _ _ _ g8 i8 ?_
 refine rc07_3 A k hA s hs _ _ _ _ _ _ _ _ g9 i9 ?_
 refine rc07_4 A k hA s hs _ _ _ _ _ _ _ _ g10 i10 ?_
 refine (hA.nf (nf_rGetH_c A k s _ _ _ _ _ _ _ _ _ _ _ _) ?_)
 have d : decide ((5 : Int) <= 4) = false := rfl
 rw [d, cond_false]
 have hb : ((ofE (hx11 s (a, e)).2).1 != 0) = !(hx11 s (a, e)).2.isNil := by rw [<- g11.nil_iff]; rfl
 unfold hV at hk
 show (bif (ofE (hx11 s (a, e)).2).1 != 0 then _ else _ : Prop)
 rw [hb]
 cases hn : (hx11 s (a, e)).2.isNil with
 | false => simp only [hn, cond_false] at hk; exact hk
 | true => simp only [hn, cond_true] at hk; exact hk
end Go.Ab.T
