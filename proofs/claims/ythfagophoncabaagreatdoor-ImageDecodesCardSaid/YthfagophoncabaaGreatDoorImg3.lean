import Derived.Test.YthfagophoncabaaGreatDoorActs4
import Derived.Test.YthfagophoncabaaGreatDoorParts5
import Derived.Test.YthfagophoncabaaGreatDoorImg2
import Derived.Test.YthfagophoncabaaGreatDoorSched4
import Derived.Test.YthfagophoncabaaGreatDoorRef07
import Derived.Test.YthfagophoncabaaGreatDoorPairs3
set_option linter.unusedVariables false
set_option linter.unusedSimpArgs false
set_option linter.unusedSectionVars false
namespace Go.Ab.T
open Go Go.Ab Go.Proofs
set_option maxRecDepth 100000
set_option maxHeartbeats 4000000
noncomputable def RD0 := base (fun g => match g with | 56 => some (lift 0 rGet11S) | 53 => some (lift 0 rGet8S) | 55 => some (lift 0 rGet10S) | 54 => some (lift 0 rGet9S) | _ => none) (fun g => match g with | 52 => some getS | 57 => some rFailS | 32 => some rSum02S | 51 => some rGetHS | _ => none) (fun _ => none)
theorem env_RD0 : EnvOk RD0 := env_of (by
 intro g F h
 split at h
 ·cases h; exact ok_rGet
 ·cases h; exact ok_rFail
 ·cases h; exact ok_rSum02
 ·cases h; exact ok_rGetH
 ·cases h) (by
 intro g F h
 split at h
 ·cases h; exact (lift_ok ok_rGet11)
 ·cases h; exact (lift_ok ok_rGet8)
 ·cases h; exact (lift_ok ok_rGet10)
 ·cases h; exact (lift_ok ok_rGet9)
 ·cases h) (fun g F h => (by cases h))
theorem fn_rDec : FnOk Tryz.prog 15 Tryz.f15 (bodyOf Tryz.f15) := ⟨by kernel_rfl, by kernel_rfl, by kernel_rfl⟩
noncomputable def ff_rDec : Fun := ⟨Tryz.f15.ntmps, 0, Tryz.f15.results.toList, fun i => match i with | 12 => some [0, 2, 3, 5, 6] | 15 => some [2, 3, 5, 6, 9, 10] | 17 => some [2, 3, 5, 6, 9, 10] | 19 => some [2, 3, 5, 6, 9, 10] | 21 => some [2, 3, 6, 9, 10] | 24 => some [2, 3, 9, 10] | _ => none, fun i => match i with | 12 => true | 15 => true | 17 => true | 19 => true | 21 => true | 24 => true | _ => false, fun i => match i with | 3 => [0,1,4,5,9999] | 25 => [0,1,9999] | _ => []⟩
theorem nf_rDec_a (A : KA Kd) (k : List PV -> Heap Kd -> Prop) (s : ByteArray) : evT RD0 ff_rDec A k 400 false [.code (bodyOf Tryz.f15)] (startEnv 136 [.str s]) [] = ((((0 : Int) <= (0 : Int) /\ 0 <= (↑s.size : Int) /\ s.size < 4611686018427387904) /\ GoodF ((0 : Int), (0 : Int), (0 : Int))) /\ bif (ofE (hx11 s ((0 : Int), toE ((0 : Int), (0 : Int), (0 : Int)))).snd).fst != 0 then k [.agg [.int .u64 0, .int .i64 0, .own 0, .own 1, .own 2, .own 3], .agg [.int .i64 (ofE (hx11 s ((0 : Int), toE ((0 : Int), (0 : Int), (0 : Int)))).snd).fst, .int .i64 (ofE (hx11 s ((0 : Int), toE ((0 : Int), (0 : Int), (0 : Int)))).snd).snd.fst, .int .i64 (ofE (hx11 s ((0 : Int), toE ((0 : Int), (0 : Int), (0 : Int)))).snd).snd.snd]] [.row 55 [], .row 59 [], .row 139 [], .row 141 []] else bif IntKind.u64.wrap (hV s 4 (hx11 s ((0 : Int), toE ((0 : Int), (0 : Int), (0 : Int)))) (hx4 s ((0 : Int), toE ((0 : Int), (0 : Int), (0 : Int))))) != IntKind.u64.wrap (↑s.size : Int) then k [.agg [.int .u64 0, .int .i64 0, .own 0, .own 1, .own 2, .own 3], .agg [.int .i64 4, .int .i64 1, .int .i64 4]] [.row 55 [], .row 59 [], .row 139 [], .row 141 []] else bif decide ((↑s.size : Int) < 27) then k [.agg [.int .u64 0, .int .i64 0, .own 0, .own 1, .own 2, .own 3], .agg [.int .i64 2, .int .i64 6, .int .i64 23]] [.row 55 [], .row 59 [], .row 139 [], .row 141 []] else s.size < 4611686018427387904 /\ ((0 : Int) <= (0 : Int) /\ 0 <= IntKind.i64.wrap ((↑s.size : Int) - 4) /\ IntKind.i64.wrap ((↑s.size : Int) - 4) <= (↑s.size : Int)) /\ (s.extract (Int.toNat (0 : Int)) (IntKind.i64.wrap ((↑s.size : Int) - 4)).toNat).size < 4611686018427387904 /\ bif getV s (IntKind.i64.wrap ((↑s.size : Int) - 4)) 4 != IntKind.u64.wrap (↑(crcN (s.extract (Int.toNat (0 : Int)) (IntKind.i64.wrap ((↑s.size : Int) - 4)).toNat).data.toList) : Int) then k [.agg [.int .u64 0, .int .i64 0, .own 0, .own 1, .own 2, .own 3], .agg [.int .i64 5, .int .i64 6, .int .i64 (IntKind.i64.wrap ((↑s.size : Int) - 4))]] [.row 55 [], .row 59 [], .row 139 [], .row 141 []] else A (tdr Tryz.f15 12) (envAt 136 [(0, .str s), (2, .ptr 0 0), (3, .ptr 1 0), (5, .ptr 2 0), (6, .int .i64 (↑s.size : Int))]) [.box [.int .u64 0, .int .i64 0, .own 3, .own 4, .own 5, .own 6], .box [.int .i64 0, .int .i64 0, .int .i64 0], .box [.int .u32 (hV s 4 (hx11 s ((0 : Int), toE ((0 : Int), (0 : Int), (0 : Int)))) (hx4 s ((0 : Int), toE ((0 : Int), (0 : Int), (0 : Int))))), .int .u64 (hV s 8 (hx11 s ((0 : Int), toE ((0 : Int), (0 : Int), (0 : Int)))) (hx5 s ((0 : Int), toE ((0 : Int), (0 : Int), (0 : Int))))), .int .i64 (hV s 1 (hx11 s ((0 : Int), toE ((0 : Int), (0 : Int), (0 : Int)))) (hx6 s ((0 : Int), toE ((0 : Int), (0 : Int), (0 : Int))))), .int .i64 (hV s 1 (hx11 s ((0 : Int), toE ((0 : Int), (0 : Int), (0 : Int)))) (hx7 s ((0 : Int), toE ((0 : Int), (0 : Int), (0 : Int))))), .int .i64 (hV s 1 (hx11 s ((0 : Int), toE ((0 : Int), (0 : Int), (0 : Int)))) (hx8 s ((0 : Int), toE ((0 : Int), (0 : Int), (0 : Int))))), .int .i64 (hV s 2 (hx11 s ((0 : Int), toE ((0 : Int), (0 : Int), (0 : Int)))) (hx9 s ((0 : Int), toE ((0 : Int), (0 : Int), (0 : Int))))), .int .i64 (hV s 2 (hx11 s ((0 : Int), toE ((0 : Int), (0 : Int), (0 : Int)))) (hx10 s ((0 : Int), toE ((0 : Int), (0 : Int), (0 : Int)))))], .row 55 [], .row 59 [], .row 139 [], .row 141 []]) := by kernel_rfl
theorem nf_rDec_12 (A : KA Kd) (k : List PV -> Heap Kd -> Prop) (s : ByteArray) (n h0 h1 h2 h3 h4 h5 h6 : Int) : evT RD0 ff_rDec A k 400 true (tdr Tryz.f15 12) (envAt 136 [(0, .str s), (2, .ptr 0 0), (3, .ptr 1 0), (5, .ptr 2 0), (6, .int .i64 n)]) [.box [.int .u64 0, .int .i64 0, .own 3, .own 4, .own 5, .own 6], .box [.int .i64 0, .int .i64 0, .int .i64 0], .box [.int .u32 h0, .int .u64 h1, .int .i64 h2, .int .i64 h3, .int .i64 h4, .int .i64 h5, .int .i64 h6], .row 55 ([] : List Prt), .row 59 ([] : List Sch), .row 139 ([] : List Pr), .row 141 ([] : List Act3)] = (((0 : Int) <= (0 : Int) /\ 0 <= IntKind.i64.wrap (n - 4) /\ IntKind.i64.wrap (n - 4) <= (↑s.size : Int)) /\ ((((0 : Int) <= (23 : Int) /\ 23 <= (↑(s.extract (Int.toNat (0 : Int)) (IntKind.i64.wrap (n - 4)).toNat).size : Int) /\ (s.extract (Int.toNat (0 : Int)) (IntKind.i64.wrap (n - 4)).toNat).size < 1099511627776) /\ GoodF ((0 : Int), (0 : Int), (0 : Int))) /\ h3 <= 9223372036854775807) /\ A (tdr Tryz.f15 15) (envAt 136 [(2, .ptr 0 0), (3, .ptr 1 0), (5, .ptr 2 0), (6, .int .i64 n), (9, .ptr 3 0), (10, .ptr 4 0)]) [.box [.int .u64 0, .int .i64 0, .own 5, .own 6, .own 7, .own 8], .box [.int .i64 0, .int .i64 0, .int .i64 0], .box [.int .u32 h0, .int .u64 h1, .int .i64 h2, .int .i64 h3, .int .i64 h4, .int .i64 h5, .int .i64 h6], .box [.int .u64 h1, .int .i64 h2, .own 9, .own 10, .own 11, .own 12], .box [.str (s.extract (Int.toNat (0 : Int)) (IntKind.i64.wrap (n - 4)).toNat), .int .i64 (ptsX (s.extract (Int.toNat (0 : Int)) (IntKind.i64.wrap (n - 4)).toNat) h3.toNat (-1 : Int) ((23 : Int), toE ((0 : Int), (0 : Int), (0 : Int)))).fst, .int .i64 2, .int .i64 (ofE (ptsX (s.extract (Int.toNat (0 : Int)) (IntKind.i64.wrap (n - 4)).toNat) h3.toNat (-1 : Int) ((23 : Int), toE ((0 : Int), (0 : Int), (0 : Int)))).snd).fst, .int .i64 (ofE (ptsX (s.extract (Int.toNat (0 : Int)) (IntKind.i64.wrap (n - 4)).toNat) h3.toNat (-1 : Int) ((23 : Int), toE ((0 : Int), (0 : Int), (0 : Int)))).snd).snd.fst, .int .i64 (ofE (ptsX (s.extract (Int.toNat (0 : Int)) (IntKind.i64.wrap (n - 4)).toNat) h3.toNat (-1 : Int) ((23 : Int), toE ((0 : Int), (0 : Int), (0 : Int)))).snd).snd.snd], .row 55 [], .row 59 [], .row 139 [], .row 141 [], .row 55 (Bool.rec ((fun (_ : Unit) => []) ()) ((fun (_ : Unit) => ptsV (s.extract (Int.toNat (0 : Int)) (IntKind.i64.wrap (n - 4)).toNat) h3.toNat (-1 : Int) ((23 : Int), toE ((0 : Int), (0 : Int), (0 : Int)))) ()) (ptsX (s.extract (Int.toNat (0 : Int)) (IntKind.i64.wrap (n - 4)).toNat) h3.toNat (-1 : Int) ((23 : Int), toE ((0 : Int), (0 : Int), (0 : Int)))).snd.isNil), .row 59 [], .row 139 [], .row 141 []]) := by kernel_rfl
theorem nf_rDec_15 (A : KA Kd) (k : List PV -> Heap Kd -> Prop) (t : ByteArray) (n a sec ep fi f1 f2 f3 : Int) (h0 h1 h2 h3 h4 h5 h6 : Int) (ps : List Prt) (ss : List Sch) (rs : List Pr) (ac : List Act3) : evT RD0 ff_rDec A k 400 true (tdr Tryz.f15 15) (envAt 136 [(2, .ptr 0 0), (3, .ptr 1 0), (5, .ptr 2 0), (6, .int .i64 n), (9, .ptr 3 0), (10, .ptr 4 0)]) [.box [.int .u64 0, .int .i64 0, .own 5, .own 6, .own 7, .own 8], .box [.int .i64 0, .int .i64 0, .int .i64 0], .box [.int .u32 h0, .int .u64 h1, .int .i64 h2, .int .i64 h3, .int .i64 h4, .int .i64 h5, .int .i64 h6], .box [.int .u64 ep, .int .i64 fi, .own 9, .own 10, .own 11, .own 12], .box [.str t, .int .i64 a, .int .i64 sec, .int .i64 f1, .int .i64 f2, .int .i64 f3], .row 55 ([] : List Prt), .row 59 ([] : List Sch), .row 139 ([] : List Pr), .row 141 ([] : List Act3), .row 55 ps, .row 59 ss, .row 139 rs, .row 141 ac] = (bif f1 == 0 then (((0 <= a /\ a <= (↑t.size : Int) /\ t.size < 1099511627776) /\ GoodF (f1, f2, f3)) /\ h4 <= 9223372036854775807) /\ A (tdr Tryz.f15 17) (envAt 136 [(2, .ptr 0 0), (3, .ptr 1 0), (5, .ptr 2 0), (6, .int .i64 n), (9, .ptr 3 0), (10, .ptr 4 0)]) [.box [.int .u64 0, .int .i64 0, .own 5, .own 6, .own 7, .own 8], .box [.int .i64 0, .int .i64 0, .int .i64 0], .box [.int .u32 h0, .int .u64 h1, .int .i64 h2, .int .i64 h3, .int .i64 h4, .int .i64 h5, .int .i64 h6], .box [.int .u64 ep, .int .i64 fi, .own 9, .own 10, .own 11, .own 12], .box [.str t, .int .i64 (schsX t h4.toNat (-1 : Int) (a, toE (f1, f2, f3))).fst, .int .i64 3, .int .i64 (ofE (schsX t h4.toNat (-1 : Int) (a, toE (f1, f2, f3))).snd).fst, .int .i64 (ofE (schsX t h4.toNat (-1 : Int) (a, toE (f1, f2, f3))).snd).snd.fst, .int .i64 (ofE (schsX t h4.toNat (-1 : Int) (a, toE (f1, f2, f3))).snd).snd.snd], .row 55 [], .row 59 [], .row 139 [], .row 141 [], .row 55 ps, .row 59 (Bool.rec ((fun (_ : Unit) => []) ()) ((fun (_ : Unit) => schsV t h4.toNat (-1 : Int) (a, toE (f1, f2, f3))) ()) (schsX t h4.toNat (-1 : Int) (a, toE (f1, f2, f3))).snd.isNil), .row 139 rs, .row 141 ac]
else A (tdr Tryz.f15 (17 : Nat)) (envAt (136 : Nat) [((2 : Nat), PV.ptr (0 : Nat) (0 : Nat)), ((3 : Nat), PV.ptr (1 : Nat) (0 : Nat)), ((5 : Nat), PV.ptr (2 : Nat) (0 : Nat)), ((6 : Nat), PV.int IntKind.i64 n), ((9 : Nat), PV.ptr (3 : Nat) (0 : Nat)), ((10 : Nat), PV.ptr (4 : Nat) (0 : Nat))]) [AObj.box [PV.int IntKind.u64 (0 : Int), PV.int IntKind.i64 (0 : Int), PV.own (5 : Nat), PV.own (6 : Nat), PV.own (7 : Nat), PV.own (8 : Nat)], AObj.box [PV.int IntKind.i64 (0 : Int), PV.int IntKind.i64 (0 : Int), PV.int IntKind.i64 (0 : Int)], AObj.box [PV.int IntKind.u32 h0, PV.int IntKind.u64 h1, PV.int IntKind.i64 h2, PV.int IntKind.i64 h3, PV.int IntKind.i64 h4, PV.int IntKind.i64 h5, PV.int IntKind.i64 h6], AObj.box [PV.int IntKind.u64 ep, PV.int IntKind.i64 fi, PV.own (9 : Nat), PV.own (10 : Nat), PV.own (11 : Nat), PV.own (12 : Nat)], AObj.box [PV.str t, PV.int IntKind.i64 a, PV.int IntKind.i64 sec, PV.int IntKind.i64 f1, PV.int IntKind.i64 f2, PV.int IntKind.i64 f3], AObj.row (55 : Nat) [], AObj.row (59 : Nat) [], AObj.row (139 : Nat) [], AObj.row (141 : Nat) [], AObj.row (55 : Nat) ps, AObj.row (59 : Nat) ss, AObj.row (139 : Nat) rs, AObj.row (141 : Nat) ac]) := by kernel_rfl
theorem nf_rDec_17 (A : KA Kd) (k : List PV -> Heap Kd -> Prop) (t : ByteArray) (n a sec ep fi f1 f2 f3 : Int) (h0 h1 h2 h3 h4 h5 h6 : Int) (ps : List Prt) (ss : List Sch) (rs : List Pr) (ac : List Act3) : evT RD0 ff_rDec A k 400 true (tdr Tryz.f15 17) (envAt 136 [(2, .ptr 0 0), (3, .ptr 1 0), (5, .ptr 2 0), (6, .int .i64 n), (9, .ptr 3 0), (10, .ptr 4 0)]) [.box [.int .u64 0, .int .i64 0, .own 5, .own 6, .own 7, .own 8], .box [.int .i64 0, .int .i64 0, .int .i64 0], .box [.int .u32 h0, .int .u64 h1, .int .i64 h2, .int .i64 h3, .int .i64 h4, .int .i64 h5, .int .i64 h6], .box [.int .u64 ep, .int .i64 fi, .own 9, .own 10, .own 11, .own 12], .box [.str t, .int .i64 a, .int .i64 sec, .int .i64 f1, .int .i64 f2, .int .i64 f3], .row 55 ([] : List Prt), .row 59 ([] : List Sch), .row 139 ([] : List Pr), .row 141 ([] : List Act3), .row 55 ps, .row 59 ss, .row 139 rs, .row 141 ac] = (bif f1 == 0 then (((0 <= a /\ a <= (↑t.size : Int) /\ t.size < 1099511627776) /\ GoodF (f1, f2, f3)) /\ h5 <= 9223372036854775807) /\ A (tdr Tryz.f15 19) (envAt 136 [(2, .ptr 0 0), (3, .ptr 1 0), (5, .ptr 2 0), (6, .int .i64 n), (9, .ptr 3 0), (10, .ptr 4 0)]) [.box [.int .u64 0, .int .i64 0, .own 5, .own 6, .own 7, .own 8], .box [.int .i64 0, .int .i64 0, .int .i64 0], .box [.int .u32 h0, .int .u64 h1, .int .i64 h2, .int .i64 h3, .int .i64 h4, .int .i64 h5, .int .i64 h6], .box [.int .u64 ep, .int .i64 fi, .own 9, .own 10, .own 11, .own 12], .box [.str t, .int .i64 (prsX t h5.toNat none (a, toE (f1, f2, f3))).fst, .int .i64 4, .int .i64 (ofE (prsX t h5.toNat none (a, toE (f1, f2, f3))).snd).fst, .int .i64 (ofE (prsX t h5.toNat none (a, toE (f1, f2, f3))).snd).snd.fst, .int .i64 (ofE (prsX t h5.toNat none (a, toE (f1, f2, f3))).snd).snd.snd], .row 55 [], .row 59 [], .row 139 [], .row 141 [], .row 55 ps, .row 59 ss, .row 139 (Bool.rec ((fun (_ : Unit) => []) ()) ((fun (_ : Unit) => prsV t h5.toNat none (a, toE (f1, f2, f3))) ()) (prsX t h5.toNat none (a, toE (f1, f2, f3))).snd.isNil), .row 141 ac]
else A (tdr Tryz.f15 (19 : Nat)) (envAt (136 : Nat) [((2 : Nat), PV.ptr (0 : Nat) (0 : Nat)), ((3 : Nat), PV.ptr (1 : Nat) (0 : Nat)), ((5 : Nat), PV.ptr (2 : Nat) (0 : Nat)), ((6 : Nat), PV.int IntKind.i64 n), ((9 : Nat), PV.ptr (3 : Nat) (0 : Nat)), ((10 : Nat), PV.ptr (4 : Nat) (0 : Nat))]) [AObj.box [PV.int IntKind.u64 (0 : Int), PV.int IntKind.i64 (0 : Int), PV.own (5 : Nat), PV.own (6 : Nat), PV.own (7 : Nat), PV.own (8 : Nat)], AObj.box [PV.int IntKind.i64 (0 : Int), PV.int IntKind.i64 (0 : Int), PV.int IntKind.i64 (0 : Int)], AObj.box [PV.int IntKind.u32 h0, PV.int IntKind.u64 h1, PV.int IntKind.i64 h2, PV.int IntKind.i64 h3, PV.int IntKind.i64 h4, PV.int IntKind.i64 h5, PV.int IntKind.i64 h6], AObj.box [PV.int IntKind.u64 ep, PV.int IntKind.i64 fi, PV.own (9 : Nat), PV.own (10 : Nat), PV.own (11 : Nat), PV.own (12 : Nat)], AObj.box [PV.str t, PV.int IntKind.i64 a, PV.int IntKind.i64 sec, PV.int IntKind.i64 f1, PV.int IntKind.i64 f2, PV.int IntKind.i64 f3], AObj.row (55 : Nat) [], AObj.row (59 : Nat) [], AObj.row (139 : Nat) [], AObj.row (141 : Nat) [], AObj.row (55 : Nat) ps, AObj.row (59 : Nat) ss, AObj.row (139 : Nat) rs, AObj.row (141 : Nat) ac]) := by kernel_rfl
theorem nf_rDec_19 (A : KA Kd) (k : List PV -> Heap Kd -> Prop) (t : ByteArray) (n a sec ep fi f1 f2 f3 : Int) (h0 h1 h2 h3 h4 h5 h6 : Int) (ps : List Prt) (ss : List Sch) (rs : List Pr) (ac : List Act3) : evT RD0 ff_rDec A k 400 true (tdr Tryz.f15 19) (envAt 136 [(2, .ptr 0 0), (3, .ptr 1 0), (5, .ptr 2 0), (6, .int .i64 n), (9, .ptr 3 0), (10, .ptr 4 0)]) [.box [.int .u64 0, .int .i64 0, .own 5, .own 6, .own 7, .own 8], .box [.int .i64 0, .int .i64 0, .int .i64 0], .box [.int .u32 h0, .int .u64 h1, .int .i64 h2, .int .i64 h3, .int .i64 h4, .int .i64 h5, .int .i64 h6], .box [.int .u64 ep, .int .i64 fi, .own 9, .own 10, .own 11, .own 12], .box [.str t, .int .i64 a, .int .i64 sec, .int .i64 f1, .int .i64 f2, .int .i64 f3], .row 55 ([] : List Prt), .row 59 ([] : List Sch), .row 139 ([] : List Pr), .row 141 ([] : List Act3), .row 55 ps, .row 59 ss, .row 139 rs, .row 141 ac] = (bif f1 == 0 then (((0 <= a /\ a <= (↑t.size : Int) /\ t.size < 1099511627776) /\ GoodF (f1, f2, f3)) /\ h6 <= 9223372036854775807) /\ A (tdr Tryz.f15 21) (envAt 136 [(2, .ptr 0 0), (3, .ptr 1 0), (6, .int .i64 n), (9, .ptr 2 0), (10, .ptr 3 0)]) [.box [.int .u64 0, .int .i64 0, .own 4, .own 5, .own 6, .own 7], .box [.int .i64 0, .int .i64 0, .int .i64 0], .box [.int .u64 ep, .int .i64 fi, .own 8, .own 9, .own 10, .own 11], .box [.str t, .int .i64 (acsX t h6.toNat none (a, toE (f1, f2, f3))).fst, .int .i64 5, .int .i64 (ofE (acsX t h6.toNat none (a, toE (f1, f2, f3))).snd).fst, .int .i64 (ofE (acsX t h6.toNat none (a, toE (f1, f2, f3))).snd).snd.fst, .int .i64 (ofE (acsX t h6.toNat none (a, toE (f1, f2, f3))).snd).snd.snd], .row 55 [], .row 59 [], .row 139 [], .row 141 [], .row 55 ps, .row 59 ss, .row 139 rs, .row 141 (Bool.rec ((fun (_ : Unit) => []) ()) ((fun (_ : Unit) => acsV t h6.toNat none (a, toE (f1, f2, f3))) ()) (acsX t h6.toNat none (a, toE (f1, f2, f3))).snd.isNil)]
else A (tdr Tryz.f15 (21 : Nat)) (envAt (136 : Nat) [((2 : Nat), PV.ptr (0 : Nat) (0 : Nat)), ((3 : Nat), PV.ptr (1 : Nat) (0 : Nat)), ((6 : Nat), PV.int IntKind.i64 n), ((9 : Nat), PV.ptr (2 : Nat) (0 : Nat)), ((10 : Nat), PV.ptr (3 : Nat) (0 : Nat))]) [AObj.box [PV.int IntKind.u64 (0 : Int), PV.int IntKind.i64 (0 : Int), PV.own (4 : Nat), PV.own (5 : Nat), PV.own (6 : Nat), PV.own (7 : Nat)], AObj.box [PV.int IntKind.i64 (0 : Int), PV.int IntKind.i64 (0 : Int), PV.int IntKind.i64 (0 : Int)], AObj.box [PV.int IntKind.u64 ep, PV.int IntKind.i64 fi, PV.own (8 : Nat), PV.own (9 : Nat), PV.own (10 : Nat), PV.own (11 : Nat)], AObj.box [PV.str t, PV.int IntKind.i64 a, PV.int IntKind.i64 sec, PV.int IntKind.i64 f1, PV.int IntKind.i64 f2, PV.int IntKind.i64 f3], AObj.row (55 : Nat) [], AObj.row (59 : Nat) [], AObj.row (139 : Nat) [], AObj.row (141 : Nat) [], AObj.row (55 : Nat) ps, AObj.row (59 : Nat) ss, AObj.row (139 : Nat) rs, AObj.row (141 : Nat) ac]) := by kernel_rfl
theorem nf_rDec_21 (A : KA Kd) (k : List PV -> Heap Kd -> Prop) (t : ByteArray) (n a sec ep fi f1 f2 f3 : Int) (ps : List Prt) (ss : List Sch) (rs : List Pr) (ac : List Act3) : evT RD0 ff_rDec A k 400 true (tdr Tryz.f15 21) (envAt 136 [(2, .ptr 0 0), (3, .ptr 1 0), (6, .int .i64 n), (9, .ptr 2 0), (10, .ptr 3 0)]) [.box [.int .u64 0, .int .i64 0, .own 4, .own 5, .own 6, .own 7], .box [.int .i64 0, .int .i64 0, .int .i64 0], .box [.int .u64 ep, .int .i64 fi, .own 8, .own 9, .own 10, .own 11], .box [.str t, .int .i64 a, .int .i64 sec, .int .i64 f1, .int .i64 f2, .int .i64 f3], .row 55 ([] : List Prt), .row 59 ([] : List Sch), .row 139 ([] : List Pr), .row 141 ([] : List Act3), .row 55 ps, .row 59 ss, .row 139 rs, .row 141 ac] = (bif f1 == 0 then bif decide (a < IntKind.i64.wrap (n - 4)) then A (tdr Tryz.f15 24) (envAt 136 [(2, .ptr 0 0), (3, .ptr 1 0), (9, .ptr 2 0), (10, .ptr 3 0)]) [.box [.int .u64 0, .int .i64 0, .own 4, .own 5, .own 6, .own 7], .box [.int .i64 0, .int .i64 0, .int .i64 0], .box [.int .u64 ep, .int .i64 fi, .own 8, .own 9, .own 10, .own 11], .box [.str t, .int .i64 a, .int .i64 6, .int .i64 (rFail (f1, f2, f3) 6 4 a).fst, .int .i64 (rFail (f1, f2, f3) 6 4 a).snd.fst, .int .i64 (rFail (f1, f2, f3) 6 4 a).snd.snd], .row 55 [], .row 59 [], .row 139 [], .row 141 [], .row 55 ps, .row 59 ss, .row 139 rs, .row 141 ac] else A (tdr Tryz.f15 24) (envAt 136 [(2, .ptr 0 0), (3, .ptr 1 0), (9, .ptr 2 0), (10, .ptr 3 0)]) [.box [.int .u64 0, .int .i64 0, .own 4, .own 5, .own 6, .own 7], .box [.int .i64 0, .int .i64 0, .int .i64 0], .box [.int .u64 ep, .int .i64 fi, .own 8, .own 9, .own 10, .own 11], .box [.str t, .int .i64 a, .int .i64 sec, .int .i64 f1, .int .i64 f2, .int .i64 f3], .row 55 [], .row 59 [], .row 139 [], .row 141 [], .row 55 ps, .row 59 ss, .row 139 rs, .row 141 ac]
else A (tdr Tryz.f15 (24 : Nat)) (envAt (136 : Nat) [((2 : Nat), PV.ptr (0 : Nat) (0 : Nat)), ((3 : Nat), PV.ptr (1 : Nat) (0 : Nat)), ((9 : Nat), PV.ptr (2 : Nat) (0 : Nat)), ((10 : Nat), PV.ptr (3 : Nat) (0 : Nat))]) [AObj.box [PV.int IntKind.u64 (0 : Int), PV.int IntKind.i64 (0 : Int), PV.own (4 : Nat), PV.own (5 : Nat), PV.own (6 : Nat), PV.own (7 : Nat)], AObj.box [PV.int IntKind.i64 (0 : Int), PV.int IntKind.i64 (0 : Int), PV.int IntKind.i64 (0 : Int)], AObj.box [PV.int IntKind.u64 ep, PV.int IntKind.i64 fi, PV.own (8 : Nat), PV.own (9 : Nat), PV.own (10 : Nat), PV.own (11 : Nat)], AObj.box [PV.str t, PV.int IntKind.i64 a, PV.int IntKind.i64 sec, PV.int IntKind.i64 f1, PV.int IntKind.i64 f2, PV.int IntKind.i64 f3], AObj.row (55 : Nat) [], AObj.row (59 : Nat) [], AObj.row (139 : Nat) [], AObj.row (141 : Nat) [], AObj.row (55 : Nat) ps, AObj.row (59 : Nat) ss, AObj.row (139 : Nat) rs, AObj.row (141 : Nat) ac]) := by kernel_rfl
theorem nf_rDec_24 (A : KA Kd) (k : List PV -> Heap Kd -> Prop) (t : ByteArray) (a sec ep fi f1 f2 f3 : Int) (ps : List Prt) (ss : List Sch) (rs : List Pr) (ac : List Act3) : evT RD0 ff_rDec A k 400 true (tdr Tryz.f15 24) (envAt 136 [(2, .ptr 0 0), (3, .ptr 1 0), (9, .ptr 2 0), (10, .ptr 3 0)]) [.box [.int .u64 0, .int .i64 0, .own 4, .own 5, .own 6, .own 7], .box [.int .i64 0, .int .i64 0, .int .i64 0], .box [.int .u64 ep, .int .i64 fi, .own 8, .own 9, .own 10, .own 11], .box [.str t, .int .i64 a, .int .i64 sec, .int .i64 f1, .int .i64 f2, .int .i64 f3], .row 55 ([] : List Prt), .row 59 ([] : List Sch), .row 139 ([] : List Pr), .row 141 ([] : List Act3), .row 55 ps, .row 59 ss, .row 139 rs, .row 141 ac] = (bif f1 != 0 then k [.agg [.int .u64 0, .int .i64 0, .own 0, .own 1, .own 2, .own 3], .agg [.int .i64 f1, .int .i64 f2, .int .i64 f3]] [.row 55 [], .row 59 [], .row 139 [], .row 141 []]
else k [PV.agg [PV.int IntKind.u64 ep, PV.int IntKind.i64 fi, PV.own (0 : Nat), PV.own (1 : Nat), PV.own (2 : Nat), PV.own (3 : Nat)], PV.agg [PV.int IntKind.i64 (0 : Int), PV.int IntKind.i64 (0 : Int), PV.int IntKind.i64 (0 : Int)]] [AObj.row (55 : Nat) ps, AObj.row (59 : Nat) ss, AObj.row (139 : Nat) rs, AObj.row (141 : Nat) ac]) := by kernel_rfl
def DKr (k : List PV -> Heap Kd -> Prop) (e : Err) (M : Mdl) : Prop :=
 bif e.isNil then k [.agg [.int .u64 M.1, .int .i64 M.2.1, .own 0, .own 1, .own 2, .own 3], .agg [.int .i64 0, .int .i64 0, .int .i64 0]] [.row 55 M.2.2.1, .row 59 M.2.2.2.1, .row 139 M.2.2.2.2.1, .row 141 M.2.2.2.2.2]
 else k [.agg [.int .u64 0, .int .i64 0, .own 0, .own 1, .own 2, .own 3], .agg [.int .i64 (ofE (e)).1, .int .i64 (ofE (e)).2.1, .int .i64 (ofE (e)).2.2]] [.row 55 ([] : List Prt), .row 59 ([] : List Sch), .row 139 ([] : List Pr), .row 141 ([] : List Act3)]
theorem acsX_good {s : ByteArray} : ∀ (n : Nat) (last : Option Act3) {x : RS}, GoodE x.2 -> GoodE (acsX s n last x).2
 | 0, _, _, h => h
 | n + 1, last, x, h => by
  unfold acsX
  cases x.2.isNil with
  | false => exact h
  | true =>
   refine acsX_good n _ ?_
   have hg1 : GoodE (r1 s 5 1 x).2 := h.rd s x.1 1 5
   have hg2 : GoodE (r1 s 5 1 (r1 s 5 1 x)).2 := hg1.rd s (r1 s 5 1 x).1 1 5
   have hg3 : GoodE (ac1 s x).2 := hg2.rd s (r1 s 5 1 (r1 s 5 1 x)).1 1 5
   have hg4 : GoodE (acE s x) := hg3.need _ 5 6 (x.1 + 2)
   exact hg4.need _ 5 9 x.1
theorem prsX_good {s : ByteArray} : ∀ (n : Nat) (last : Option Pr) {x : RS}, GoodE x.2 -> GoodE (prsX s n last x).2
 | 0, _, _, h => h
 | n + 1, last, x, h => by
  unfold prsX
  cases x.2.isNil with
  | false => exact h
  | true =>
   refine prsX_good n _ ?_
   have hg1 : GoodE (r1 s 4 1 x).2 := h.rd s x.1 1 4
   have hg2 : GoodE (pr1 s x).2 := hg1.rd s (r1 s 4 1 x).1 1 4
   exact hg2.need _ 4 9 x.1
theorem ptsX_good {s : ByteArray} : ∀ (n : Nat) (last : Int) {x : RS}, GoodE x.2 -> GoodE (ptsX s n last x).2
 | 0, _, _, h => h
 | n + 1, last, x, h => by
  unfold ptsX
  cases x.2.isNil with
  | false => exact h
  | true => exact ptsX_good n _ (ptX_good h)
theorem rowX_good {s : ByteArray} {sec : Int} {x : RS} (h : GoodE x.2) : GoodE (rowX s sec x).2 := (((h.rd _ _ _ _).rd _ _ _ _).need _ _ _ _ |>.rd _ _ _ _).need _ _ _ _
theorem rowsX_good {s : ByteArray} {sec : Int} : ∀ (n : Nat) {x : RS}, GoodE x.2 -> GoodE (rowsX s sec n x).2
 | 0, _, h => h
 | n + 1, x, h => by
  unfold rowsX
  cases x.2.isNil with
  | false => exact h
  | true => exact rowsX_good n (rowX_good h)
theorem manyX_good {s : ByteArray} {sec size most : Int} {x : RS} (h : GoodE x.2) : GoodE (manyX s sec size most x).2 := by
 have gc : GoodE (cntX s sec size most x).2 := (h.rd _ _ _ _).need _ _ _ _
 unfold manyX
 cases (cntX s sec size most x).2.isNil with
 | false => exact gc
 | true => exact rowsX_good _ gc
theorem schX_good {s : ByteArray} {last : Int} {x : RS} (h : GoodE x.2) : GoodE (schX s last x).2 := by
 have gid : GoodE (idX s last x).2 := (h.rd _ _ _ _).need _ _ _ _
 have gs1 : GoodE (s1X s last x).2 := (gid.rd _ _ _ _).need _ _ _ _
 exact manyX_good (manyX_good gs1)
theorem schsX_good {s : ByteArray} : ∀ (n : Nat) (last : Int) {x : RS}, GoodE x.2 -> GoodE (schsX s n last x).2
 | 0, _, _, h => h
 | n + 1, last, x, h => by
  unfold schsX
  cases x.2.isNil with
  | false => exact h
  | true => exact schsX_good n _ (schX_good h)
theorem hx11_good {s : ByteArray} {x : RS} (g0 : GoodE x.2) : GoodE (hx11 s x).2 := by
 have g1 : GoodE (hM s 67 x).2 := (g0.rd _ _ _ _).need _ _ _ _
 have g2 : GoodE (hM s 87 (hM s 67 x)).2 := (g1.rd _ _ _ _).need _ _ _ _
 have g3 : GoodE (hM s 77 (hM s 87 (hM s 67 x))).2 := (g2.rd _ _ _ _).need _ _ _ _
 have g4 : GoodE (hx4 s x).2 := (g3.rd _ _ _ _).need _ _ _ _
 have g5 : GoodE (hx5 s x).2 := g4.rd _ _ _ _
 have g6 : GoodE (hx6 s x).2 := g5.rd _ _ _ _
 have g7 : GoodE (hx7 s x).2 := g6.rd _ _ _ _
 have g8 : GoodE (hx8 s x).2 := (g7.rd _ _ _ _).need _ _ _ _
 have g9 : GoodE (hx9 s x).2 := (g8.rd _ _ _ _).need _ _ _ _
 have g10 : GoodE (hx10 s x).2 := (g9.rd _ _ _ _).need _ _ _ _
 exact (g10.rd _ _ _ _).need _ _ _ _
section
variable (A : KA Kd) (k : List PV -> Heap Kd -> Prop) (hA : Closed RD0 ff_rDec k A) (t : ByteArray) (ht : t.size < 1099511627776)
include hA
theorem rDec_c24 (e : Err) (hg : GoodE e) (a sec ep fi : Int) (ps : List Prt) (ss : List Sch) (rs : List Pr) (ac : List Act3) (hk : DKr k e (ep, fi, ps, ss, rs, ac)) :
 A (tdr Tryz.f15 24) (envAt 136 [(2, .ptr 0 0), (3, .ptr 1 0), (9, .ptr 2 0), (10, .ptr 3 0)]) [.box [.int .u64 0, .int .i64 0, .own 4, .own 5, .own 6, .own 7], .box [.int .i64 0, .int .i64 0, .int .i64 0], .box [.int .u64 ep, .int .i64 fi, .own 8, .own 9, .own 10, .own 11], .box [.str t, .int .i64 a, .int .i64 sec, .int .i64 (ofE (e)).1, .int .i64 (ofE (e)).2.1, .int .i64 (ofE (e)).2.2], .row 55 ([] : List Prt), .row 59 ([] : List Sch), .row 139 ([] : List Pr), .row 141 ([] : List Act3), .row 55 ps, .row 59 ss, .row 139 rs, .row 141 ac] := by
 have bne : ∀ v : Int, (v != 0) = !(v == 0) := fun _ => rfl
 refine (hA.nf (nf_rDec_24 A k t a sec ep fi _ _ _ ps ss rs ac) ?_)
 rw [bne, hg.nil_iff]
 unfold DKr at hk
 cases c : e.isNil with
 | true => rw [c] at hk; exact hk
 | false => rw [c] at hk; exact hk
include ht
theorem rDec_c21 (x : RS) (hg : GoodE x.2) (n sec ep fi : Int) (hn : n = (t.size : Int) + 4) (ps : List Prt) (ss : List Sch) (rs : List Pr) (ac : List Act3) (hk : DKr k (endE t x) (ep, fi, ps, ss, rs, ac)) :
 A (tdr Tryz.f15 21) (envAt 136 [(2, .ptr 0 0), (3, .ptr 1 0), (6, .int .i64 n), (9, .ptr 2 0), (10, .ptr 3 0)]) [.box [.int .u64 0, .int .i64 0, .own 4, .own 5, .own 6, .own 7], .box [.int .i64 0, .int .i64 0, .int .i64 0], .box [.int .u64 ep, .int .i64 fi, .own 8, .own 9, .own 10, .own 11], .box [.str t, .int .i64 x.1, .int .i64 sec, .int .i64 (ofE (x.2)).1, .int .i64 (ofE (x.2)).2.1, .int .i64 (ofE (x.2)).2.2], .row 55 ([] : List Prt), .row 59 ([] : List Sch), .row 139 ([] : List Pr), .row 141 ([] : List Act3), .row 55 ps, .row 59 ss, .row 139 rs, .row 141 ac] := by
 refine (hA.nf (nf_rDec_21 A k t n x.1 sec ep fi _ _ _ ps ss rs ac) ?_)
 have w : IntKind.i64.wrap (n - 4) = (t.size : Int) := by rw [wrap_id _ (by omega) (by omega)]; omega
 rw [hg.nil_iff, w]
 cases c : x.2.isNil with
 | false =>
  rw [endE_bad c] at hk
  exact rDec_c24 A k hA t x.2 hg x.1 sec ep fi ps ss rs ac hk
 | true =>
  unfold endE at hk
  rw [c, cond_true] at hk
  have hn2 := isNil_eq c
  rw [cond_true]
  cases c2 : decide (x.1 < (t.size : Int)) with
  | true =>
   rw [decide_eq_true_eq] at c2
   rw [decide_eq_true (by omega), cond_true] at hk
   have e7 := (hg.ofE_fail 6 4 x.1).symm
   have e8 : failR x.2 6 4 x.1 = .sec 6 (.plc x.1 (.cls 4)) := by rw [hn2]; rfl
   rw [e8] at e7
   rw [cond_true, e7]
   exact rDec_c24 A k hA t _ (.spc _ _ _ rfl) x.1 6 ep fi ps ss rs ac hk
  | false =>
   rw [decide_eq_false_iff_not] at c2
   rw [decide_eq_false (by omega), cond_false] at hk
   rw [<- hn2] at hk
   rw [cond_false]
   exact rDec_c24 A k hA t x.2 hg x.1 sec ep fi ps ss rs ac hk
theorem rDec_c19 (x : RS) (hx : hIn t x) (hg : GoodE x.2) (n sec ep fi : Int) (hn : n = (t.size : Int) + 4) (h0 h1 h2 h3 h4 h5 h6 : Int) (hn6 : h6 <= 9223372036854775807) (ps : List Prt) (ss : List Sch) (rs : List Pr) (ac : List Act3) (hk : DKr k (endE t (acsX t h6.toNat none x)) (ep, fi, ps, ss, rs, acsV t h6.toNat none x)) :
 A (tdr Tryz.f15 19) (envAt 136 [(2, .ptr 0 0), (3, .ptr 1 0), (5, .ptr 2 0), (6, .int .i64 n), (9, .ptr 3 0), (10, .ptr 4 0)]) [.box [.int .u64 0, .int .i64 0, .own 5, .own 6, .own 7, .own 8], .box [.int .i64 0, .int .i64 0, .int .i64 0], .box [.int .u32 h0, .int .u64 h1, .int .i64 h2, .int .i64 h3, .int .i64 h4, .int .i64 h5, .int .i64 h6], .box [.int .u64 ep, .int .i64 fi, .own 9, .own 10, .own 11, .own 12], .box [.str t, .int .i64 x.1, .int .i64 sec, .int .i64 (ofE (x.2)).1, .int .i64 (ofE (x.2)).2.1, .int .i64 (ofE (x.2)).2.2], .row 55 ([] : List Prt), .row 59 ([] : List Sch), .row 139 ([] : List Pr), .row 141 ([] : List Act3), .row 55 ps, .row 59 ss, .row 139 rs, .row 141 ac] := by
 refine (hA.nf (nf_rDec_19 A k t n x.1 sec ep fi _ _ _ h0 h1 h2 h3 h4 h5 h6 ps ss rs ac) ?_)
 have e1 : toE ((ofE x.2).1, (ofE x.2).2.1, (ofE x.2).2.2) = x.2 := hg.toE
 rw [hg.nil_iff, e1]
 cases c : x.2.isNil with
 | true =>
  refine ⟨⟨⟨⟨hx.1, hx.2, ht⟩, .mk hg⟩, hn6⟩, ?_⟩
  refine rDec_c21 A k hA t ht (acsX t h6.toNat none x) (acsX_good _ _ hg) n 5 ep fi hn ps ss rs _ ?_
  cases c2 : (endE t (acsX t h6.toNat none x)).isNil with
  | true => have := endE_keep c2; rw [this]; exact hk
  | false => unfold DKr at hk ⊢; rw [c2] at hk ⊢; exact hk
 | false =>
  rw [acsX_err c] at hk
  refine rDec_c21 A k hA t ht x hg n sec ep fi hn ps ss rs ac ?_
  unfold DKr at hk ⊢; rw [endE_bad c, c] at hk ⊢; exact hk
theorem rDec_c17 (x : RS) (hx : hIn t x) (hg : GoodE x.2) (n sec ep fi : Int) (hn : n = (t.size : Int) + 4) (h0 h1 h2 h3 h4 h5 h6 : Int) (hn5 : h5 <= 9223372036854775807) (hn6 : h6 <= 9223372036854775807) (ps : List Prt) (ss : List Sch) (rs : List Pr) (ac : List Act3)
 (hk : DKr k (endE t (acsX t h6.toNat none (prsX t h5.toNat none x))) (ep, fi, ps, ss, prsV t h5.toNat none x, acsV t h6.toNat none (prsX t h5.toNat none x))) :
 A (tdr Tryz.f15 17) (envAt 136 [(2, .ptr 0 0), (3, .ptr 1 0), (5, .ptr 2 0), (6, .int .i64 n), (9, .ptr 3 0), (10, .ptr 4 0)]) [.box [.int .u64 0, .int .i64 0, .own 5, .own 6, .own 7, .own 8], .box [.int .i64 0, .int .i64 0, .int .i64 0], .box [.int .u32 h0, .int .u64 h1, .int .i64 h2, .int .i64 h3, .int .i64 h4, .int .i64 h5, .int .i64 h6], .box [.int .u64 ep, .int .i64 fi, .own 9, .own 10, .own 11, .own 12], .box [.str t, .int .i64 x.1, .int .i64 sec, .int .i64 (ofE (x.2)).1, .int .i64 (ofE (x.2)).2.1, .int .i64 (ofE (x.2)).2.2], .row 55 ([] : List Prt), .row 59 ([] : List Sch), .row 139 ([] : List Pr), .row 141 ([] : List Act3), .row 55 ps, .row 59 ss, .row 139 rs, .row 141 ac] := by
 refine (hA.nf (nf_rDec_17 A k t n x.1 sec ep fi _ _ _ h0 h1 h2 h3 h4 h5 h6 ps ss rs ac) ?_)
 have e1 : toE ((ofE x.2).1, (ofE x.2).2.1, (ofE x.2).2.2) = x.2 := hg.toE
 rw [hg.nil_iff, e1]
 cases c : x.2.isNil with
 | true =>
  refine ⟨⟨⟨⟨hx.1, hx.2, ht⟩, .mk hg⟩, hn5⟩, ?_⟩
  refine rDec_c19 A k hA t ht (prsX t h5.toNat none x) (hx.prs _ _) (prsX_good _ _ hg) n 4 ep fi hn h0 h1 h2 h3 h4 h5 h6 hn6 ps ss _ ac ?_
  cases c2 : (endE t (acsX t h6.toNat none (prsX t h5.toNat none x))).isNil with
  | true => have := acsX_keep _ _ _ (endE_keep c2); rw [this]; exact hk
  | false => unfold DKr at hk ⊢; rw [c2] at hk ⊢; exact hk
 | false =>
  rw [prsX_err c, acsX_err c] at hk
  refine rDec_c19 A k hA t ht x hx hg n sec ep fi hn h0 h1 h2 h3 h4 h5 h6 hn6 ps ss rs ac ?_
  rw [acsX_err c]
  unfold DKr at hk ⊢; rw [endE_bad c, c] at hk ⊢; exact hk
theorem rDec_c15 (x : RS) (hx : hIn t x) (hg : GoodE x.2) (n sec ep fi : Int) (hn : n = (t.size : Int) + 4) (h0 h1 h2 h3 h4 h5 h6 : Int) (hn4 : h4 <= 9223372036854775807) (hn5 : h5 <= 9223372036854775807) (hn6 : h6 <= 9223372036854775807) (ps : List Prt) (ss : List Sch) (rs : List Pr) (ac : List Act3)
 (hk : DKr k (endE t (acsX t h6.toNat none (prsX t h5.toNat none (schsX t h4.toNat (-1) x)))) (ep, fi, ps, schsV t h4.toNat (-1) x, prsV t h5.toNat none (schsX t h4.toNat (-1) x), acsV t h6.toNat none (prsX t h5.toNat none (schsX t h4.toNat (-1) x)))) :
 A (tdr Tryz.f15 15) (envAt 136 [(2, .ptr 0 0), (3, .ptr 1 0), (5, .ptr 2 0), (6, .int .i64 n), (9, .ptr 3 0), (10, .ptr 4 0)]) [.box [.int .u64 0, .int .i64 0, .own 5, .own 6, .own 7, .own 8], .box [.int .i64 0, .int .i64 0, .int .i64 0], .box [.int .u32 h0, .int .u64 h1, .int .i64 h2, .int .i64 h3, .int .i64 h4, .int .i64 h5, .int .i64 h6], .box [.int .u64 ep, .int .i64 fi, .own 9, .own 10, .own 11, .own 12], .box [.str t, .int .i64 x.1, .int .i64 sec, .int .i64 (ofE (x.2)).1, .int .i64 (ofE (x.2)).2.1, .int .i64 (ofE (x.2)).2.2], .row 55 ([] : List Prt), .row 59 ([] : List Sch), .row 139 ([] : List Pr), .row 141 ([] : List Act3), .row 55 ps, .row 59 ss, .row 139 rs, .row 141 ac] := by
 refine (hA.nf (nf_rDec_15 A k t n x.1 sec ep fi _ _ _ h0 h1 h2 h3 h4 h5 h6 ps ss rs ac) ?_)
 have e1 : toE ((ofE x.2).1, (ofE x.2).2.1, (ofE x.2).2.2) = x.2 := hg.toE
 rw [hg.nil_iff, e1]
 cases c : x.2.isNil with
 | true =>
  refine ⟨⟨⟨⟨hx.1, hx.2, ht⟩, .mk hg⟩, hn4⟩, ?_⟩
  refine rDec_c17 A k hA t ht (schsX t h4.toNat (-1) x) (hIn_schs _ _ hx) (schsX_good _ _ hg) n 3 ep fi hn h0 h1 h2 h3 h4 h5 h6 hn5 hn6 ps _ rs ac ?_
  cases c2 : (endE t (acsX t h6.toNat none (prsX t h5.toNat none (schsX t h4.toNat (-1) x)))).isNil with
  | true => have := prsX_keep _ _ _ (acsX_keep _ _ _ (endE_keep c2)); rw [this]; exact hk
  | false => unfold DKr at hk ⊢; rw [c2] at hk ⊢; exact hk
 | false =>
  rw [schsX_err c, prsX_err c, acsX_err c] at hk
  refine rDec_c17 A k hA t ht x hx hg n sec ep fi hn h0 h1 h2 h3 h4 h5 h6 hn5 hn6 ps ss rs ac ?_
  rw [prsX_err c, acsX_err c]
  unfold DKr at hk ⊢; rw [endE_bad c, c] at hk ⊢; exact hk
end
theorem rDec_c12 (A : KA Kd) (k : List PV -> Heap Kd -> Prop) (hA : Closed RD0 ff_rDec k A) (s : ByteArray) (hs : s.size < 1099511627776) (h27 : 27 <= s.size) (h0 h1 h2 h3 h4 h5 h6 : Int) (hn3 : h3 <= 9223372036854775807) (hn4 : h4 <= 9223372036854775807) (hn5 : h5 <= 9223372036854775807) (hn : h6 <= 9223372036854775807)
 (hk : DKr k (endE (preS s) (dA (preS s) h3 h4 h5 h6)) (h1, h2, ptsV (preS s) h3.toNat (-1) d0, schsV (preS s) h4.toNat (-1) (dP (preS s) h3), prsV (preS s) h5.toNat none (dS (preS s) h3 h4), acsV (preS s) h6.toNat none (dR (preS s) h3 h4 h5))) :
 A (tdr Tryz.f15 12) (envAt 136 [(0, .str s), (2, .ptr 0 0), (3, .ptr 1 0), (5, .ptr 2 0), (6, .int .i64 (s.size : Int))]) [.box [.int .u64 0, .int .i64 0, .own 3, .own 4, .own 5, .own 6], .box [.int .i64 0, .int .i64 0, .int .i64 0], .box [.int .u32 h0, .int .u64 h1, .int .i64 h2, .int .i64 h3, .int .i64 h4, .int .i64 h5, .int .i64 h6], .row 55 ([] : List Prt), .row 59 ([] : List Sch), .row 139 ([] : List Pr), .row 141 ([] : List Act3)] := by
 refine (hA.nf (nf_rDec_12 A k s (s.size : Int) h0 h1 h2 h3 h4 h5 h6) ?_)
 have w : IntKind.i64.wrap ((s.size : Int) - 4) = (s.size : Int) - 4 := wrap_id _ (by omega) (by omega)
 have hx : ((s.size : Int) - 4).toNat = s.size - 4 := by omega
 have hz : Int.toNat 0 = 0 := rfl
 have hpre : s.extract 0 (s.size - 4) = preS s := rfl
 have hsz : (preS s).size = s.size - 4 := by unfold preS; rw [ByteArray.size_extract]; omega
 have ht0 : toE (0, 0, 0) = .nil := rfl
 rw [w, hx, hz, hpre, ht0]
 have hx0 : hIn (preS s) d0 := ⟨by show (0 : Int) <= 23; decide, by show (23 : Int) <= _; omega⟩
 refine ⟨⟨by omega, by omega, by omega⟩, ⟨⟨⟨by omega, by omega, by omega⟩, .mk GoodE.nil⟩, hn3⟩, ?_⟩
 refine rDec_c15 A k hA (preS s) (by omega) (ptsX (preS s) h3.toNat (-1) d0) (hIn.pts _ _ hx0) (ptsX_good _ _ .nil) _ 2 h1 h2 (by omega) h0 h1 h2 h3 h4 h5 h6 hn4 hn5 hn _ [] [] [] ?_
 cases c2 : (endE (preS s) (dA (preS s) h3 h4 h5 h6)).isNil with
 | true =>
  have hq : (ptsX (preS s) h3.toNat (-1) (23, Err.nil)).2.isNil = true := schsX_keep _ _ _ (prsX_keep _ _ _ (acsX_keep _ _ _ (endE_keep c2)))
  rw [hq]; exact hk
 | false => unfold DKr at hk ⊢; rw [c2] at hk; unfold dA dR dS dP at c2; rw [c2]; exact hk
def rDecS : List PV -> Heap Kd -> (List PV -> Heap Kd -> Prop) -> Prop := fun ys L k => match ys, L with
 | [.str s], [] => (s.size < 1099511627776) /\ k [.agg [.int .u64 (decM s).1, .int .i64 (decM s).2.1, .own 0, .own 1, .own 2, .own 3], .agg [.int .i64 (ofE (decE s)).1, .int .i64 (ofE (decE s)).2.1, .int .i64 (ofE (decE s)).2.2]] [.row 55 (decM s).2.2.1, .row 59 (decM s).2.2.2.1, .row 139 (decM s).2.2.2.2.1, .row 141 (decM s).2.2.2.2.2]
 | _, _ => False
theorem rDecS_inv {ys : List PV} {L : Heap Kd} {k : List PV -> Heap Kd -> Prop} (h : rDecS ys L k) : ∃ (s : ByteArray), ys = [.str s] /\ L = [] /\ (s.size < 1099511627776) /\ k [.agg [.int .u64 (decM s).1, .int .i64 (decM s).2.1, .own 0, .own 1, .own 2, .own 3], .agg [.int .i64 (ofE (decE s)).1, .int .i64 (ofE (decE s)).2.1, .int .i64 (ofE (decE s)).2.2]] [.row 55 (decM s).2.2.1, .row 59 (decM s).2.2.2.1, .row 139 (decM s).2.2.2.2.1, .row 141 (decM s).2.2.2.2.2] := by
 unfold rDecS at h
 split at h
 ·exact ⟨_, rfl, rfl, h⟩
 ·exact h.elim
theorem ok_rDec : FunF B 15 0 rDecS := by
 refine funF_of (N := 136) (f := ff_rDec) env_RD0 mixed fn_rDec (by kernel_rfl) (by kernel_rfl) ?_
 intro A k ys L hA hF
 obtain ⟨s, rfl, rfl, hs, hk⟩ := rDecS_inv hF; clear hF
 refine ⟨by kernel_rfl, (hA.nf (nf_rDec_a A k s) ?_)⟩
 have bne : ∀ v w : Int, (v != w) = !(v == w) := fun _ _ => rfl
 have ht0 : toE (0, 0, 0) = .nil := rfl
 rw [ht0]
 have gH : GoodE (iH s).2 := hx11_good (x := (0, .nil)) GoodE.nil
 have iHd : hx11 s (0, .nil) = iH s := rfl
 have hz : ∀ (e : Err) (a b c : Int), e.isNil = false -> decE s = e -> ofE e = (a, b, c) -> k [.agg [.int .u64 0, .int .i64 0, .own 0, .own 1, .own 2, .own 3], .agg [.int .i64 a, .int .i64 b, .int .i64 c]] [.row 55 ([] : List Prt), .row 59 ([] : List Sch), .row 139 ([] : List Pr), .row 141 ([] : List Act3)] := by
  intro e a b c he hd ho
  have hM : decM s = (0, 0, [], [], [], []) := by unfold decM; rw [hd, he]; rfl
  rw [hM, hd, ho] at hk; exact hk
 refine ⟨⟨⟨by omega, by omega, by omega⟩, .mk GoodE.nil⟩, ?_⟩
 rw [iHd, bne, gH.nil_iff]
 cases c : (iH s).2.isNil with
 | false =>
  refine hz _ _ _ _ c ?_ rfl
  unfold decE headE; rw [c, cond_false, c]; rfl
 | true =>
  obtain ⟨t0, t1⟩ := iT_lt s
  have hiT : hV s 4 (iH s) (hx4 s (0, .nil)) = iT s := rfl
  rw [Bool.not_true, cond_false, hiT, u64_id _ (by omega) (by omega), u64_id _ (by omega) (by omega)]
  have hh : headE s = frE s (iT s) := by unfold headE; rw [c]; rfl
  have hd1 : (frE s (iT s)).isNil = false -> decE s = frE s (iT s) := fun h => by unfold decE; rw [hh, h]; rfl
  cases c1 : iT s != (s.size : Int) with
  | true =>
   have hf : frE s (iT s) = .sec 1 (.plc 4 (.cls 4)) := by unfold frE; rw [c1]; rfl
   rw [hf] at hd1
   exact hz _ _ _ _ rfl (hd1 rfl) rfl
  | false =>
  rw [cond_false]
  cases c2 : decide ((s.size : Int) < 27) with
  | true =>
   have hf : frE s (iT s) = .sec 6 (.plc 23 (.cls 2)) := by unfold frE; rw [c1, c2]; rfl
   rw [hf] at hd1
   exact hz _ _ _ _ rfl (hd1 rfl) rfl
  | false =>
  rw [decide_eq_false_iff_not] at c2
  rw [cond_false]
  have w : IntKind.i64.wrap ((s.size : Int) - 4) = (s.size : Int) - 4 := wrap_id _ (by omega) (by omega)
  have hx : ((s.size : Int) - 4).toNat = s.size - 4 := by omega
  have hz0 : Int.toNat 0 = 0 := rfl
  have hpre : s.extract 0 (s.size - 4) = preS s := rfl
  have hsz : (preS s).size = s.size - 4 := by unfold preS; rw [ByteArray.size_extract]; omega
  have hcr := crcN_lt (preS s).data.toList
  rw [w, hx, hz0, hpre, u64_id _ (by omega) (by omega)]
  have hsum : getV s ((s.size : Int) - 4) 4 = sumAt s := rfl
  rw [hsum]
  refine ⟨by omega, ⟨by omega, by omega, by omega⟩, by omega, ?_⟩
  cases c3 : sumAt s != ((crcN (preS s).data.toList : Nat) : Int) with
  | true =>
   have hf : frE s (iT s) = .sec 6 (.plc ((s.size : Int) - 4) (.cls 5)) := by unfold frE; rw [c1, decide_eq_false c2, c3]; rfl
   rw [hf] at hd1
   exact hz _ _ _ _ rfl (hd1 rfl) rfl
  | false =>
   have hf : frE s (iT s) = .nil := by unfold frE; rw [c1, decide_eq_false c2, c3]; rfl
   rw [cond_false]
   have hd : decE s = endE (preS s) (dA (preS s) (iP s) (iS s) (iR s) (iA s)) := by unfold decE; rw [hh, hf]; rfl
   refine rDec_c12 A k hA s hs (by omega) _ _ _ _ _ _ _ (hV_le _ _ _ (by decide)) (hV_le _ _ _ (by decide)) (hV_le _ _ _ (by decide)) (hV_le _ _ _ (by decide)) ?_
   unfold DKr
   unfold decM at hk
   rw [hd] at hk
   have f0 : endE (preS s) (dA (preS s) (hV s 1 (iH s) (hx7 s (0, .nil))) (hV s 1 (iH s) (hx8 s (0, .nil))) (hV s 2 (iH s) (hx9 s (0, .nil))) (hV s 2 (iH s) (hx10 s (0, .nil)))) = endE (preS s) (dA (preS s) (iP s) (iS s) (iR s) (iA s)) := rfl
   rw [f0]
   cases c4 : (endE (preS s) (dA (preS s) (iP s) (iS s) (iR s) (iA s))).isNil with
   | true =>
    rw [c4] at hk
    have hn := isNil_eq c4
    rw [hn] at hk
    exact hk
   | false => rw [c4] at hk; exact hk
end Go.Ab.T
