import Derived.Test.YthfagophoncabaaGreatDoorActs3
set_option linter.unusedVariables false
set_option linter.unusedSimpArgs false
set_option linter.unusedSectionVars false
namespace Go.Ab.T
open Go Go.Ab Go.Proofs
variable [DMode]
set_option maxRecDepth 100000
set_option maxHeartbeats 4000000
noncomputable def AG0 := base (fun _ => none) (fun g => match g with | 83 => some ltAS | 57 => some rFailS | 122 => some rNumS | _ => none) (fun _ => none)
theorem env_AG0 : EnvOk AG0 := env_of (by
 intro g F h
 split at h
 ·cases h; exact ok_rLess11
 ·cases h; exact ok_rFail
 ·cases h; exact ok_rNum
 ·cases h) (fun g F h => (by cases h)) (fun g F h => (by cases h))
theorem fn_rGet11 : FnOk Tryz.prog 56 Tryz.f56 (bodyOf Tryz.f56) := ⟨by kernel_rfl, by kernel_rfl, by kernel_rfl⟩
noncomputable def ff_rGet11 : Fun := ⟨Tryz.f56.ntmps, 0, Tryz.f56.results.toList, fun i => match i with | 4 => some [1, 2, 4, 6, 7] | 11 => some [1, 2, 4, 6, 7, 8, 9, 12, 13] | 13 => some [1, 2, 4, 6, 7, 8, 9, 13] | 15 => some [1, 2, 4, 6, 7, 9, 13] | _ => none, fun i => match i with | 11 => true | 13 => true | 15 => true | _ => false, fun _ => []⟩
theorem nf_rGet11_a (A : KA Kd) (k : List PV -> Heap Kd -> Prop) (s : ByteArray) (a sec f1 f2 f3 n : Int) : evT AG0 ff_rGet11 A k 400 false [.code (bodyOf Tryz.f56)] (startEnv 100 [.agg [.str s, .int .i64 a, .int .i64 sec, .int .i64 f1, .int .i64 f2, .int .i64 f3], .int .i64 n]) [] = (∃ (zs : List (Int × Int × Int)), List.map e_api_Act zs = [] /\ A (td Tryz.f56 4) (envAt 100 [(1, .int .i64 n), (2, .ptr 0 0), (4, .ptr 1 0), (6, .own 2), (7, .int .i64 0)]) [.box [.str s, .int .i64 a, .int .i64 5, .int .i64 f1, .int .i64 f2, .int .i64 f3], .box [.str ⟨#[]⟩, .int .i64 0, .int .i64 0, .int .i64 0, .int .i64 0, .int .i64 0], .row 141 zs]) := by kernel_rfl
theorem nf_rGet11_b (A : KA Kd) (k : List PV -> Heap Kd -> Prop) (s : ByteArray) (a f1 f2 f3 n i : Int) (l : List Act3) : evT AG0 ff_rGet11 A k 400 true (td Tryz.f56 4) (envAt 100 [(1, .int .i64 n), (2, .ptr 0 0), (4, .ptr 1 0), (6, .own 2), (7, .int .i64 i)]) [.box [.str s, .int .i64 a, .int .i64 5, .int .i64 f1, .int .i64 f2, .int .i64 f3], .box [.str ⟨#[]⟩, .int .i64 0, .int .i64 0, .int .i64 0, .int .i64 0, .int .i64 0], .row 141 l] = (bif decide (i < n) then bif f1 == 0 then s.size < 4611686018427387904 /\ s.size < 4611686018427387904 /\ s.size < 4611686018427387904 /\ A (tdr Tryz.f56 11) (envAt 100 [(1, .int .i64 n), (2, .ptr 0 0), (4, .ptr 1 0), (6, .own 2), (7, .int .i64 i), (8, .int .i64 a), (9, .ptr 3 0), (12, .int .u64 (nV s (nAt s (nAt s a 1 (f1, f2, f3)) 1 (nF s a 1 5 (f1, f2, f3))) 1 (nF s (nAt s a 1 (f1, f2, f3)) 1 5 (nF s a 1 5 (f1, f2, f3))))), (13, .ptr 4 0)]) [.box [.str s, .int .i64 a, .int .i64 5, .int .i64 f1, .int .i64 f2, .int .i64 f3], .box [.str ⟨#[]⟩, .int .i64 0, .int .i64 0, .int .i64 0, .int .i64 0, .int .i64 0], .row 141 l, .box [.str s, .int .i64 (nAt s (nAt s (nAt s a 1 (f1, f2, f3)) 1 (nF s a 1 5 (f1, f2, f3))) 1 (nF s (nAt s a 1 (f1, f2, f3)) 1 5 (nF s a 1 5 (f1, f2, f3)))), .int .i64 5, .int .i64 (nF s (nAt s (nAt s a 1 (f1, f2, f3)) 1 (nF s a 1 5 (f1, f2, f3))) 1 5 (nF s (nAt s a 1 (f1, f2, f3)) 1 5 (nF s a 1 5 (f1, f2, f3)))).fst, .int .i64 (nF s (nAt s (nAt s a 1 (f1, f2, f3)) 1 (nF s a 1 5 (f1, f2, f3))) 1 5 (nF s (nAt s a 1 (f1, f2, f3)) 1 5 (nF s a 1 5 (f1, f2, f3)))).snd.fst, .int .i64 (nF s (nAt s (nAt s a 1 (f1, f2, f3)) 1 (nF s a 1 5 (f1, f2, f3))) 1 5 (nF s (nAt s a 1 (f1, f2, f3)) 1 5 (nF s a 1 5 (f1, f2, f3)))).snd.snd], .box [.int .i64 (IntKind.i64.wrap (nV s a 1 (f1, f2, f3))), .int .i64 (IntKind.i64.wrap (nV s (nAt s a 1 (f1, f2, f3)) 1 (nF s a 1 5 (f1, f2, f3)))), .int .i64 (IntKind.i64.wrap (nV s (nAt s (nAt s a 1 (f1, f2, f3)) 1 (nF s a 1 5 (f1, f2, f3))) 1 (nF s (nAt s a 1 (f1, f2, f3)) 1 5 (nF s a 1 5 (f1, f2, f3)))))]] else bif f1 != 0 then k [.agg [.str s, .int .i64 a, .int .i64 5, .int .i64 f1, .int .i64 f2, .int .i64 f3], .own 0] [.row 141 []] else k [.agg [.str s, .int .i64 a, .int .i64 5, .int .i64 f1, .int .i64 f2, .int .i64 f3], .own 0] [.row 141 l]
else bif f1 != (0 : Int) then k [PV.agg [PV.str s, PV.int IntKind.i64 a, PV.int IntKind.i64 (5 : Int), PV.int IntKind.i64 f1, PV.int IntKind.i64 f2, PV.int IntKind.i64 f3], PV.own (0 : Nat)] [AObj.row (141 : Nat) []] else k [PV.agg [PV.str s, PV.int IntKind.i64 a, PV.int IntKind.i64 (5 : Int), PV.int IntKind.i64 f1, PV.int IntKind.i64 f2, PV.int IntKind.i64 f3], PV.own (0 : Nat)] [AObj.row (141 : Nat) l]) := by kernel_rfl
theorem nf_rGet11_11 (A : KA Kd) (k : List PV -> Heap Kd -> Prop) (s : ByteArray) (a f1 f2 f3 n i at2 a1 g1 g2 g3 v3 p1 p2 p3 : Int) (l : List Act3) : evT AG0 ff_rGet11 A k 400 true (tdr Tryz.f56 11) (envAt 100 [(1, .int .i64 n), (2, .ptr 0 0), (4, .ptr 1 0), (6, .own 2), (7, .int .i64 i), (8, .int .i64 at2), (9, .ptr 3 0), (12, .int .u64 v3), (13, .ptr 4 0)]) [.box [.str s, .int .i64 a, .int .i64 5, .int .i64 f1, .int .i64 f2, .int .i64 f3], .box [.str ⟨#[]⟩, .int .i64 0, .int .i64 0, .int .i64 0, .int .i64 0, .int .i64 0], .row 141 l, .box [.str s, .int .i64 a1, .int .i64 5, .int .i64 g1, .int .i64 g2, .int .i64 g3], .box [.int .i64 p1, .int .i64 p2, .int .i64 p3]] = (bif g1 == 0 then bif v3 != 1 then bif v3 != 2 then A (tdr Tryz.f56 13) (envAt 100 [(1, .int .i64 n), (2, .ptr 0 0), (4, .ptr 1 0), (6, .own 2), (7, .int .i64 i), (8, .int .i64 at2), (9, .ptr 3 0), (13, .ptr 4 0)]) [.box [.str s, .int .i64 a, .int .i64 5, .int .i64 f1, .int .i64 f2, .int .i64 f3], .box [.str ⟨#[]⟩, .int .i64 0, .int .i64 0, .int .i64 0, .int .i64 0, .int .i64 0], .row 141 l, .box [.str s, .int .i64 a1, .int .i64 5, .int .i64 (rFail (g1, g2, g3) 5 6 (IntKind.i64.wrap (at2 + 2))).fst, .int .i64 (rFail (g1, g2, g3) 5 6 (IntKind.i64.wrap (at2 + 2))).snd.fst, .int .i64 (rFail (g1, g2, g3) 5 6 (IntKind.i64.wrap (at2 + 2))).snd.snd], .box [.int .i64 p1, .int .i64 p2, .int .i64 p3]] else A (tdr Tryz.f56 13) (envAt 100 [(1, .int .i64 n), (2, .ptr 0 0), (4, .ptr 1 0), (6, .own 2), (7, .int .i64 i), (8, .int .i64 at2), (9, .ptr 3 0), (13, .ptr 4 0)]) [.box [.str s, .int .i64 a, .int .i64 5, .int .i64 f1, .int .i64 f2, .int .i64 f3], .box [.str ⟨#[]⟩, .int .i64 0, .int .i64 0, .int .i64 0, .int .i64 0, .int .i64 0], .row 141 l, .box [.str s, .int .i64 a1, .int .i64 5, .int .i64 g1, .int .i64 g2, .int .i64 g3], .box [.int .i64 p1, .int .i64 p2, .int .i64 p3]] else A (tdr Tryz.f56 13) (envAt 100 [(1, .int .i64 n), (2, .ptr 0 0), (4, .ptr 1 0), (6, .own 2), (7, .int .i64 i), (8, .int .i64 at2), (9, .ptr 3 0), (13, .ptr 4 0)]) [.box [.str s, .int .i64 a, .int .i64 5, .int .i64 f1, .int .i64 f2, .int .i64 f3], .box [.str ⟨#[]⟩, .int .i64 0, .int .i64 0, .int .i64 0, .int .i64 0, .int .i64 0], .row 141 l, .box [.str s, .int .i64 a1, .int .i64 5, .int .i64 g1, .int .i64 g2, .int .i64 g3], .box [.int .i64 p1, .int .i64 p2, .int .i64 p3]]
else A (tdr Tryz.f56 (13 : Nat)) (envAt (100 : Nat) [((1 : Nat), PV.int IntKind.i64 n), ((2 : Nat), PV.ptr (0 : Nat) (0 : Nat)), ((4 : Nat), PV.ptr (1 : Nat) (0 : Nat)), ((6 : Nat), PV.own (2 : Nat)), ((7 : Nat), PV.int IntKind.i64 i), ((8 : Nat), PV.int IntKind.i64 at2), ((9 : Nat), PV.ptr (3 : Nat) (0 : Nat)), ((13 : Nat), PV.ptr (4 : Nat) (0 : Nat))]) [AObj.box [PV.str s, PV.int IntKind.i64 a, PV.int IntKind.i64 (5 : Int), PV.int IntKind.i64 f1, PV.int IntKind.i64 f2, PV.int IntKind.i64 f3], AObj.box [PV.str (ByteArray.mk #[]), PV.int IntKind.i64 (0 : Int), PV.int IntKind.i64 (0 : Int), PV.int IntKind.i64 (0 : Int), PV.int IntKind.i64 (0 : Int), PV.int IntKind.i64 (0 : Int)], AObj.row (141 : Nat) l, AObj.box [PV.str s, PV.int IntKind.i64 a1, PV.int IntKind.i64 (5 : Int), PV.int IntKind.i64 g1, PV.int IntKind.i64 g2, PV.int IntKind.i64 g3], AObj.box [PV.int IntKind.i64 p1, PV.int IntKind.i64 p2, PV.int IntKind.i64 p3]]) := by kernel_rfl
theorem nf_rGet11_13 (A : KA Kd) (k : List PV -> Heap Kd -> Prop) (s : ByteArray) (a f1 f2 f3 n i at2 a1 g1 g2 g3 p1 p2 p3 : Int) (l : List Act3) : evT AG0 ff_rGet11 A k 400 true (tdr Tryz.f56 13) (envAt 100 [(1, .int .i64 n), (2, .ptr 0 0), (4, .ptr 1 0), (6, .own 2), (7, .int .i64 i), (8, .int .i64 at2), (9, .ptr 3 0), (13, .ptr 4 0)]) [.box [.str s, .int .i64 a, .int .i64 5, .int .i64 f1, .int .i64 f2, .int .i64 f3], .box [.str ⟨#[]⟩, .int .i64 0, .int .i64 0, .int .i64 0, .int .i64 0, .int .i64 0], .row 141 l, .box [.str s, .int .i64 a1, .int .i64 5, .int .i64 g1, .int .i64 g2, .int .i64 g3], .box [.int .i64 p1, .int .i64 p2, .int .i64 p3]] = (bif g1 == 0 then bif decide (i > 0) then (0 <= IntKind.i64.wrap (i - 1) /\ IntKind.i64.wrap (i - 1) < (↑l.length : Int)) /\ ∀ (y : (Int × Int × Int)), l[(IntKind.i64.wrap (i - 1)).toNat]? = some y -> bif !ltA y (p1, p2, p3) then A (tdr Tryz.f56 15) (envAt 100 [(1, .int .i64 n), (2, .ptr 0 0), (4, .ptr 1 0), (6, .own 2), (7, .int .i64 i), (9, .ptr 3 0), (13, .ptr 4 0)]) [.box [.str s, .int .i64 a, .int .i64 5, .int .i64 f1, .int .i64 f2, .int .i64 f3], .box [.str ⟨#[]⟩, .int .i64 0, .int .i64 0, .int .i64 0, .int .i64 0, .int .i64 0], .row 141 l, .box [.str s, .int .i64 a1, .int .i64 5, .int .i64 (rFail (g1, g2, g3) 5 9 at2).fst, .int .i64 (rFail (g1, g2, g3) 5 9 at2).snd.fst, .int .i64 (rFail (g1, g2, g3) 5 9 at2).snd.snd], .box [.int .i64 p1, .int .i64 p2, .int .i64 p3]] else A (tdr Tryz.f56 15) (envAt 100 [(1, .int .i64 n), (2, .ptr 0 0), (4, .ptr 1 0), (6, .own 2), (7, .int .i64 i), (9, .ptr 3 0), (13, .ptr 4 0)]) [.box [.str s, .int .i64 a, .int .i64 5, .int .i64 f1, .int .i64 f2, .int .i64 f3], .box [.str ⟨#[]⟩, .int .i64 0, .int .i64 0, .int .i64 0, .int .i64 0, .int .i64 0], .row 141 l, .box [.str s, .int .i64 a1, .int .i64 5, .int .i64 g1, .int .i64 g2, .int .i64 g3], .box [.int .i64 p1, .int .i64 p2, .int .i64 p3]] else A (tdr Tryz.f56 15) (envAt 100 [(1, .int .i64 n), (2, .ptr 0 0), (4, .ptr 1 0), (6, .own 2), (7, .int .i64 i), (9, .ptr 3 0), (13, .ptr 4 0)]) [.box [.str s, .int .i64 a, .int .i64 5, .int .i64 f1, .int .i64 f2, .int .i64 f3], .box [.str ⟨#[]⟩, .int .i64 0, .int .i64 0, .int .i64 0, .int .i64 0, .int .i64 0], .row 141 l, .box [.str s, .int .i64 a1, .int .i64 5, .int .i64 g1, .int .i64 g2, .int .i64 g3], .box [.int .i64 p1, .int .i64 p2, .int .i64 p3]]
else A (tdr Tryz.f56 (15 : Nat)) (envAt (100 : Nat) [((1 : Nat), PV.int IntKind.i64 n), ((2 : Nat), PV.ptr (0 : Nat) (0 : Nat)), ((4 : Nat), PV.ptr (1 : Nat) (0 : Nat)), ((6 : Nat), PV.own (2 : Nat)), ((7 : Nat), PV.int IntKind.i64 i), ((9 : Nat), PV.ptr (3 : Nat) (0 : Nat)), ((13 : Nat), PV.ptr (4 : Nat) (0 : Nat))]) [AObj.box [PV.str s, PV.int IntKind.i64 a, PV.int IntKind.i64 (5 : Int), PV.int IntKind.i64 f1, PV.int IntKind.i64 f2, PV.int IntKind.i64 f3], AObj.box [PV.str (ByteArray.mk #[]), PV.int IntKind.i64 (0 : Int), PV.int IntKind.i64 (0 : Int), PV.int IntKind.i64 (0 : Int), PV.int IntKind.i64 (0 : Int), PV.int IntKind.i64 (0 : Int)], AObj.row (141 : Nat) l, AObj.box [PV.str s, PV.int IntKind.i64 a1, PV.int IntKind.i64 (5 : Int), PV.int IntKind.i64 g1, PV.int IntKind.i64 g2, PV.int IntKind.i64 g3], AObj.box [PV.int IntKind.i64 p1, PV.int IntKind.i64 p2, PV.int IntKind.i64 p3]]) := by kernel_rfl
theorem nf_rGet11_15 (A : KA Kd) (k : List PV -> Heap Kd -> Prop) (s : ByteArray) (a f1 f2 f3 n i a1 g1 g2 g3 p1 p2 p3 : Int) (l : List Act3) : evT AG0 ff_rGet11 A k 400 true (tdr Tryz.f56 15) (envAt 100 [(1, .int .i64 n), (2, .ptr 0 0), (4, .ptr 1 0), (6, .own 2), (7, .int .i64 i), (9, .ptr 3 0), (13, .ptr 4 0)]) [.box [.str s, .int .i64 a, .int .i64 5, .int .i64 f1, .int .i64 f2, .int .i64 f3], .box [.str ⟨#[]⟩, .int .i64 0, .int .i64 0, .int .i64 0, .int .i64 0, .int .i64 0], .row 141 l, .box [.str s, .int .i64 a1, .int .i64 5, .int .i64 g1, .int .i64 g2, .int .i64 g3], .box [.int .i64 p1, .int .i64 p2, .int .i64 p3]] = (∃ (zs : List (Int × Int × Int)), List.map e_api_Act zs = [PV.agg [PV.int IntKind.i64 p1, PV.int IntKind.i64 p2, PV.int IntKind.i64 p3]] /\ (l.length + (zs).length) * (TInfo.mk (TD.struct [((0 : Nat), (3 : TypeId)), ((1 : Nat), (3 : TypeId)), ((2 : Nat), (3 : TypeId))]) (3 : Nat) (24 : Nat) [PV.int IntKind.i64 0, PV.int IntKind.i64 0, PV.int IntKind.i64 0] true []).bytes <= 140737488355328 /\ A (td Tryz.f56 4) (envAt 100 [(1, .int .i64 n), (2, .ptr 0 0), (4, .ptr 1 0), (6, .own 2), (7, .int .i64 (IntKind.i64.wrap (i + 1)))]) [.box [.str s, .int .i64 a1, .int .i64 5, .int .i64 g1, .int .i64 g2, .int .i64 g3], .box [.str ⟨#[]⟩, .int .i64 0, .int .i64 0, .int .i64 0, .int .i64 0, .int .i64 0], .row 141 (l ++ zs)]) := by kernel_rfl
def rGet11S : List PV -> Heap Kd -> (List PV -> Heap Kd -> Prop) -> Prop := fun ys L k => match ys, L with
 | [.agg [.str s, .int .i64 a, .int .i64 sec, .int .i64 f1, .int .i64 f2, .int .i64 f3], .int .i64 n], [] => (((0 <= a /\ a <= (s.size : Int) /\ s.size < 1099511627776) /\ GoodF (f1, f2, f3)) /\ n <= 9223372036854775807) /\ k [.agg [.str s, .int .i64 (acsX s n.toNat none (a, toE (f1, f2, f3))).1, .int .i64 5, .int .i64 (ofE (acsX s n.toNat none (a, toE (f1, f2, f3))).2).1, .int .i64 (ofE (acsX s n.toNat none (a, toE (f1, f2, f3))).2).2.1, .int .i64 (ofE (acsX s n.toNat none (a, toE (f1, f2, f3))).2).2.2], .own 0] [.row 141 (resA s n.toNat (a, toE (f1, f2, f3)))]
 | _, _ => False
theorem rGet11S_inv {ys : List PV} {L : Heap Kd} {k : List PV -> Heap Kd -> Prop} (h : rGet11S ys L k) : ∃ (s : ByteArray) (a : Int) (sec : Int) (f1 : Int) (f2 : Int) (f3 : Int) (n : Int), ys = [.agg [.str s, .int .i64 a, .int .i64 sec, .int .i64 f1, .int .i64 f2, .int .i64 f3], .int .i64 n] /\ L = [] /\ (((0 <= a /\ a <= (s.size : Int) /\ s.size < 1099511627776) /\ GoodF (f1, f2, f3)) /\ n <= 9223372036854775807) /\ k [.agg [.str s, .int .i64 (acsX s n.toNat none (a, toE (f1, f2, f3))).1, .int .i64 5, .int .i64 (ofE (acsX s n.toNat none (a, toE (f1, f2, f3))).2).1, .int .i64 (ofE (acsX s n.toNat none (a, toE (f1, f2, f3))).2).2.1, .int .i64 (ofE (acsX s n.toNat none (a, toE (f1, f2, f3))).2).2.2], .own 0] [.row 141 (resA s n.toNat (a, toE (f1, f2, f3)))] := by
 unfold rGet11S at h
 split at h
 ·exact ⟨_, _, _, _, _, _, _, rfl, rfl, h⟩
 ·exact h.elim
theorem rGet11_loop (A : KA Kd) (k : List PV -> Heap Kd -> Prop) (hA : Closed AG0 ff_rGet11 k A) (s : ByteArray) (hs : s.size < 1099511627776) (n : Int) (hn : n <= 9223372036854775807) :
 ∀ (m i : Nat), (m : Int) + (i : Int) = n \/ (m = 0 /\ n <= (i : Int)) -> ∀ (acc : List Act3) (x : RS), acc.length = i -> (x.2.isNil = true -> (i : Int) <= x.1) -> hIn s x -> GoodE x.2 ->
  (∀ r, r = (bif (acsX s m (lastA acc) x).2.isNil then addA2 acc (acsV s m (lastA acc) x) else []) -> k [.agg [.str s, .int .i64 (acsX s m (lastA acc) x).1, .int .i64 5, .int .i64 (ofE (acsX s m (lastA acc) x).2).1, .int .i64 (ofE (acsX s m (lastA acc) x).2).2.1, .int .i64 (ofE (acsX s m (lastA acc) x).2).2.2], .own 0] [.row 141 r]) ->
  A (td Tryz.f56 4) (envAt 100 [(1, .int .i64 n), (2, .ptr 0 0), (4, .ptr 1 0), (6, .own 2), (7, .int .i64 (i : Int))]) [.box [.str s, .int .i64 (x).1, .int .i64 5, .int .i64 (ofE (x).2).1, .int .i64 (ofE (x).2).2.1, .int .i64 (ofE (x).2).2.2], .box [.str ⟨#[]⟩, .int .i64 0, .int .i64 0, .int .i64 0, .int .i64 0, .int .i64 0], .row 141 acc] := by
 have bne : ∀ v w : Int, (v != w) = !(v == w) := fun _ _ => rfl
 intro m
 have hend : ∀ (l m : List Act3) (x : RS), GoodE x.2 -> (m = bif x.2.isNil then l else []) -> k [.agg [.str s, .int .i64 (x).1, .int .i64 5, .int .i64 (ofE (x).2).1, .int .i64 (ofE (x).2).2.1, .int .i64 (ofE (x).2).2.2], .own 0] [.row 141 m] ->
  bif (ofE x.2).1 != 0 then k [.agg [.str s, .int .i64 (x).1, .int .i64 5, .int .i64 (ofE (x).2).1, .int .i64 (ofE (x).2).2.1, .int .i64 (ofE (x).2).2.2], .own 0] [.row 141 ([] : List Act3)] else k [.agg [.str s, .int .i64 (x).1, .int .i64 5, .int .i64 (ofE (x).2).1, .int .i64 (ofE (x).2).2.1, .int .i64 (ofE (x).2).2.2], .own 0] [.row 141 l] := by
  intro l m x hg hm hk
  subst hm
  rw [bne, hg.nil_iff]
  cases c : x.2.isNil with
  | false => rw [c] at hk; exact hk
  | true => rw [c] at hk; exact hk
 induction m with
 | zero =>
  intro i hi acc x hacc hix hx hg hk
  refine (hA.nf (nf_rGet11_b A k s _ _ _ _ n _ acc) ?_)
  have d : decide ((i : Int) < n) = false := decide_eq_false (by omega)
  rw [d, cond_false]
  refine hend acc _ x hg rfl (hk _ ?_)
  have e : addA2 acc (acsV s 0 (lastA acc) x) = acc := List.append_nil acc
  rw [e]; rfl
 | succ m ih =>
  intro i hi acc x hacc hix hx hg hk
  refine (hA.nf (nf_rGet11_b A k s _ _ _ _ n _ acc) ?_)
  have d : decide ((i : Int) < n) = true := decide_eq_true (by omega)
  rw [d, cond_true]
  have x1 := hx.r1 (n := 1) 5 (by omega)
  have x2 := x1.r1 (n := 1) 5 (by omega)
  have x3 := hx.ac1
  obtain ⟨h0, h1⟩ := hx
  have hx : hIn s x := ⟨h0, h1⟩
  rw [hg.nil_iff]
  cases c : x.2.isNil with
  | false =>
   have e1 : acsX s (m + 1) (lastA acc) x = x := by show (bif x.2.isNil then _ else x) = x; rw [c]; rfl
   rw [cond_false]
   refine hend acc _ x hg rfl ?_
   rw [e1] at hk
   exact hk _ (by rw [c]; rfl)
  | true =>
   have e1 : acsX s (m + 1) (lastA acc) x = acsX s m (some (acV s x)) (acX s (lastA acc) x) := by show (bif x.2.isNil then _ else _) = _; rw [c]; rfl
   have e2 : acsV s (m + 1) (lastA acc) x = acV s x :: acsV s m (some (acV s x)) (acX s (lastA acc) x) := by show (bif x.2.isNil then _ else _) = _; rw [c]; rfl
   rw [e1, e2] at hk
   have hi2 := hix c
   have hacc' : (acc ++ [acV s x]).length = i + 1 := by rw [List.length_append, List.length_singleton, hacc]
   have hg1 : GoodE (r1 s 5 1 x).2 := hg.rd s x.1 1 5
   have hg2 : GoodE (r1 s 5 1 (r1 s 5 1 x)).2 := hg1.rd s (r1 s 5 1 x).1 1 5
   have hg3 : GoodE (ac1 s x).2 := hg2.rd s (r1 s 5 1 (r1 s 5 1 x)).1 1 5
   have hg4 : GoodE (acE s x) := hg3.need _ 5 6 (x.1 + 2)
   have hg5 : GoodE (acX s (lastA acc) x).2 := hg4.need _ 5 9 x.1
   have hstep : A (td Tryz.f56 4) (envAt 100 [(1, .int .i64 n), (2, .ptr 0 0), (4, .ptr 1 0), (6, .own 2), (7, .int .i64 ((i + 1 : Nat) : Int))]) [.box [.str s, .int .i64 (acX s (lastA acc) x).1, .int .i64 5, .int .i64 (ofE (acX s (lastA acc) x).2).1, .int .i64 (ofE (acX s (lastA acc) x).2).2.1, .int .i64 (ofE (acX s (lastA acc) x).2).2.2], .box [.str ⟨#[]⟩, .int .i64 0, .int .i64 0, .int .i64 0, .int .i64 0, .int .i64 0], .row 141 (acc ++ [acV s x])] := by
    refine ih (i + 1) (by omega) (acc ++ [acV s x]) (acX s (lastA acc) x) hacc' (fun h => ?_) (hx.ac _) hg5 ?_
    ·obtain ⟨k1, k2, k3, k4, _, _⟩ := acX_keep h
     have g1 : (r1 s 5 1 x).1 = x.1 + 1 := by show rdAt s x.1 1 x.2 = _; unfold rdAt; rw [(r1_keep k3).1]; rfl
     have g2 : (r1 s 5 1 x).1 <= (r1 s 5 1 (r1 s 5 1 x)).1 := rdAt_ge s _ _ (by omega)
     have g3 : (r1 s 5 1 (r1 s 5 1 x)).1 <= (ac1 s x).1 := rdAt_ge s _ _ (by omega)
     show ((i + 1 : Nat) : Int) <= (ac1 s x).1
     omega
    ·rw [lastA_add]
     intro r hr
     refine hk r ?_
     rw [hr]; unfold addA2; rw [List.append_assoc]; rfl
   have hlen : (acc.length + 1) * 24 <= 140737488355328 := by omega
   have h15 : A (tdr Tryz.f56 15) (envAt 100 [(1, .int .i64 n), (2, .ptr 0 0), (4, .ptr 1 0), (6, .own 2), (7, .int .i64 (i : Int)), (9, .ptr 3 0), (13, .ptr 4 0)]) [.box [.str s, .int .i64 (x).1, .int .i64 5, .int .i64 (ofE (x).2).1, .int .i64 (ofE (x).2).2.1, .int .i64 (ofE (x).2).2.2], .box [.str ⟨#[]⟩, .int .i64 0, .int .i64 0, .int .i64 0, .int .i64 0, .int .i64 0], .row 141 acc, .box [.str s, .int .i64 (ac1 s x).1, .int .i64 5, .int .i64 (ofE ((acX s (lastA acc) x).2)).1, .int .i64 (ofE ((acX s (lastA acc) x).2)).2.1, .int .i64 (ofE ((acX s (lastA acc) x).2)).2.2], .box [.int .i64 (acV s x).1, .int .i64 (acV s x).2.1, .int .i64 (acV s x).2.2]] := by
    refine (hA.nf (nf_rGet11_15 A k s _ _ _ _ n _ _ _ _ _ _ _ _ acc) ?_)
    refine ⟨[acV s x], rfl, hlen, ?_⟩
    rw [wrap_succ' (by omega)]
    exact hstep
   have h13 : A (tdr Tryz.f56 13) (envAt 100 [(1, .int .i64 n), (2, .ptr 0 0), (4, .ptr 1 0), (6, .own 2), (7, .int .i64 (i : Int)), (8, .int .i64 x.1), (9, .ptr 3 0), (13, .ptr 4 0)]) [.box [.str s, .int .i64 (x).1, .int .i64 5, .int .i64 (ofE (x).2).1, .int .i64 (ofE (x).2).2.1, .int .i64 (ofE (x).2).2.2], .box [.str ⟨#[]⟩, .int .i64 0, .int .i64 0, .int .i64 0, .int .i64 0, .int .i64 0], .row 141 acc, .box [.str s, .int .i64 (ac1 s x).1, .int .i64 5, .int .i64 (ofE (acE s x)).1, .int .i64 (ofE (acE s x)).2.1, .int .i64 (ofE (acE s x)).2.2], .box [.int .i64 (acV s x).1, .int .i64 (acV s x).2.1, .int .i64 (acV s x).2.2]] := by
    refine (hA.nf (nf_rGet11_13 A k s _ _ _ _ n _ _ _ _ _ _ _ _ _ acc) ?_)
    have plain : (acX s (lastA acc) x).2 = acE s x -> A (tdr Tryz.f56 15) (envAt 100 [(1, .int .i64 n), (2, .ptr 0 0), (4, .ptr 1 0), (6, .own 2), (7, .int .i64 (i : Int)), (9, .ptr 3 0), (13, .ptr 4 0)]) [.box [.str s, .int .i64 (x).1, .int .i64 5, .int .i64 (ofE (x).2).1, .int .i64 (ofE (x).2).2.1, .int .i64 (ofE (x).2).2.2], .box [.str ⟨#[]⟩, .int .i64 0, .int .i64 0, .int .i64 0, .int .i64 0, .int .i64 0], .row 141 acc, .box [.str s, .int .i64 (ac1 s x).1, .int .i64 5, .int .i64 (ofE (acE s x)).1, .int .i64 (ofE (acE s x)).2.1, .int .i64 (ofE (acE s x)).2.2], .box [.int .i64 (acV s x).1, .int .i64 (acV s x).2.1, .int .i64 (acV s x).2.2]] := fun h => by rw [h] at h15; exact h15
    rw [hg4.nil_iff]
    cases c2 : (acE s x).isNil with
    | false => rw [cond_false]; exact plain (needE_bad c2 _ _ _ _)
    | true =>
     rw [cond_true]
     rcases i with _ | i
     ·have : lastA acc = none := by unfold lastA; rw [hacc]; rfl
      rw [show decide (((0 : Nat) : Int) > 0) = false from rfl, cond_false]
      exact plain (by rw [this]; rfl)
     ·have d0 : decide (((i + 1 : Nat) : Int) > 0) = true := decide_eq_true (by omega)
      rw [d0, cond_true]
      obtain ⟨z, hz⟩ : ∃ z, acc[i]? = some z := ⟨acc[i]'(by omega), List.getElem?_eq_getElem (by omega)⟩
      refine get_at' (i := i) (by rw [wrap_id _ (by omega) (by omega)]; omega) hz ?_
      have hl : lastA acc = some z := by unfold lastA; rw [hacc]; exact hz
      have e5 : ltA (z.1, z.2.1, z.2.2) ((acV s x).1, (acV s x).2.1, (acV s x).2.2) = ordA (lastA acc) (acV s x) := by rw [hl]; rfl
      rw [e5]
      cases c3 : ordA (lastA acc) (acV s x) with
      | true =>
       rw [Bool.not_true, cond_false]
       exact plain (by show needE _ (ordA (lastA acc) (acV s x)) 5 9 x.1 = _; rw [c3]; rfl)
      | false =>
       rw [Bool.not_false, cond_true]
       have e6 : (acX s (lastA acc) x).2 = failR (acE s x) 5 9 x.1 := by show needE _ (ordA (lastA acc) (acV s x)) 5 9 x.1 = _; rw [c3]; rfl
       have e7 : rFail (ofE (acE s x)) 5 9 x.1 = ofE (acX s (lastA acc) x).2 := by rw [e6]; exact (hg4.ofE_fail 5 9 x.1).symm
       rw [e7]
       exact h15
   have q1 := hg.nF (s := s) (a := x.1) (n := 1) 5 hx.1 hx.2 rfl
   have q2 := hg.nAt (s := s) (a := x.1) (n := 1) hx.1 hx.2 rfl
   have q3 := hg.nV (s := s) (a := x.1) (n := 1) hx.1 hx.2 rfl
   have p1 := hg1.nF (s := s) (a := (r1 s 5 1 x).1) (n := 1) 5 x1.1 x1.2 rfl
   have p2 := hg1.nAt (s := s) (a := (r1 s 5 1 x).1) (n := 1) x1.1 x1.2 rfl
   have p3 := hg1.nV (s := s) (a := (r1 s 5 1 x).1) (n := 1) x1.1 x1.2 rfl
   have u1 := hg2.nF (s := s) (a := (r1 s 5 1 (r1 s 5 1 x)).1) (n := 1) 5 x2.1 x2.2 rfl
   have u2 := hg2.nAt (s := s) (a := (r1 s 5 1 (r1 s 5 1 x)).1) (n := 1) x2.1 x2.2 rfl
   have u3 := hg2.nV (s := s) (a := (r1 s 5 1 (r1 s 5 1 x)).1) (n := 1) x2.1 x2.2 rfl
   have t1 : rdAt s x.1 1 x.2 = (r1 s 5 1 x).1 := rfl
   have t2 : rdE s x.1 1 5 x.2 = (r1 s 5 1 x).2 := rfl
   have t3 : rdAt s (r1 s 5 1 x).1 1 (r1 s 5 1 x).2 = (r1 s 5 1 (r1 s 5 1 x)).1 := rfl
   have t4 : rdE s (r1 s 5 1 x).1 1 5 (r1 s 5 1 x).2 = (r1 s 5 1 (r1 s 5 1 x)).2 := rfl
   have t5 : rdAt s (r1 s 5 1 (r1 s 5 1 x)).1 1 (r1 s 5 1 (r1 s 5 1 x)).2 = (ac1 s x).1 := rfl
   have t6 : rdE s (r1 s 5 1 (r1 s 5 1 x)).1 1 5 (r1 s 5 1 (r1 s 5 1 x)).2 = (ac1 s x).2 := rfl
   simp only [F3_eta, q1, q2, q3, t1, t2, p1, p2, p3, t3, t4, u1, u2, u3, t5, t6]
   obtain ⟨v0, v1⟩ := rdV_lt s x.1 1 x.2
   obtain ⟨w0, w1⟩ := rdV_lt s (r1 s 5 1 x).1 1 (r1 s 5 1 x).2
   obtain ⟨z0, z1⟩ := rdV_lt s (r1 s 5 1 (r1 s 5 1 x)).1 1 (r1 s 5 1 (r1 s 5 1 x)).2
   have v1 : rdV s x.1 (1 : Int) x.2 < 256 := v1
   have w1 : rdV s (r1 s 5 1 x).1 (1 : Int) (r1 s 5 1 x).2 < 256 := w1
   have z1 : rdV s (r1 s 5 1 (r1 s 5 1 x)).1 (1 : Int) (r1 s 5 1 (r1 s 5 1 x)).2 < 256 := z1
   have v0 : 0 <= rdV s x.1 (1 : Int) x.2 := v0
   have w0 : 0 <= rdV s (r1 s 5 1 x).1 (1 : Int) (r1 s 5 1 x).2 := w0
   have z0 : 0 <= rdV s (r1 s 5 1 (r1 s 5 1 x)).1 (1 : Int) (r1 s 5 1 (r1 s 5 1 x)).2 := z0
   rw [cond_true, wrap_id (rdV s x.1 1 x.2) (by omega) (by omega), wrap_id (rdV s (r1 s 5 1 x).1 1 (r1 s 5 1 x).2) (by omega) (by omega), wrap_id (rdV s (r1 s 5 1 (r1 s 5 1 x)).1 1 (r1 s 5 1 (r1 s 5 1 x)).2) (by omega) (by omega)]
   refine ⟨by omega, by omega, by omega, ?_⟩
   refine (hA.nf (nf_rGet11_11 A k s _ _ _ _ n _ _ _ _ _ _ _ _ _ _ acc) ?_)
   have wa : IntKind.i64.wrap (x.1 + (2 : Int)) = x.1 + 2 := wrap_id _ (by omega) (by omega)
   rw [hg3.nil_iff, wa]
   have hv3 : (acV s x).2.2 = rdV s (r1 s 5 1 (r1 s 5 1 x)).1 1 (r1 s 5 1 (r1 s 5 1 x)).2 := rfl
   have plain : acE s x = (ac1 s x).2 -> A (tdr Tryz.f56 13) (envAt 100 [(1, .int .i64 n), (2, .ptr 0 0), (4, .ptr 1 0), (6, .own 2), (7, .int .i64 (i : Int)), (8, .int .i64 x.1), (9, .ptr 3 0), (13, .ptr 4 0)]) [.box [.str s, .int .i64 (x).1, .int .i64 5, .int .i64 (ofE (x).2).1, .int .i64 (ofE (x).2).2.1, .int .i64 (ofE (x).2).2.2], .box [.str ⟨#[]⟩, .int .i64 0, .int .i64 0, .int .i64 0, .int .i64 0, .int .i64 0], .row 141 acc, .box [.str s, .int .i64 (ac1 s x).1, .int .i64 5, .int .i64 (ofE ((ac1 s x).2)).1, .int .i64 (ofE ((ac1 s x).2)).2.1, .int .i64 (ofE ((ac1 s x).2)).2.2], .box [.int .i64 (acV s x).1, .int .i64 (acV s x).2.1, .int .i64 (acV s x).2.2]] := fun h => by rw [h] at h13; exact h13
   cases c2 : (ac1 s x).2.isNil with
   | false => rw [cond_false]; exact plain (needE_bad c2 _ _ _ _)
   | true =>
    rw [cond_true, bne, bne]
    have hd : doesA (acV s x).2.2 = (rdV s (r1 s 5 1 (r1 s 5 1 x)).1 1 (r1 s 5 1 (r1 s 5 1 x)).2 == 1 || rdV s (r1 s 5 1 (r1 s 5 1 x)).1 1 (r1 s 5 1 (r1 s 5 1 x)).2 == 2) := rfl
    have hok : doesA (acV s x).2.2 = true -> acE s x = (ac1 s x).2 := fun h => by unfold acE; rw [h]; rfl
    cases c3 : rdV s (r1 s 5 1 (r1 s 5 1 x)).1 1 (r1 s 5 1 (r1 s 5 1 x)).2 == 1 with
    | true => rw [Bool.not_true, cond_false]; exact plain (hok (by rw [hd, c3]; rfl))
    | false =>
     rw [Bool.not_false, cond_true]
     cases c4 : rdV s (r1 s 5 1 (r1 s 5 1 x)).1 1 (r1 s 5 1 (r1 s 5 1 x)).2 == 2 with
     | true => rw [Bool.not_true, cond_false]; exact plain (hok (by rw [hd, c3, c4]; rfl))
     | false =>
      rw [Bool.not_false, cond_true]
      have e6 : acE s x = failR (ac1 s x).2 5 6 (x.1 + 2) := by unfold acE; rw [hd, c3, c4]; rfl
      have e7 : rFail (ofE (ac1 s x).2) 5 6 (x.1 + 2) = ofE (acE s x) := by rw [e6]; exact (hg3.ofE_fail 5 6 (x.1 + 2)).symm
      rw [e7]
      exact h13
theorem ok_rGet11 : FunF B 56 0 rGet11S := by
 refine funF_of (N := 100) (f := ff_rGet11) env_AG0 mixed fn_rGet11 (by kernel_rfl) (by kernel_rfl) ?_
 intro A k ys L hA hF
 obtain ⟨s, a, sec, f1, f2, f3, n, rfl, rfl, ⟨⟨⟨h0, h1, hs⟩, hgf⟩, hn⟩, hk⟩ := rGet11S_inv hF; clear hF
 refine ⟨by kernel_rfl, (hA.nf (nf_rGet11_a A k s a sec f1 f2 f3 n) ?_)⟩
 obtain ⟨e, hg, hf⟩ := hgf.ex
 rw [hf, hg.toE] at hk
 obtain ⟨rfl, rfl, rfl⟩ : f1 = (ofE e).1 /\ f2 = (ofE e).2.1 /\ f3 = (ofE e).2.2 := ⟨congrArg (·.1) hf, congrArg (·.2.1) hf, congrArg (·.2.2) hf⟩
 refine ⟨[], rfl, ?_⟩
 refine rGet11_loop A k hA s hs n hn n.toNat 0 (by omega) [] (a, e) rfl (fun _ => h0) ⟨h0, h1⟩ hg ?_
 rintro r rfl
 exact hk
end Go.Ab.T
