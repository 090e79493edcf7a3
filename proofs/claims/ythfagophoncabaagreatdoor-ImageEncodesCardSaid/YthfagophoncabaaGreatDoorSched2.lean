import Derived.Test.YthfagophoncabaaGreatDoorSched1
import Derived.Test.YthfagophoncabaaGreatDoorAbC
set_option linter.unusedVariables false
set_option linter.unusedSimpArgs false
set_option linter.unusedSectionVars false
namespace Go.Ab.T
open Go Go.Ab Go.Proofs
variable [DMode]
set_option maxRecDepth 100000
set_option maxHeartbeats 4000000
noncomputable def E0 := base (fun g => match g with | 117 => some (lift 0 cloneS) | 132 => some (lift 1 sPutS) | 133 => some (lift 1 prWindowS) | 134 => some (lift 1 prNeedS) | _ => none) (fun g => match g with | 111 => some newS | 110 => some atS | 109 => some inS | 86 => some num9S | 131 => some schRS | 81 => some schRS | _ => none) (fun _ => none)
theorem env_E0 : EnvOk E0 := env_of (by
 intro g F h
 split at h
 ·cases h; exact ok_New
 ·cases h; exact ok_At
 ·cases h; exact ok_In
 ·cases h; exact ok_num9
 ·cases h; exact ok_schR
 ·cases h; exact ok_rschR
 ·cases h) (by
 intro g F h
 split at h
 ·cases h; exact (lift_ok ok_clone)
 ·cases h; exact (lift_ok ok_sPut)
 ·cases h; exact (lift_ok ok_prWindow)
 ·cases h; exact (lift_ok ok_prNeed)
 ·cases h) (fun g F h => (by cases h))
theorem fn_sPutA : FnOk Tryz.prog 64 Tryz.f64 (bodyOf Tryz.f64) := ⟨by kernel_rfl, by kernel_rfl, by kernel_rfl⟩
noncomputable def ff_sPutA : Fun := ⟨Tryz.f64.ntmps, 0, Tryz.f64.results.toList, fun i => match i with | 3 => some [0, 1, 6, 12, 13, 14] | _ => none, fun _ => false, fun _ => []⟩
theorem nf_sPutA_a (A : KA Kd) (k : List PV -> Heap Kd -> Prop) (b : List UInt8) (l : List Sch) : evT E0 ff_sPutA A k 400 false [.code (bodyOf Tryz.f64)] (startEnv 73 [.sl _ e_uint8 b, .sl _ e_api_Schedule l]) [] = (∃ (l_1 : List UInt8), PV.sl UInt8 e_uint8 b = PV.sl UInt8 e_uint8 l_1 /\ l_1.length < 1099511627776 /\ A (td Tryz.f64 3) (envAt 73 [(0, .sl UInt8 e_uint8 b), (1, .sl (Int × Int × List (Int × Int × Int) × List (Int × Int × Int)) e_api_Schedule l), (6, .own 0), (12, .sl (Int × Int × List (Int × Int × Int) × List (Int × Int × Int)) e_api_Schedule l), (13, .int .i64 (↑l.length : Int)), (14, .int .i64 0)]) [.row 5 l_1]) := by kernel_rfl
theorem nf_sPutA_b (A : KA Kd) (k : List PV -> Heap Kd -> Prop) (b out : List UInt8) (l : List Sch) (n i : Int) : evT E0 ff_sPutA A k 400 true (td Tryz.f64 3) (envAt 73 [(0, .sl _ e_uint8 b), (1, .sl _ e_api_Schedule l), (6, .own 0), (12, .sl _ e_api_Schedule l), (13, .int .i64 n), (14, .int .i64 i)]) [.row 5 out] = (bif decide (i < n) then (0 <= i /\ i < (↑l.length : Int)) /\ ∀ (y : Int × Int × List (Int × Int × Int) × List (Int × Int × Int)), l[i.toNat]? = some y -> ∃ (id : Int), ∃ (fr : Int), ∃ (ws : List W3), ∃ (ns : List W3), PV.agg [PV.int IntKind.i64 y.fst, PV.int IntKind.i64 y.snd.fst, PV.sl (Int × Int × Int) e_api_Window y.snd.snd.fst, PV.sl (Int × Int × Int) e_api_Need y.snd.snd.snd] = PV.agg [PV.int IntKind.i64 id, PV.int IntKind.i64 fr, PV.sl (Int × Int × Int) e_api_Window ws, PV.sl (Int × Int × Int) e_api_Need ns] /\ (ws.length < 9223372036854775808 /\ ns.length < 9223372036854775808) /\ bif schR (id, fr, ws, ns) == 0 then bif decide (i > 0) then (0 <= IntKind.i64.wrap (i - 1) /\ IntKind.i64.wrap (i - 1) < (↑l.length : Int)) /\ ∀ (y_1 : Int × Int × List (Int × Int × Int) × List (Int × Int × Int)), l[(IntKind.i64.wrap (i - 1)).toNat]? = some y_1 -> bif decide (y.fst <= y_1.fst) then ∃ (l : List UInt8), PV.sl UInt8 e_uint8 b = PV.sl UInt8 e_uint8 l /\ l.length < 1099511627776 /\ k [.own 0, .err (inE (3 : Int) (atE i (newE (9 : Int))))] [.row 5 l] else bif schR (id, fr, ws, ns) != 0 then ∃ (l : List UInt8), PV.sl UInt8 e_uint8 b = PV.sl UInt8 e_uint8 l /\ l.length < 1099511627776 /\ k [.own 0, .err (inE (3 : Int) (atE i (newE (schR (id, fr, ws, ns)))))] [.row 5 l] else (sizeOk 1 = true /\ 0 <= y.fst /\ y.fst < 4611686018427387904 /\ y.fst < (↑((256 : Nat) ^ Int.toNat (1 : Int)) : Int) /\ out.length < 1099511627776) /\ (sizeOk 4 = true /\ 0 <= y.snd.fst /\ y.snd.fst < 4611686018427387904 /\ y.snd.fst < (↑((256 : Nat) ^ Int.toNat (4 : Int)) : Int) /\ (addN out y.fst (1 : Int)).length < 1099511627776) /\ (sizeOk 2 = true /\ 0 <= (↑y.snd.snd.fst.length : Int) /\ (↑y.snd.snd.fst.length : Int) < 4611686018427387904 /\ (↑y.snd.snd.fst.length : Int) < (↑((256 : Nat) ^ Int.toNat (2 : Int)) : Int) /\ (addN (addN out y.fst (1 : Int)) y.snd.fst (4 : Int)).length < 1099511627776) /\ ∃ (ws : List W3), PV.sl (Int × Int × Int) e_api_Window y.snd.snd.fst = PV.sl (Int × Int × Int) e_api_Window ws /\ ((∀ (w : W3), w ∈ ws -> okW w = true) /\ (addN (addN (addN out y.fst (1 : Int)) y.snd.fst (4 : Int)) (↑y.snd.snd.fst.length : Int) (2 : Int)).length + 9 * ws.length < 1099511627776) /\ (sizeOk 1 = true /\ 0 <= (↑y.snd.snd.snd.length : Int) /\ (↑y.snd.snd.snd.length : Int) < 4611686018427387904 /\ (↑y.snd.snd.snd.length : Int) < (↑((256 : Nat) ^ Int.toNat (1 : Int)) : Int) /\ (addR (addN (addN (addN out y.fst (1 : Int)) y.snd.fst (4 : Int)) (↑y.snd.snd.fst.length : Int) (2 : Int)) ws).length < 1099511627776) /\ ∃ (ws_1 : List W3), PV.sl (Int × Int × Int) e_api_Need y.snd.snd.snd = PV.sl (Int × Int × Int) e_api_Need ws_1 /\ ((∀ (w : W3), w ∈ ws_1 -> okW w = true) /\ (addN (addR (addN (addN (addN out y.fst (1 : Int)) y.snd.fst (4 : Int)) (↑y.snd.snd.fst.length : Int) (2 : Int)) ws) (↑y.snd.snd.snd.length : Int) (1 : Int)).length + 9 * ws_1.length < 1099511627776) /\ A (td Tryz.f64 3) (envAt 73 [(0, .sl UInt8 e_uint8 b), (1, .sl (Int × Int × List (Int × Int × Int) × List (Int × Int × Int)) e_api_Schedule l), (6, .own 0), (12, .sl (Int × Int × List (Int × Int × Int) × List (Int × Int × Int)) e_api_Schedule l), (13, .int .i64 n), (14, .int .i64 (IntKind.i64.wrap (i + 1)))]) [.row 5 (addR (addN (addR (addN (addN (addN out y.fst (1 : Int)) y.snd.fst (4 : Int)) (↑y.snd.snd.fst.length : Int) (2 : Int)) ws) (↑y.snd.snd.snd.length : Int) (1 : Int)) ws_1)] else bif schR (id, fr, ws, ns) != 0 then ∃ (l : List UInt8), PV.sl UInt8 e_uint8 b = PV.sl UInt8 e_uint8 l /\ l.length < 1099511627776 /\ k [.own 0, .err (inE (3 : Int) (atE i (newE (schR (id, fr, ws, ns)))))] [.row 5 l] else (sizeOk 1 = true /\ 0 <= y.fst /\ y.fst < 4611686018427387904 /\ y.fst < (↑((256 : Nat) ^ Int.toNat (1 : Int)) : Int) /\ out.length < 1099511627776) /\ (sizeOk 4 = true /\ 0 <= y.snd.fst /\ y.snd.fst < 4611686018427387904 /\ y.snd.fst < (↑((256 : Nat) ^ Int.toNat (4 : Int)) : Int) /\ (addN out y.fst (1 : Int)).length < 1099511627776) /\ (sizeOk 2 = true /\ 0 <= (↑y.snd.snd.fst.length : Int) /\ (↑y.snd.snd.fst.length : Int) < 4611686018427387904 /\ (↑y.snd.snd.fst.length : Int) < (↑((256 : Nat) ^ Int.toNat (2 : Int)) : Int) /\ (addN (addN out y.fst (1 : Int)) y.snd.fst (4 : Int)).length < 1099511627776) /\ ∃ (ws : List W3), PV.sl (Int × Int × Int) e_api_Window y.snd.snd.fst = PV.sl (Int × Int × Int) e_api_Window ws /\ ((∀ (w : W3), w ∈ ws -> okW w = true) /\ (addN (addN (addN out y.fst (1 : Int)) y.snd.fst (4 : Int)) (↑y.snd.snd.fst.length : Int) (2 : Int)).length + 9 * ws.length < 1099511627776) /\ (sizeOk 1 = true /\ 0 <= (↑y.snd.snd.snd.length : Int) /\ (↑y.snd.snd.snd.length : Int) < 4611686018427387904 /\ (↑y.snd.snd.snd.length : Int) < (↑((256 : Nat) ^ Int.toNat (1 : Int)) : Int) /\ (addR (addN (addN (addN out y.fst (1 : Int)) y.snd.fst (4 : Int)) (↑y.snd.snd.fst.length : Int) (2 : Int)) ws).length < 1099511627776) /\ ∃ (ws_1 : List W3), PV.sl (Int × Int × Int) e_api_Need y.snd.snd.snd = PV.sl (Int × Int × Int) e_api_Need ws_1 /\ ((∀ (w : W3), w ∈ ws_1 -> okW w = true) /\ (addN (addR (addN (addN (addN out y.fst (1 : Int)) y.snd.fst (4 : Int)) (↑y.snd.snd.fst.length : Int) (2 : Int)) ws) (↑y.snd.snd.snd.length : Int) (1 : Int)).length + 9 * ws_1.length < 1099511627776) /\ A (td Tryz.f64 3) (envAt 73 [(0, .sl UInt8 e_uint8 b), (1, .sl (Int × Int × List (Int × Int × Int) × List (Int × Int × Int)) e_api_Schedule l), (6, .own 0), (12, .sl (Int × Int × List (Int × Int × Int) × List (Int × Int × Int)) e_api_Schedule l), (13, .int .i64 n), (14, .int .i64 (IntKind.i64.wrap (i + 1)))]) [.row 5 (addR (addN (addR (addN (addN (addN out y.fst (1 : Int)) y.snd.fst (4 : Int)) (↑y.snd.snd.fst.length : Int) (2 : Int)) ws) (↑y.snd.snd.snd.length : Int) (1 : Int)) ws_1)] else bif schR (id, fr, ws, ns) != 0 then ∃ (l : List UInt8), PV.sl UInt8 e_uint8 b = PV.sl UInt8 e_uint8 l /\ l.length < 1099511627776 /\ k [.own 0, .err (inE (3 : Int) (atE i (newE (schR (id, fr, ws, ns)))))] [.row 5 l] else (sizeOk 1 = true /\ 0 <= y.fst /\ y.fst < 4611686018427387904 /\ y.fst < (↑((256 : Nat) ^ Int.toNat (1 : Int)) : Int) /\ out.length < 1099511627776) /\ (sizeOk 4 = true /\ 0 <= y.snd.fst /\ y.snd.fst < 4611686018427387904 /\ y.snd.fst < (↑((256 : Nat) ^ Int.toNat (4 : Int)) : Int) /\ (addN out y.fst (1 : Int)).length < 1099511627776) /\ (sizeOk 2 = true /\ 0 <= (↑y.snd.snd.fst.length : Int) /\ (↑y.snd.snd.fst.length : Int) < 4611686018427387904 /\ (↑y.snd.snd.fst.length : Int) < (↑((256 : Nat) ^ Int.toNat (2 : Int)) : Int) /\ (addN (addN out y.fst (1 : Int)) y.snd.fst (4 : Int)).length < 1099511627776) /\ ∃ (ws : List W3), PV.sl (Int × Int × Int) e_api_Window y.snd.snd.fst = PV.sl (Int × Int × Int) e_api_Window ws /\ ((∀ (w : W3), w ∈ ws -> okW w = true) /\ (addN (addN (addN out y.fst (1 : Int)) y.snd.fst (4 : Int)) (↑y.snd.snd.fst.length : Int) (2 : Int)).length + 9 * ws.length < 1099511627776) /\ (sizeOk 1 = true /\ 0 <= (↑y.snd.snd.snd.length : Int) /\ (↑y.snd.snd.snd.length : Int) < 4611686018427387904 /\ (↑y.snd.snd.snd.length : Int) < (↑((256 : Nat) ^ Int.toNat (1 : Int)) : Int) /\ (addR (addN (addN (addN out y.fst (1 : Int)) y.snd.fst (4 : Int)) (↑y.snd.snd.fst.length : Int) (2 : Int)) ws).length < 1099511627776) /\ ∃ (ws_1 : List W3), PV.sl (Int × Int × Int) e_api_Need y.snd.snd.snd = PV.sl (Int × Int × Int) e_api_Need ws_1 /\ ((∀ (w : W3), w ∈ ws_1 -> okW w = true) /\ (addN (addR (addN (addN (addN out y.fst (1 : Int)) y.snd.fst (4 : Int)) (↑y.snd.snd.fst.length : Int) (2 : Int)) ws) (↑y.snd.snd.snd.length : Int) (1 : Int)).length + 9 * ws_1.length < 1099511627776) /\ A (td Tryz.f64 3) (envAt 73 [(0, .sl UInt8 e_uint8 b), (1, .sl (Int × Int × List (Int × Int × Int) × List (Int × Int × Int)) e_api_Schedule l), (6, .own 0), (12, .sl (Int × Int × List (Int × Int × Int) × List (Int × Int × Int)) e_api_Schedule l), (13, .int .i64 n), (14, .int .i64 (IntKind.i64.wrap (i + 1)))]) [.row 5 (addR (addN (addR (addN (addN (addN out y.fst (1 : Int)) y.snd.fst (4 : Int)) (↑y.snd.snd.fst.length : Int) (2 : Int)) ws) (↑y.snd.snd.snd.length : Int) (1 : Int)) ws_1)]
else k [PV.own (0 : Nat), PV.err Err.nil] [AObj.row (5 : Nat) out]) := by kernel_rfl
theorem fn_rWrong9 : FnOk Tryz.prog 23 Tryz.f23 (bodyOf Tryz.f23) := ⟨by kernel_rfl, by kernel_rfl, by kernel_rfl⟩
noncomputable def ff_rWrong9 : Fun := ⟨Tryz.f23.ntmps, 0, Tryz.f23.results.toList, fun i => match i with | 2 => some [0, 2, 3] | _ => none, fun _ => false, fun _ => []⟩
theorem nf_rWrong9_a (A : KA Kd) (k : List PV -> Heap Kd -> Prop) (l : List Sch) : evT E0 ff_rWrong9 A k 400 false [.code (bodyOf Tryz.f23)] (startEnv 42 [.sl _ e_api_Schedule l]) [] = (A (td Tryz.f23 2) (envAt 42 [(0, .sl (Int × Int × List (Int × Int × Int) × List (Int × Int × Int)) e_api_Schedule l), (2, .ptr 0 0), (3, .int .i64 0)]) [.box [.int .i64 0, .int .i64 0, .int .i64 0]]) := by kernel_rfl
theorem nf_rWrong9_b (A : KA Kd) (k : List PV -> Heap Kd -> Prop) (l : List Sch) (i : Int) : evT E0 ff_rWrong9 A k 400 true (td Tryz.f23 2) (envAt 42 [(0, .sl _ e_api_Schedule l), (2, .ptr 0 0), (3, .int .i64 i)]) [.box [.int .i64 0, .int .i64 0, .int .i64 0]] = (bif decide (i < (↑l.length : Int)) then (0 <= i /\ i < (↑l.length : Int)) /\ ∀ (y : Int × Int × List (Int × Int × Int) × List (Int × Int × Int)), l[i.toNat]? = some y -> ∃ (id : Int), ∃ (fr : Int), ∃ (ws : List W3), ∃ (ns : List W3), PV.agg [PV.int IntKind.i64 y.fst, PV.int IntKind.i64 y.snd.fst, PV.sl (Int × Int × Int) e_api_Window y.snd.snd.fst, PV.sl (Int × Int × Int) e_api_Need y.snd.snd.snd] = PV.agg [PV.int IntKind.i64 id, PV.int IntKind.i64 fr, PV.sl (Int × Int × Int) e_api_Window ws, PV.sl (Int × Int × Int) e_api_Need ns] /\ (ws.length < 9223372036854775808 /\ ns.length < 9223372036854775808) /\ bif schR (id, fr, ws, ns) == 0 then bif decide (i > 0) then (0 <= i /\ i < (↑l.length : Int)) /\ ∀ (y : Int × Int × List (Int × Int × Int) × List (Int × Int × Int)), l[i.toNat]? = some y -> (0 <= IntKind.i64.wrap (i - 1) /\ IntKind.i64.wrap (i - 1) < (↑l.length : Int)) /\ ∀ (y_1 : Int × Int × List (Int × Int × Int) × List (Int × Int × Int)), l[(IntKind.i64.wrap (i - 1)).toNat]? = some y_1 -> bif decide (y.fst <= y_1.fst) then k [.agg [.int .i64 9, .int .i64 3, .int .i64 i]] [] else bif schR (id, fr, ws, ns) != 0 then k [.agg [.int .i64 (schR (id, fr, ws, ns)), .int .i64 3, .int .i64 i]] [] else A (td Tryz.f23 2) (envAt 42 [(0, .sl (Int × Int × List (Int × Int × Int) × List (Int × Int × Int)) e_api_Schedule l), (2, .ptr 0 0), (3, .int .i64 (IntKind.i64.wrap (i + 1)))]) [.box [.int .i64 0, .int .i64 0, .int .i64 0]] else bif schR (id, fr, ws, ns) != 0 then k [.agg [.int .i64 (schR (id, fr, ws, ns)), .int .i64 3, .int .i64 i]] [] else A (td Tryz.f23 2) (envAt 42 [(0, .sl (Int × Int × List (Int × Int × Int) × List (Int × Int × Int)) e_api_Schedule l), (2, .ptr 0 0), (3, .int .i64 (IntKind.i64.wrap (i + 1)))]) [.box [.int .i64 0, .int .i64 0, .int .i64 0]] else bif schR (id, fr, ws, ns) != 0 then k [.agg [.int .i64 (schR (id, fr, ws, ns)), .int .i64 3, .int .i64 i]] [] else A (td Tryz.f23 2) (envAt 42 [(0, .sl (Int × Int × List (Int × Int × Int) × List (Int × Int × Int)) e_api_Schedule l), (2, .ptr 0 0), (3, .int .i64 (IntKind.i64.wrap (i + 1)))]) [.box [.int .i64 0, .int .i64 0, .int .i64 0]]
else k [PV.agg [PV.int IntKind.i64 (0 : Int), PV.int IntKind.i64 (0 : Int), PV.int IntKind.i64 (0 : Int)]] []) := by kernel_rfl
theorem fn_rText9 : FnOk Tryz.prog 27 Tryz.f27 (bodyOf Tryz.f27) := ⟨by kernel_rfl, by kernel_rfl, by kernel_rfl⟩
noncomputable def ff_rText9 : Fun := ⟨Tryz.f27.ntmps, 0, Tryz.f27.results.toList, fun i => match i with | 14 => some [0, 3, 4, 5, 8] | 8 => some [0, 3, 4, 5, 6] | 3 => some [0, 3, 4] | _ => none, fun _ => false, fun _ => []⟩
theorem nf_rText9_a (A : KA Kd) (k : List PV -> Heap Kd -> Prop) (l : List Sch) : evT E0 ff_rText9 A k 400 false [.code (bodyOf Tryz.f27)] (startEnv 91 [.sl _ e_api_Schedule l]) [] = (A (td Tryz.f27 3) (envAt 91 [(0, .sl (Int × Int × List (Int × Int × Int) × List (Int × Int × Int)) e_api_Schedule l), (3, .str ⟨#[]⟩), (4, .int .i64 0)]) []) := by kernel_rfl
theorem nf_rText9_b (A : KA Kd) (k : List PV -> Heap Kd -> Prop) (l : List Sch) (s : ByteArray) (i : Int) : evT E0 ff_rText9 A k 400 true (td Tryz.f27 3) (envAt 91 [(0, .sl _ e_api_Schedule l), (3, .str s), (4, .int .i64 i)]) [] = (bif decide (i < (↑l.length : Int)) then (0 <= i /\ i < (↑l.length : Int)) /\ ∀ (y : Int × Int × List (Int × Int × Int) × List (Int × Int × Int)), l[i.toNat]? = some y -> (0 <= y.fst /\ y.fst < 4611686018427387904 /\ (0 : Int) <= (1 : Int) /\ (1 : Int) <= (100 : Int)) /\ (0 <= y.snd.fst /\ y.snd.fst < 4611686018427387904 /\ (0 : Int) <= (4 : Int) /\ (4 : Int) <= (100 : Int)) /\ (ByteArray.mk (beL (Int.toNat (1 : Int)) y.fst.toNat).toArray).size + (ByteArray.mk (beL (Int.toNat (4 : Int)) y.snd.fst.toNat).toArray).size <= 9223372036854775807 /\ (0 <= (↑y.snd.snd.fst.length : Int) /\ (↑y.snd.snd.fst.length : Int) < 4611686018427387904 /\ (0 : Int) <= (2 : Int) /\ (2 : Int) <= (100 : Int)) /\ (ByteArray.mk (beL (Int.toNat (1 : Int)) y.fst.toNat).toArray ++ ByteArray.mk (beL (Int.toNat (4 : Int)) y.snd.fst.toNat).toArray).size + (ByteArray.mk (beL (Int.toNat (2 : Int)) (↑y.snd.snd.fst.length : Int).toNat).toArray).size <= 9223372036854775807 /\ s.size + (ByteArray.mk (beL (Int.toNat (1 : Int)) y.fst.toNat).toArray ++ ByteArray.mk (beL (Int.toNat (4 : Int)) y.snd.fst.toNat).toArray ++ ByteArray.mk (beL (Int.toNat (2 : Int)) (↑y.snd.snd.fst.length : Int).toNat).toArray).size <= 9223372036854775807 /\ A (td Tryz.f27 8) (envAt 91 [(0, .sl (Int × Int × List (Int × Int × Int) × List (Int × Int × Int)) e_api_Schedule l), (3, .str (s ++ (ByteArray.mk (beL (Int.toNat (1 : Int)) y.fst.toNat).toArray ++ ByteArray.mk (beL (Int.toNat (4 : Int)) y.snd.fst.toNat).toArray ++ ByteArray.mk (beL (Int.toNat (2 : Int)) (↑y.snd.snd.fst.length : Int).toNat).toArray))), (4, .int .i64 i), (5, .ptr 0 0), (6, .int .i64 0)]) [.box [.int .i64 y.fst, .int .i64 y.snd.fst, .sl (Int × Int × Int) e_api_Window y.snd.snd.fst, .sl (Int × Int × Int) e_api_Need y.snd.snd.snd]]
else k [PV.str s] []) := by kernel_rfl
theorem nf_rText9_c (A : KA Kd) (k : List PV -> Heap Kd -> Prop) (l : List Sch) (s : ByteArray) (i j : Int) (id fr : Int) (ws ns : List W3) : evT E0 ff_rText9 A k 400 true (td Tryz.f27 8) (envAt 91 [(0, .sl _ e_api_Schedule l), (3, .str s), (4, .int .i64 i), (5, .ptr 0 0), (6, .int .i64 j)]) [.box [.int .i64 id, .int .i64 fr, .sl _ e_api_Window ws, .sl _ e_api_Need ns]] = (bif decide (j < (↑ws.length : Int)) then (0 <= j /\ j < (↑ws.length : Int)) /\ ∀ (y : Int × Int × Int), ws[j.toNat]? = some y -> (0 <= y.fst /\ y.fst < 4611686018427387904 /\ (0 : Int) <= (1 : Int) /\ (1 : Int) <= (100 : Int)) /\ (0 <= y.snd.fst /\ y.snd.fst < 4611686018427387904 /\ (0 : Int) <= (4 : Int) /\ (4 : Int) <= (100 : Int)) /\ (ByteArray.mk (beL (Int.toNat (1 : Int)) y.fst.toNat).toArray).size + (ByteArray.mk (beL (Int.toNat (4 : Int)) y.snd.fst.toNat).toArray).size <= 9223372036854775807 /\ (0 <= y.snd.snd /\ y.snd.snd < 4611686018427387904 /\ (0 : Int) <= (4 : Int) /\ (4 : Int) <= (100 : Int)) /\ (ByteArray.mk (beL (Int.toNat (1 : Int)) y.fst.toNat).toArray ++ ByteArray.mk (beL (Int.toNat (4 : Int)) y.snd.fst.toNat).toArray).size + (ByteArray.mk (beL (Int.toNat (4 : Int)) y.snd.snd.toNat).toArray).size <= 9223372036854775807 /\ s.size + (ByteArray.mk (beL (Int.toNat (1 : Int)) y.fst.toNat).toArray ++ ByteArray.mk (beL (Int.toNat (4 : Int)) y.snd.fst.toNat).toArray ++ ByteArray.mk (beL (Int.toNat (4 : Int)) y.snd.snd.toNat).toArray).size <= 9223372036854775807 /\ A (td Tryz.f27 8) (envAt 91 [(0, .sl (Int × Int × List (Int × Int × Int) × List (Int × Int × Int)) e_api_Schedule l), (3, .str (s ++ (ByteArray.mk (beL (Int.toNat (1 : Int)) y.fst.toNat).toArray ++ ByteArray.mk (beL (Int.toNat (4 : Int)) y.snd.fst.toNat).toArray ++ ByteArray.mk (beL (Int.toNat (4 : Int)) y.snd.snd.toNat).toArray))), (4, .int .i64 i), (5, .ptr 0 0), (6, .int .i64 (IntKind.i64.wrap (j + 1)))]) [.box [.int .i64 id, .int .i64 fr, .sl (Int × Int × Int) e_api_Window ws, .sl (Int × Int × Int) e_api_Need ns]]
else ((0 : Int) <= (↑ns.length : Int) /\ (↑ns.length : Int) < (4611686018427387904 : Int) /\ (0 : Int) <= (1 : Int) /\ (1 : Int) <= (100 : Int)) /\ s.size + (ByteArray.mk (beL (Int.toNat (1 : Int)) (↑ns.length : Int).toNat).toArray).size <= (9223372036854775807 : Nat) /\ A (td Tryz.f27 (14 : Nat)) (envAt (91 : Nat) [((0 : Nat), PV.sl (Int × Int × List (Int × Int × Int) × List (Int × Int × Int)) e_api_Schedule l), ((3 : Nat), PV.str (s ++ ByteArray.mk (beL (Int.toNat (1 : Int)) (↑ns.length : Int).toNat).toArray)), ((4 : Nat), PV.int IntKind.i64 i), ((5 : Nat), PV.ptr (0 : Nat) (0 : Nat)), ((8 : Nat), PV.int IntKind.i64 (0 : Int))]) [AObj.box [PV.int IntKind.i64 id, PV.int IntKind.i64 fr, PV.sl (Int × Int × Int) e_api_Window ws, PV.sl (Int × Int × Int) e_api_Need ns]]) := by kernel_rfl
theorem nf_rText9_d (A : KA Kd) (k : List PV -> Heap Kd -> Prop) (l : List Sch) (s : ByteArray) (i j : Int) (id fr : Int) (ws ns : List W3) : evT E0 ff_rText9 A k 400 true (td Tryz.f27 14) (envAt 91 [(0, .sl _ e_api_Schedule l), (3, .str s), (4, .int .i64 i), (5, .ptr 0 0), (8, .int .i64 j)]) [.box [.int .i64 id, .int .i64 fr, .sl _ e_api_Window ws, .sl _ e_api_Need ns]] = (bif decide (j < (↑ns.length : Int)) then (0 <= j /\ j < (↑ns.length : Int)) /\ ∀ (y : Int × Int × Int), ns[j.toNat]? = some y -> (0 <= y.fst /\ y.fst < 4611686018427387904 /\ (0 : Int) <= (1 : Int) /\ (1 : Int) <= (100 : Int)) /\ (0 <= y.snd.fst /\ y.snd.fst < 4611686018427387904 /\ (0 : Int) <= (4 : Int) /\ (4 : Int) <= (100 : Int)) /\ (ByteArray.mk (beL (Int.toNat (1 : Int)) y.fst.toNat).toArray).size + (ByteArray.mk (beL (Int.toNat (4 : Int)) y.snd.fst.toNat).toArray).size <= 9223372036854775807 /\ (0 <= y.snd.snd /\ y.snd.snd < 4611686018427387904 /\ (0 : Int) <= (4 : Int) /\ (4 : Int) <= (100 : Int)) /\ (ByteArray.mk (beL (Int.toNat (1 : Int)) y.fst.toNat).toArray ++ ByteArray.mk (beL (Int.toNat (4 : Int)) y.snd.fst.toNat).toArray).size + (ByteArray.mk (beL (Int.toNat (4 : Int)) y.snd.snd.toNat).toArray).size <= 9223372036854775807 /\ s.size + (ByteArray.mk (beL (Int.toNat (1 : Int)) y.fst.toNat).toArray ++ ByteArray.mk (beL (Int.toNat (4 : Int)) y.snd.fst.toNat).toArray ++ ByteArray.mk (beL (Int.toNat (4 : Int)) y.snd.snd.toNat).toArray).size <= 9223372036854775807 /\ A (td Tryz.f27 14) (envAt 91 [(0, .sl (Int × Int × List (Int × Int × Int) × List (Int × Int × Int)) e_api_Schedule l), (3, .str (s ++ (ByteArray.mk (beL (Int.toNat (1 : Int)) y.fst.toNat).toArray ++ ByteArray.mk (beL (Int.toNat (4 : Int)) y.snd.fst.toNat).toArray ++ ByteArray.mk (beL (Int.toNat (4 : Int)) y.snd.snd.toNat).toArray))), (4, .int .i64 i), (5, .ptr 0 0), (8, .int .i64 (IntKind.i64.wrap (j + 1)))]) [.box [.int .i64 id, .int .i64 fr, .sl (Int × Int × Int) e_api_Window ws, .sl (Int × Int × Int) e_api_Need ns]]
else A (td Tryz.f27 (3 : Nat)) (envAt (91 : Nat) [((0 : Nat), PV.sl (Int × Int × List (Int × Int × Int) × List (Int × Int × Int)) e_api_Schedule l), ((3 : Nat), PV.str s), ((4 : Nat), PV.int IntKind.i64 (IntKind.i64.wrap (i + (1 : Int))))]) []) := by kernel_rfl
def sPutAS : List PV -> Heap Kd -> (List PV -> Heap Kd -> Prop) -> Prop := fun ys L k => match ys, L with
 | [x_0, x_1], [] => ∃ (b : List UInt8), ∃ (l : List Sch), x_0 = .sl _ e_uint8 b /\ x_1 = .sl _ e_api_Schedule l /\ (b.length < 1000000 /\ l.length < 100000 /\ (∀ x, x ∈ l -> x.2.2.1.length < 9223372036854775808 /\ x.2.2.2.length < 9223372036854775808)) /\ k [.own 0, .err (schsE none 0 l)] [.row 5 (outS b (schsE none 0 l) b (schsB l))]
 | _, _ => False
theorem sPutAS_inv {ys : List PV} {L : Heap Kd} {k : List PV -> Heap Kd -> Prop} (h : sPutAS ys L k) : ∃ (b : List UInt8) (l : List Sch), ys = [.sl _ e_uint8 b, .sl _ e_api_Schedule l] /\ L = [] /\ (b.length < 1000000 /\ l.length < 100000 /\ (∀ x, x ∈ l -> x.2.2.1.length < 9223372036854775808 /\ x.2.2.2.length < 9223372036854775808)) /\ k [.own 0, .err (schsE none 0 l)] [.row 5 (outS b (schsE none 0 l) b (schsB l))] := by
 unfold sPutAS at h
 split at h
 ·obtain ⟨a0, a1, q0, q1, hz⟩ := h
  subst q0
  subst q1
  exact ⟨a0, a1, rfl, rfl, hz⟩
 ·exact h.elim
theorem sPutA_loop (A : KA Kd) (k : List PV -> Heap Kd -> Prop) (hA : Closed E0 ff_sPutA k A) (b : List UInt8) (l : List Sch) (hb : b.length < 1000000) (hl : l.length < 100000) (hw : ∀ x, x ∈ l -> x.2.2.1.length < 9223372036854775808 /\ x.2.2.2.length < 9223372036854775808) :
 ∀ i, i <= l.length -> ∀ out : List UInt8, out.length + 3000 * (l.length - i) < 1000000000 -> k [.own 0, .err (schsE (prevS l i) i (l.drop i))] [.row 5 (outS b (schsE (prevS l i) i (l.drop i)) out (schsB (l.drop i)))] ->
  A (td Tryz.f64 3) (envAt 73 [(0, .sl _ e_uint8 b), (1, .sl _ e_api_Schedule l), (6, .own 0), (12, .sl _ e_api_Schedule l), (13, .int .i64 (l.length : Int)), (14, .int .i64 (i : Int))]) [.row 5 out] := by
 refine down_loop l _ ?_ ?_
 ·intro out _ hk
  refine (hA.nf (nf_sPutA_b A k b out l _ _) ?_)
  rw [ilt_false (Nat.lt_irrefl _)]
  rw [List.drop_length] at hk
  have e : outS b (schsE (prevS l l.length) l.length []) out (schsB []) = out := by show out ++ [] = out; exact List.append_nil _
  rw [e] at hk; exact hk
 ·intro i y hy ih out ho hk
  have hlt := lt_of_get hy
  refine (hA.nf (nf_sPutA_b A k b out l _ _) ?_)
  have p1 : ((256 ^ Int.toNat 1 : Nat) : Int) = 256 := by decide
  have p2 : ((256 ^ Int.toNat 2 : Nat) : Int) = 65536 := by decide
  have p4 : ((256 ^ Int.toNat 4 : Nat) : Int) = 4294967296 := by decide
  rw [p1, p2, p4]
  rw [ilt_true hlt]
  obtain ⟨w1, w2⟩ := hw y (List.mem_of_getElem? hy)
  refine get_at hy ⟨y.1, y.2.1, y.2.2.1, y.2.2.2, rfl, ⟨w1, w2⟩, ?_⟩
  have hprev : prevS l (i + 1) = some y.1 := by show (l[i]?).map _ = _; rw [hy]; rfl
  rw [drop_cons' hy, schsE_cons] at hk
  show (bif schR y == 0 then _ else _ : Prop)
  have bne : ∀ v : Int, (v != 0) = !(v == 0) := fun _ => rfl
  cases c1 : schR y == 0 with
  | false =>
   rw [schE1_bad c1, c1] at hk
   have hT : ∀ {p q : Prop}, p -> (bif schR y != 0 then p else q) := fun {p q} h => by rw [bne, c1]; exact h
   refine hT ⟨b, rfl, by omega, ?_⟩
   rw [sch_err (by rcases schR_cases y with h | h | h <;> simp [h]) c1]; exact hk
  | true =>
   obtain ⟨o1, o2, o3, o4, o5, o6⟩ := schR_ok (eq_of_beq c1)
   have hF : ∀ {p q : Prop}, q -> (bif schR y != 0 then p else q) := fun {p q} h => by rw [bne, c1]; exact h
   rcases i with _ | i
   ·have hp : prevS l 0 = none := rfl
    rw [hp, schE1_none c1] at hk
    rw [cond_true]
    have d0 : decide (((0 : Nat) : Int) > 0) = false := rfl
    rw [d0, cond_false]
    refine hF ?_
    have q1 := addN_1 out y.1
    have q2 := addN_4 (addN out y.1 1) y.2.1
    have q3 := addN_2 (addN (addN out y.1 1) y.2.1 4) (y.2.2.1.length : Int)
    have q4 := addR_len (addN (addN (addN out y.1 1) y.2.1 4) (y.2.2.1.length : Int) 2) y.2.2.1
    have q5 := addN_1 (addR (addN (addN (addN out y.1 1) y.2.1 4) (y.2.2.1.length : Int) 2) y.2.2.1) (y.2.2.2.length : Int)
    have q6 := addR_len (addN (addR (addN (addN (addN out y.1 1) y.2.1 4) (y.2.2.1.length : Int) 2) y.2.2.1) (y.2.2.2.length : Int) 1) y.2.2.2
    refine ⟨⟨rfl, by omega, by omega, by omega, by omega⟩, ⟨rfl, by omega, by omega, by omega, by omega⟩, ⟨rfl, by omega, by omega, by omega, by omega⟩, y.2.2.1, rfl, ⟨o4, by omega⟩, ⟨rfl, by omega, by omega, by omega, by omega⟩, y.2.2.2, rfl, ⟨o6, by omega⟩, ?_⟩
    rw [wrap_succ9 (by omega)]
    refine ih _ (by omega) ?_
    rw [hprev, sch_bytes]; exact hk
   ·obtain ⟨z, hz⟩ : ∃ z, l[i]? = some z := ⟨l[i]'(by omega), List.getElem?_eq_getElem (by omega)⟩
    have hp : prevS l (i + 1) = some z.1 := by show (l[i]?).map _ = _; rw [hz]; rfl
    rw [hp, schE1_some c1] at hk
    rw [cond_true]
    have d0 : decide (((i + 1 : Nat) : Int) > 0) = true := decide_eq_true (by omega)
    rw [d0, cond_true]
    refine get_at' (i := i) (by rw [wrap_id _ (by omega) (by omega)]; omega) hz ?_
    cases c2 : decide (y.1 <= z.1) with
    | true =>
     rw [c2] at hk
     exact ⟨b, rfl, by omega, hk⟩
    | false =>
    rw [c2] at hk
    rw [cond_false]
    refine hF ?_
    have q1 := addN_1 out y.1
    have q2 := addN_4 (addN out y.1 1) y.2.1
    have q3 := addN_2 (addN (addN out y.1 1) y.2.1 4) (y.2.2.1.length : Int)
    have q4 := addR_len (addN (addN (addN out y.1 1) y.2.1 4) (y.2.2.1.length : Int) 2) y.2.2.1
    have q5 := addN_1 (addR (addN (addN (addN out y.1 1) y.2.1 4) (y.2.2.1.length : Int) 2) y.2.2.1) (y.2.2.2.length : Int)
    have q6 := addR_len (addN (addR (addN (addN (addN out y.1 1) y.2.1 4) (y.2.2.1.length : Int) 2) y.2.2.1) (y.2.2.2.length : Int) 1) y.2.2.2
    refine ⟨⟨rfl, by omega, by omega, by omega, by omega⟩, ⟨rfl, by omega, by omega, by omega, by omega⟩, ⟨rfl, by omega, by omega, by omega, by omega⟩, y.2.2.1, rfl, ⟨o4, by omega⟩, ⟨rfl, by omega, by omega, by omega, by omega⟩, y.2.2.2, rfl, ⟨o6, by omega⟩, ?_⟩
    rw [wrap_succ9 (by omega)]
    refine ih _ (by omega) ?_
    rw [hprev, sch_bytes]; exact hk
theorem ok_sPutA : FunF B 64 0 sPutAS := by
 refine funF_of (N := 73) (f := ff_sPutA) env_E0 mixed fn_sPutA (by kernel_rfl) (by kernel_rfl) ?_
 intro A k ys L hA hF
 obtain ⟨b, l, rfl, rfl, ⟨hb, hl, hw⟩, hk⟩ := sPutAS_inv hF; clear hF
 refine ⟨by kernel_rfl, (hA.nf (nf_sPutA_a A k b l) ?_)⟩
 exact ⟨b, rfl, by omega, sPutA_loop A k hA b l hb hl hw 0 (Nat.zero_le _) b (by omega) hk⟩
def rWrong9S : SpecS := fun ys Φ => match ys with
 | [x_0] => ∃ (l : List Sch), x_0 = .sl _ e_api_Schedule l /\ (l.length < 100000 /\ (∀ x, x ∈ l -> x.2.2.1.length < 9223372036854775808 /\ x.2.2.2.length < 9223372036854775808)) /\ Φ [.agg [.int .i64 (ofE (schsE none 0 l)).1, .int .i64 (ofE (schsE none 0 l)).2.1, .int .i64 (ofE (schsE none 0 l)).2.2]]
 | _ => False
theorem rWrong9S_mono : MonoS rWrong9S := by
 intro ys Φ Ψ h hF
 unfold rWrong9S at hF ⊢
 split at hF
 ·obtain ⟨a0, q0, hp, hk⟩ := hF; exact ⟨a0, q0, hp, h _ hk⟩
 ·exact hF.elim
theorem rWrong9S_inv {ys : List PV} {Φ : List PV -> Prop} (h : rWrong9S ys Φ) : ∃ (l : List Sch), ys = [.sl _ e_api_Schedule l] /\ (l.length < 100000 /\ (∀ x, x ∈ l -> x.2.2.1.length < 9223372036854775808 /\ x.2.2.2.length < 9223372036854775808)) /\ Φ [.agg [.int .i64 (ofE (schsE none 0 l)).1, .int .i64 (ofE (schsE none 0 l)).2.1, .int .i64 (ofE (schsE none 0 l)).2.2]] := by
 unfold rWrong9S at h
 split at h
 ·obtain ⟨a0, q0, hz⟩ := h
  subst q0
  exact ⟨a0, rfl, hz⟩
 ·exact h.elim
theorem ok_rWrong9 : FunS B 23 rWrong9S := by
 refine funS_of (N := 42) (f := ff_rWrong9) env_E0 mixed fn_rWrong9 (by kernel_rfl) (by kernel_rfl) (by kernel_rfl) rWrong9S_mono ?_
 intro A k ys hA hF
 obtain ⟨l, rfl, ⟨hl, hw⟩, hk⟩ := rWrong9S_inv hF; clear hF
 refine ⟨by kernel_rfl, (hA.nf (nf_rWrong9_a A k l) ?_)⟩
 refine down_loop l (fun i => k [.agg [.int .i64 (ofE (schsE (prevS l i) i (l.drop i))).1, .int .i64 (ofE (schsE (prevS l i) i (l.drop i))).2.1, .int .i64 (ofE (schsE (prevS l i) i (l.drop i))).2.2]] [] -> A (td Tryz.f23 2) (envAt 42 [(0, .sl _ e_api_Schedule l), (2, .ptr 0 0), (3, .int .i64 (i : Int))]) [.box [.int .i64 0, .int .i64 0, .int .i64 0]]) ?_ ?_ 0 (Nat.zero_le _) hk
 ·intro hk
  refine (hA.nf (nf_rWrong9_b A k l _) ?_)
  rw [ilt_false (Nat.lt_irrefl _)]
  rw [List.drop_length] at hk; exact hk
 ·intro i y hy ih hk
  have hlt := lt_of_get hy
  refine (hA.nf (nf_rWrong9_b A k l _) ?_)
  rw [ilt_true hlt]
  obtain ⟨w1, w2⟩ := hw y (List.mem_of_getElem? hy)
  refine get_at hy ⟨y.1, y.2.1, y.2.2.1, y.2.2.2, rfl, ⟨w1, w2⟩, ?_⟩
  have hprev : prevS l (i + 1) = some y.1 := by show (l[i]?).map _ = _; rw [hy]; rfl
  rw [drop_cons' hy, schsE_cons] at hk
  show (bif schR y == 0 then _ else _ : Prop)
  have bne : ∀ v : Int, (v != 0) = !(v == 0) := fun _ => rfl
  rw [hprev] at ih
  cases c1 : schR y == 0 with
  | false =>
   rw [schE1_bad c1, c1] at hk
   have hT : ∀ {p q : Prop}, p -> (bif schR y != 0 then p else q) := fun {p q} h => by rw [bne, c1]; exact h
   exact hT hk
  | true =>
   have hF : ∀ {p q : Prop}, q -> (bif schR y != 0 then p else q) := fun {p q} h => by rw [bne, c1]; exact h
   rcases i with _ | i
   ·have hp : prevS l 0 = none := rfl
    rw [hp, schE1_none c1] at hk
    rw [cond_true]
    have d0 : decide (((0 : Nat) : Int) > 0) = false := rfl
    rw [d0, cond_false]
    refine hF ?_
    rw [wrap_succ9 (by omega)]
    exact ih hk
   ·obtain ⟨z, hz⟩ : ∃ z, l[i]? = some z := ⟨l[i]'(by omega), List.getElem?_eq_getElem (by omega)⟩
    have hp : prevS l (i + 1) = some z.1 := by show (l[i]?).map _ = _; rw [hz]; rfl
    rw [hp, schE1_some c1] at hk
    rw [cond_true]
    have d0 : decide (((i + 1 : Nat) : Int) > 0) = true := decide_eq_true (by omega)
    rw [d0, cond_true]
    refine get_at hy (get_at' (i := i) (by rw [wrap_id _ (by omega) (by omega)]; omega) hz ?_)
    cases c2 : decide (y.1 <= z.1) with
    | true => rw [c2] at hk; exact hk
    | false =>
     rw [c2] at hk
     rw [cond_false]
     refine hF ?_
     rw [wrap_succ9 (by omega)]
     exact ih hk
def rText9S : SpecS := fun ys Φ => match ys with
 | [x_0] => ∃ (l : List Sch), x_0 = .sl _ e_api_Schedule l /\ (l.length < 100000 /\ (∀ x, x ∈ l -> OkS x)) /\ Φ [.str ⟨(schsB l).toArray⟩]
 | _ => False
theorem rText9S_mono : MonoS rText9S := by
 intro ys Φ Ψ h hF
 unfold rText9S at hF ⊢
 split at hF
 ·obtain ⟨a0, q0, hp, hk⟩ := hF; exact ⟨a0, q0, hp, h _ hk⟩
 ·exact hF.elim
theorem rText9S_inv {ys : List PV} {Φ : List PV -> Prop} (h : rText9S ys Φ) : ∃ (l : List Sch), ys = [.sl _ e_api_Schedule l] /\ (l.length < 100000 /\ (∀ x, x ∈ l -> OkS x)) /\ Φ [.str ⟨(schsB l).toArray⟩] := by
 unfold rText9S at h
 split at h
 ·obtain ⟨a0, q0, hz⟩ := h
  subst q0
  exact ⟨a0, rfl, hz⟩
 ·exact h.elim
theorem rText9_c (A : KA Kd) (k : List PV -> Heap Kd -> Prop) (hA : Closed E0 ff_rText9 k A) (l : List Sch) (i : Int) (id fr : Int) (ws ns : List W3) (hlen : ws.length < 1000) (hok : ∀ w, w ∈ ws -> okW w = true) (P : ByteArray -> Prop)
 (hend : ∀ s : ByteArray, P s -> A (td Tryz.f27 8) (envAt 91 [(0, .sl _ e_api_Schedule l), (3, .str s), (4, .int .i64 i), (5, .ptr 0 0), (6, .int .i64 (ws.length : Int))]) [.box [.int .i64 id, .int .i64 fr, .sl _ e_api_Window ws, .sl _ e_api_Need ns]]) :
 ∀ j, j <= ws.length -> ∀ s : ByteArray, s.size + 9 * (ws.length - j) < 1000000000000 -> P (s ++ ⟨(rowsB (ws.drop j)).toArray⟩) -> A (td Tryz.f27 8) (envAt 91 [(0, .sl _ e_api_Schedule l), (3, .str s), (4, .int .i64 i), (5, .ptr 0 0), (6, .int .i64 (j : Int))]) [.box [.int .i64 id, .int .i64 fr, .sl _ e_api_Window ws, .sl _ e_api_Need ns]] := by
 refine down_loop ws _ ?_ ?_
 ·intro s _ hp
  rw [List.drop_length] at hp
  have : s ++ ByteArray.mk (rowsB []).toArray = s := by apply ByteArray.ext; apply Array.ext'; simp [rowsB]
  rw [this] at hp
  exact hend s hp
 ·intro j y hy ih s hs hp
  have hlt := lt_of_get hy
  refine (hA.nf (nf_rText9_c A k l s i _ id fr ws ns) ?_)
  rw [ilt_true hlt]
  obtain ⟨b1, b2, b3, b4⟩ := okW_b (hok y (List.mem_of_getElem? hy))
  have e1 : Int.toNat 1 = 1 := rfl
  have e4 : Int.toNat 4 = 4 := rfl
  rw [e1, e4]
  have z : (ByteArray.mk (beL 1 y.1.toNat).toArray ++ ByteArray.mk (beL 4 y.2.1.toNat).toArray ++ ByteArray.mk (beL 4 y.2.2.toNat).toArray).size = 9 := by simp only [ByteArray.size_append, beSize]
  have z2 : (ByteArray.mk (beL 1 y.1.toNat).toArray ++ ByteArray.mk (beL 4 y.2.1.toNat).toArray).size = 5 := by simp only [ByteArray.size_append, beSize]
  have z3 := beSize 1 y.1.toNat
  have z4 := beSize 4 y.2.1.toNat
  have z5 := beSize 4 y.2.2.toNat
  refine get_at hy ⟨⟨by omega, by omega, by decide, by decide⟩, ⟨by omega, by omega, by decide, by decide⟩, by omega, ⟨by omega, by omega, by decide, by decide⟩, by omega, by omega, ?_⟩
  rw [wrap_succ9 (by omega)]
  refine ih _ ?_ ?_
  ·rw [ByteArray.size_append, z]; omega
  ·have : (s ++ (ByteArray.mk (beL 1 y.1.toNat).toArray ++ ByteArray.mk (beL 4 y.2.1.toNat).toArray ++ ByteArray.mk (beL 4 y.2.2.toNat).toArray) ++ ByteArray.mk (rowsB (ws.drop (j + 1))).toArray) = s ++ ByteArray.mk (rowsB (ws.drop j)).toArray := by
    rw [drop_cons' hy]
    apply ByteArray.ext; apply Array.ext'; simp [rowsB, rowB]
   rw [this]; exact hp
theorem rText9_d (A : KA Kd) (k : List PV -> Heap Kd -> Prop) (hA : Closed E0 ff_rText9 k A) (l : List Sch) (i : Int) (id fr : Int) (ws ns : List W3) (hlen : ns.length < 1000) (hok : ∀ w, w ∈ ns -> okW w = true) (P : ByteArray -> Prop)
 (hend : ∀ s : ByteArray, P s -> A (td Tryz.f27 14) (envAt 91 [(0, .sl _ e_api_Schedule l), (3, .str s), (4, .int .i64 i), (5, .ptr 0 0), (8, .int .i64 (ns.length : Int))]) [.box [.int .i64 id, .int .i64 fr, .sl _ e_api_Window ws, .sl _ e_api_Need ns]]) :
 ∀ j, j <= ns.length -> ∀ s : ByteArray, s.size + 9 * (ns.length - j) < 1000000000000 -> P (s ++ ⟨(rowsB (ns.drop j)).toArray⟩) -> A (td Tryz.f27 14) (envAt 91 [(0, .sl _ e_api_Schedule l), (3, .str s), (4, .int .i64 i), (5, .ptr 0 0), (8, .int .i64 (j : Int))]) [.box [.int .i64 id, .int .i64 fr, .sl _ e_api_Window ws, .sl _ e_api_Need ns]] := by
 refine down_loop ns _ ?_ ?_
 ·intro s _ hp
  rw [List.drop_length] at hp
  have : s ++ ByteArray.mk (rowsB []).toArray = s := by apply ByteArray.ext; apply Array.ext'; simp [rowsB]
  rw [this] at hp
  exact hend s hp
 ·intro j y hy ih s hs hp
  have hlt := lt_of_get hy
  refine (hA.nf (nf_rText9_d A k l s i _ id fr ws ns) ?_)
  rw [ilt_true hlt]
  obtain ⟨b1, b2, b3, b4⟩ := okW_b (hok y (List.mem_of_getElem? hy))
  have e1 : Int.toNat 1 = 1 := rfl
  have e4 : Int.toNat 4 = 4 := rfl
  rw [e1, e4]
  have z : (ByteArray.mk (beL 1 y.1.toNat).toArray ++ ByteArray.mk (beL 4 y.2.1.toNat).toArray ++ ByteArray.mk (beL 4 y.2.2.toNat).toArray).size = 9 := by simp only [ByteArray.size_append, beSize]
  have z2 : (ByteArray.mk (beL 1 y.1.toNat).toArray ++ ByteArray.mk (beL 4 y.2.1.toNat).toArray).size = 5 := by simp only [ByteArray.size_append, beSize]
  have z3 := beSize 1 y.1.toNat
  have z4 := beSize 4 y.2.1.toNat
  have z5 := beSize 4 y.2.2.toNat
  refine get_at hy ⟨⟨by omega, by omega, by decide, by decide⟩, ⟨by omega, by omega, by decide, by decide⟩, by omega, ⟨by omega, by omega, by decide, by decide⟩, by omega, by omega, ?_⟩
  rw [wrap_succ9 (by omega)]
  refine ih _ ?_ ?_
  ·rw [ByteArray.size_append, z]; omega
  ·have : (s ++ (ByteArray.mk (beL 1 y.1.toNat).toArray ++ ByteArray.mk (beL 4 y.2.1.toNat).toArray ++ ByteArray.mk (beL 4 y.2.2.toNat).toArray) ++ ByteArray.mk (rowsB (ns.drop (j + 1))).toArray) = s ++ ByteArray.mk (rowsB (ns.drop j)).toArray := by
    rw [drop_cons' hy]
    apply ByteArray.ext; apply Array.ext'; simp [rowsB, rowB]
   rw [this]; exact hp
theorem ok_rText9 : FunS B 27 rText9S := by
 refine funS_of (N := 91) (f := ff_rText9) env_E0 mixed fn_rText9 (by kernel_rfl) (by kernel_rfl) (by kernel_rfl) rText9S_mono ?_
 intro A k ys hA hF
 obtain ⟨l, rfl, ⟨hl, hw⟩, hk⟩ := rText9S_inv hF; clear hF
 refine ⟨by kernel_rfl, (hA.nf (nf_rText9_a A k l) ?_)⟩
 have hs : ∀ i, i <= l.length -> ∀ s : ByteArray, s.size + 3000 * (l.length - i) < 1000000000 -> k [.str (s ++ ⟨(schsB (l.drop i)).toArray⟩)] [] -> A (td Tryz.f27 3) (envAt 91 [(0, .sl _ e_api_Schedule l), (3, .str s), (4, .int .i64 (i : Int))]) [] := by
  refine down_loop l _ ?_ ?_
  ·intro s _ hp
   refine (hA.nf (nf_rText9_b A k l s _) ?_)
   rw [ilt_false (Nat.lt_irrefl _)]
   rw [List.drop_length] at hp
   have : s ++ ByteArray.mk (schsB []).toArray = s := by apply ByteArray.ext; apply Array.ext'; simp [schsB]
   rw [this] at hp
   exact hp
  ·intro i y hy ih s hs hp
   have hlt := lt_of_get hy
   obtain ⟨o1, o2, o3, o4, o5, o6⟩ := hw y (List.mem_of_getElem? hy)
   refine (hA.nf (nf_rText9_b A k l s _) ?_)
   rw [ilt_true hlt]
   have e1 : Int.toNat 1 = 1 := rfl
   have e2 : Int.toNat 2 = 2 := rfl
   have e4 : Int.toNat 4 = 4 := rfl
   rw [e1, e2, e4]
   have z : (ByteArray.mk (beL 1 y.1.toNat).toArray ++ ByteArray.mk (beL 4 y.2.1.toNat).toArray ++ ByteArray.mk (beL 2 (y.2.2.1.length : Int).toNat).toArray).size = 7 := by simp only [ByteArray.size_append, beSize]
   have z2 : (ByteArray.mk (beL 1 y.1.toNat).toArray ++ ByteArray.mk (beL 4 y.2.1.toNat).toArray).size = 5 := by simp only [ByteArray.size_append, beSize]
   have z3 := beSize 1 y.1.toNat
   have z4 := beSize 4 y.2.1.toNat
   have z5 := beSize 2 (y.2.2.1.length : Int).toNat
   refine get_at hy ⟨⟨by omega, by omega, by decide, by decide⟩, ⟨by omega, by omega, by decide, by decide⟩, by omega, ⟨by omega, by omega, by decide, by decide⟩, by omega, by omega, ?_⟩
   obtain ⟨head, hhead⟩ : ∃ t, t = (ByteArray.mk (beL 1 y.1.toNat).toArray ++ ByteArray.mk (beL 4 y.2.1.toNat).toArray ++ ByteArray.mk (beL 2 (y.2.2.1.length : Int).toNat).toArray) := ⟨_, rfl⟩
   rw [<- hhead] at z ⊢
   have z6 := beSize 1 (y.2.2.2.length : Int).toNat
   refine rText9_c A k hA l i y.1 y.2.1 y.2.2.1 y.2.2.2 (by omega) o4 (fun t => t = s ++ head ++ ⟨(rowsB y.2.2.1).toArray⟩) ?_ 0 (Nat.zero_le _) _ (by rw [ByteArray.size_append, z]; omega) rfl
   rintro _ rfl
   have z7 : (s ++ head ++ ByteArray.mk (rowsB y.2.2.1).toArray).size = s.size + 7 + 9 * y.2.2.1.length := by
    rw [ByteArray.size_append, ByteArray.size_append, z, mk_size (rowsB y.2.2.1), rowsB_len]
   refine (hA.nf (nf_rText9_c A k l _ _ _ y.1 y.2.1 y.2.2.1 y.2.2.2) ?_)
   rw [ilt_false (Nat.lt_irrefl _), e1]
   refine ⟨⟨by omega, by omega, by decide, by decide⟩, by omega, ?_⟩
   refine rText9_d A k hA l i y.1 y.2.1 y.2.2.1 y.2.2.2 (by omega) o6 (fun t => t = s ++ head ++ ⟨(rowsB y.2.2.1).toArray⟩ ++ ByteArray.mk (beL 1 (y.2.2.2.length : Int).toNat).toArray ++ ⟨(rowsB y.2.2.2).toArray⟩) ?_ 0 (Nat.zero_le _) _ (by rw [ByteArray.size_append, z6]; omega) rfl
   rintro _ rfl
   refine (hA.nf (nf_rText9_d A k l _ _ _ y.1 y.2.1 y.2.2.1 y.2.2.2) ?_)
   rw [ilt_false (Nat.lt_irrefl _), cond_false]
   rw [wrap_succ9 (by omega)]
   have z8 : (s ++ head ++ ByteArray.mk (rowsB y.2.2.1).toArray ++ ByteArray.mk (beL 1 (y.2.2.2.length : Int).toNat).toArray ++ ByteArray.mk (rowsB y.2.2.2).toArray).size = s.size + 8 + 9 * y.2.2.1.length + 9 * y.2.2.2.length := by
    rw [ByteArray.size_append, ByteArray.size_append, z7, mk_size (rowsB y.2.2.2), rowsB_len, z6]; omega
   refine ih _ (by rw [z8]; omega) ?_
   have : (s ++ head ++ ByteArray.mk (rowsB y.2.2.1).toArray ++ ByteArray.mk (beL 1 (y.2.2.2.length : Int).toNat).toArray ++ ByteArray.mk (rowsB y.2.2.2).toArray ++ ByteArray.mk (schsB (l.drop (i + 1))).toArray) = s ++ ByteArray.mk (schsB (l.drop i)).toArray := by
    rw [drop_cons' hy, hhead]
    apply ByteArray.ext; apply Array.ext'; simp [schsB, schB]
   rw [this]; exact hp
 refine hs 0 (Nat.zero_le _) _ (by show 0 + _ < _; omega) ?_
 have : (ByteArray.mk #[] ++ ByteArray.mk (schsB (l.drop 0)).toArray) = ByteArray.mk (schsB l).toArray := by apply ByteArray.ext; apply Array.ext'; simp
 rw [this]; exact hk
end Go.Ab.T
