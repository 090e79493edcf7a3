import Derived.Test.YthfagophoncabaaGreatDoorImg2
import Derived.Test.YthfagophoncabaaGreatDoorOp
import Derived.Test.YthfagophoncabaaGreatDoorPut
set_option linter.unusedVariables false
set_option linter.unusedSimpArgs false
set_option linter.unusedSectionVars false
namespace Go.Ab.T
open Go Go.Ab Go.Proofs
-- DMode is set in CrcS
set_option maxRecDepth 100000
set_option maxHeartbeats 4000000
noncomputable def LT0 := base (fun g => match g with | 10 => some (lift 0 decSp) | _ => none) (fun g => match g with | 12 => some ofS | 7 => some wr12S | 6 => some long12S | 9 => some tx12S | 11 => some same12S | 8 => some aw12S | _ => none) (fun _ => none)
theorem env_LT0 : EnvOk LT0 := env_of (by
    intro g F h
    split at h
    · cases h; exact of_ok
    · cases h; exact ok_wr12
    · cases h; exact ok_long12
    · cases h; exact ok_tx12
    · cases h; exact ok_same12
    · cases h; exact ok_awake12
    · cases h) (by
    intro g F h
    split at h
    · cases h; exact (lift_ok ok_dec)
    · cases h) (fun g F h => (by cases h))
theorem fn_ImageTurned : FnOk Tryz.prog 3 Tryz.f3 (bodyOf Tryz.f3) := ⟨by kernel_rfl, by kernel_rfl, by kernel_rfl⟩
noncomputable def ff_ImageTurned : Fun := ⟨Tryz.f3.ntmps, 0, Tryz.f3.results.toList, fun i => match i with | 3 => some [1, 2, 3] | 5 => some [2, 3, 7] | _ => none, fun i => match i with | 3 => true | 5 => true | _ => false, fun _ => []⟩
theorem nf_turned_a (A : KA Kd) (k : List PV → Heap Kd → Prop) (ep fi : Int) (ps : List Prt) (ss : List Sch) (rs : List Pr) (ac : List Act3) (at2 by2 : Int) : evT LT0 ff_ImageTurned A k 400 false [.code (bodyOf Tryz.f3)] (startEnv 81 [.agg [.int .u64 ep, .int .i64 fi, .sl _ e_api_Partition ps, .sl _ e_api_Schedule ss, .sl _ e_api_Pair rs, .sl _ e_api_Act ac], .int .u16 at2, .int .u8 by2]) [] = (∃ (ep_1 : Int), ∃ (fi_1 : Int), ∃ (ps_1 : List Prt), ∃ (ss_1 : List Sch), ∃ (rs_1 : List Pr), ∃ (ac_1 : List Act3), PV.agg [PV.int IntKind.u64 ep, PV.int IntKind.i64 fi, PV.sl (Int × ByteArray × Bool × List (Int × Bool)) e_api_Partition ps, PV.sl (Int × Int × List (Int × Int × Int) × List (Int × Int × Int)) e_api_Schedule ss, PV.sl (Int × Int) e_api_Pair rs, PV.sl (Int × Int × Int) e_api_Act ac] = PV.agg [PV.int IntKind.u64 ep_1, PV.int IntKind.i64 fi_1, PV.sl (Int × ByteArray × Bool × List (Int × Bool)) e_api_Partition ps_1, PV.sl (Int × Int × List (Int × Int × Int) × List (Int × Int × Int)) e_api_Schedule ss_1, PV.sl (Int × Int) e_api_Pair rs_1, PV.sl (Int × Int × Int) e_api_Act ac_1] ∧ (ps_1.length ≤ (9223372036854775807 : Nat) ∧ ss_1.length ≤ (9223372036854775807 : Nat)) ∧ bif longM (ep_1, fi_1, ps_1, ss_1, rs_1, ac_1) then k [PV.bool true] [] else ∃ (ep_2 : Int), ∃ (fi_2 : Int), ∃ (ps_2 : List Prt), ∃ (ss_2 : List Sch), ∃ (rs_2 : List Pr), ∃ (ac_2 : List Act3), PV.agg [PV.int IntKind.u64 ep, PV.int IntKind.i64 fi, PV.sl (Int × ByteArray × Bool × List (Int × Bool)) e_api_Partition ps, PV.sl (Int × Int × List (Int × Int × Int) × List (Int × Int × Int)) e_api_Schedule ss, PV.sl (Int × Int) e_api_Pair rs, PV.sl (Int × Int × Int) e_api_Act ac] = PV.agg [PV.int IntKind.u64 ep_2, PV.int IntKind.i64 fi_2, PV.sl (Int × ByteArray × Bool × List (Int × Bool)) e_api_Partition ps_2, PV.sl (Int × Int × List (Int × Int × Int) × List (Int × Int × Int)) e_api_Schedule ss_2, PV.sl (Int × Int) e_api_Pair rs_2, PV.sl (Int × Int × Int) e_api_Act ac_2] ∧ ((ps_2.length < (100000 : Nat) ∧ ss_2.length < (100000 : Nat) ∧ rs_2.length < (100000 : Nat) ∧ ac_2.length < (100000 : Nat)) ∧ ∀ (x : Sch), x ∈ ss_2 → x.snd.snd.fst.length < (9223372036854775808 : Nat) ∧ x.snd.snd.snd.length < (9223372036854775808 : Nat)) ∧ bif (ofE (imgE (ep_2, fi_2, ps_2, ss_2, rs_2, ac_2))).fst != (0 : Int) then k [PV.bool true] [] else A (tdr Tryz.f3 (3 : Nat)) (envAt (81 : Nat) [((1 : Nat), PV.int IntKind.u16 at2), ((2 : Nat), PV.int IntKind.u8 by2), ((3 : Nat), PV.ptr (0 : Nat) (0 : Nat))]) [AObj.box [PV.int IntKind.u64 ep, PV.int IntKind.i64 fi, PV.sl (Int × ByteArray × Bool × List (Int × Bool)) e_api_Partition ps, PV.sl (Int × Int × List (Int × Int × Int) × List (Int × Int × Int)) e_api_Schedule ss, PV.sl (Int × Int) e_api_Pair rs, PV.sl (Int × Int × Int) e_api_Act ac]]) := by kernel_rfl
theorem nf_turned_3 (A : KA Kd) (k : List PV → Heap Kd → Prop) (ep fi : Int) (ps : List Prt) (ss : List Sch) (rs : List Pr) (ac : List Act3) (at2 by2 : Int) : evT LT0 ff_ImageTurned A k 400 true (tdr Tryz.f3 3) (envAt 81 [(1, .int .u16 at2), (2, .int .u8 by2), (3, .ptr 0 0)]) [.box [.int .u64 ep, .int .i64 fi, .sl _ e_api_Partition ps, .sl _ e_api_Schedule ss, .sl _ e_api_Pair rs, .sl _ e_api_Act ac]] = (∃ (ep_1 : Int), ∃ (fi_1 : Int), ∃ (ps_1 : List Prt), ∃ (ss_1 : List Sch), ∃ (rs_1 : List Pr), ∃ (ac_1 : List Act3), PV.agg [PV.int IntKind.u64 ep, PV.int IntKind.i64 fi, PV.sl (Int × ByteArray × Bool × List (Int × Bool)) e_api_Partition ps, PV.sl (Int × Int × List (Int × Int × Int) × List (Int × Int × Int)) e_api_Schedule ss, PV.sl (Int × Int) e_api_Pair rs, PV.sl (Int × Int × Int) e_api_Act ac] = PV.agg [PV.int IntKind.u64 ep_1, PV.int IntKind.i64 fi_1, PV.sl (Int × ByteArray × Bool × List (Int × Bool)) e_api_Partition ps_1, PV.sl (Int × Int × List (Int × Int × Int) × List (Int × Int × Int)) e_api_Schedule ss_1, PV.sl (Int × Int) e_api_Pair rs_1, PV.sl (Int × Int × Int) e_api_Act ac_1] ∧ ((((0 : Int) ≤ (ep_1, fi_1, ps_1, ss_1, rs_1, ac_1).fst ∧ (ep_1, fi_1, ps_1, ss_1, rs_1, ac_1).fst < (18446744073709551616 : Int)) ∧ ∀ (x : Prt), x ∈ (ep_1, fi_1, ps_1, ss_1, rs_1, ac_1).snd.snd.fst → ∀ (c : Cl), c ∈ x.snd.snd.snd → (0 : Int) ≤ c.fst ∧ c.fst < (4294967296 : Int)) ∧ (imgE (ep_1, fi_1, ps_1, ss_1, rs_1, ac_1)).isNil = true) ∧ ∃ (zs : List UInt8), List.map e_uint8 zs = List.map (fun (b : UInt8) => PV.int IntKind.u8 (↑b.toNat : Int)) (ByteArray.mk (imgL (ep_1, fi_1, ps_1, ss_1, rs_1, ac_1)).toArray).data.toList ∧ (↑zs.length : Int) ≠ (0 : Int) ∧ ((0 : Int) ≤ (IntKind.i64.wrap at2).tmod (↑zs.length : Int) ∧ (IntKind.i64.wrap at2).tmod (↑zs.length : Int) < (↑zs.length : Int)) ∧ ∀ (y : UInt8), zs[((IntKind.i64.wrap at2).tmod (↑zs.length : Int)).toNat]? = some y → ((0 : Int) ≤ (IntKind.i64.wrap at2).tmod (↑zs.length : Int) ∧ (IntKind.i64.wrap at2).tmod (↑zs.length : Int) < (↑zs.length : Int)) ∧ ∀ (z : UInt8), zs[((IntKind.i64.wrap at2).tmod (↑zs.length : Int)).toNat]? = some z → ∃ (z' : UInt8), PV.int IntKind.u8 (↑(UInt8.toNat z') : Int) = PV.int IntKind.u8 (bits BinOp.xor IntKind.u8 (↑(UInt8.toNat y) : Int) by2) ∧ A (tdr Tryz.f3 (5 : Nat)) (envAt (81 : Nat) [((2 : Nat), PV.int IntKind.u8 by2), ((3 : Nat), PV.ptr (0 : Nat) (0 : Nat)), ((7 : Nat), PV.own (1 : Nat))]) [AObj.box [PV.int IntKind.u64 ep, PV.int IntKind.i64 fi, PV.sl (Int × ByteArray × Bool × List (Int × Bool)) e_api_Partition ps, PV.sl (Int × Int × List (Int × Int × Int) × List (Int × Int × Int)) e_api_Schedule ss, PV.sl (Int × Int) e_api_Pair rs, PV.sl (Int × Int × Int) e_api_Act ac], AObj.row (5 : Nat) (zs.set ((IntKind.i64.wrap at2).tmod (↑zs.length : Int)).toNat z')]) := by kernel_rfl
theorem nf_turned_5 (A : KA Kd) (k : List PV → Heap Kd → Prop) (ep fi : Int) (ps : List Prt) (ss : List Sch) (rs : List Pr) (ac : List Act3) (by2 : Int) (l : List UInt8) : evT LT0 ff_ImageTurned A k 400 true (tdr Tryz.f3 5) (envAt 81 [(2, .int .u8 by2), (3, .ptr 0 0), (7, .own 1)]) [.box [.int .u64 ep, .int .i64 fi, .sl _ e_api_Partition ps, .sl _ e_api_Schedule ss, .sl _ e_api_Pair rs, .sl _ e_api_Act ac], .row 5 l] = ((∀ (y : UInt8), y ∈ l → isU8 (e_uint8 y) = true) ∧ (strPV (List.map e_uint8 l)).size < (1099511627776 : Nat) ∧ bif by2 == (0 : Int) then bif (decE (strPV (List.map e_uint8 l))).isNil then ∃ (ep_1 : Int), ∃ (fi_1 : Int), ∃ (ps_1 : List Prt), ∃ (ss_1 : List Sch), ∃ (rs_1 : List Pr), ∃ (ac_1 : List Act3), PV.agg [PV.int IntKind.u64 (decM (strPV (List.map e_uint8 l))).fst, PV.int IntKind.i64 (decM (strPV (List.map e_uint8 l))).snd.fst, PV.sl (Int × ByteArray × Bool × (List (Int × Bool))) e_api_Partition (decM (strPV (List.map e_uint8 l))).snd.snd.fst, PV.sl (Int × Int × (List (Int × Int × Int)) × (List (Int × Int × Int))) e_api_Schedule (decM (strPV (List.map e_uint8 l))).snd.snd.snd.fst, PV.sl (Int × Int) e_api_Pair (decM (strPV (List.map e_uint8 l))).snd.snd.snd.snd.fst, PV.sl (Int × Int × Int) e_api_Act (decM (strPV (List.map e_uint8 l))).snd.snd.snd.snd.snd] = PV.agg [PV.int IntKind.u64 ep_1, PV.int IntKind.i64 fi_1, PV.sl (Int × ByteArray × Bool × List (Int × Bool)) e_api_Partition ps_1, PV.sl (Int × Int × List (Int × Int × Int) × List (Int × Int × Int)) e_api_Schedule ss_1, PV.sl (Int × Int) e_api_Pair rs_1, PV.sl (Int × Int × Int) e_api_Act ac_1] ∧ PV.agg [PV.int IntKind.u64 ep, PV.int IntKind.i64 fi, PV.sl (Int × ByteArray × Bool × List (Int × Bool)) e_api_Partition ps, PV.sl (Int × Int × List (Int × Int × Int) × List (Int × Int × Int)) e_api_Schedule ss, PV.sl (Int × Int) e_api_Pair rs, PV.sl (Int × Int × Int) e_api_Act ac] = PV.agg [PV.int IntKind.u64 ep_1, PV.int IntKind.i64 fi_1, PV.sl (Int × ByteArray × Bool × List (Int × Bool)) e_api_Partition ps_1, PV.sl (Int × Int × List (Int × Int × Int) × List (Int × Int × Int)) e_api_Schedule ss_1, PV.sl (Int × Int) e_api_Pair rs_1, PV.sl (Int × Int × Int) e_api_Act ac_1] ∧ ((ps_1.length < (4611686018427387904 : Nat) ∧ ss_1.length < (4611686018427387904 : Nat) ∧ rs_1.length < (4611686018427387904 : Nat) ∧ ac_1.length < (4611686018427387904 : Nat)) ∧ (∀ (x : Prt), x ∈ ps_1 → x.snd.snd.snd.length < (4611686018427387904 : Nat)) ∧ ∀ (x : Sch), x ∈ ss_1 → x.snd.snd.fst.length < (4611686018427387904 : Nat) ∧ x.snd.snd.snd.length < (4611686018427387904 : Nat)) ∧ k [PV.bool true] [] else k [PV.bool false] [] else bif !(decE (strPV (List.map e_uint8 l))).isNil then bif (ofE (decE (strPV (List.map e_uint8 l)))).fst == (3 : Int) then ∃ (ep : Int), ∃ (fi : Int), ∃ (ps : List Prt), ∃ (ss : List Sch), ∃ (rs : List Pr), ∃ (ac : List Act3), PV.agg [PV.int IntKind.u64 (decM (strPV (List.map e_uint8 l))).fst, PV.int IntKind.i64 (decM (strPV (List.map e_uint8 l))).snd.fst, PV.sl (Int × ByteArray × Bool × (List (Int × Bool))) e_api_Partition (decM (strPV (List.map e_uint8 l))).snd.snd.fst, PV.sl (Int × Int × (List (Int × Int × Int)) × (List (Int × Int × Int))) e_api_Schedule (decM (strPV (List.map e_uint8 l))).snd.snd.snd.fst, PV.sl (Int × Int) e_api_Pair (decM (strPV (List.map e_uint8 l))).snd.snd.snd.snd.fst, PV.sl (Int × Int × Int) e_api_Act (decM (strPV (List.map e_uint8 l))).snd.snd.snd.snd.snd] = PV.agg [PV.int IntKind.u64 ep, PV.int IntKind.i64 fi, PV.sl (Int × ByteArray × Bool × List (Int × Bool)) e_api_Partition ps, PV.sl (Int × Int × List (Int × Int × Int) × List (Int × Int × Int)) e_api_Schedule ss, PV.sl (Int × Int) e_api_Pair rs, PV.sl (Int × Int × Int) e_api_Act ac] ∧ PV.agg [PV.int IntKind.u64 (0 : Int), PV.int IntKind.i64 (0 : Int), PV.sl (Int × ByteArray × Bool × (List (Int × Bool))) e_api_Partition [], PV.sl (Int × Int × (List (Int × Int × Int)) × (List (Int × Int × Int))) e_api_Schedule [], PV.sl (Int × Int) e_api_Pair [], PV.sl (Int × Int × Int) e_api_Act []] = PV.agg [PV.int IntKind.u64 ep, PV.int IntKind.i64 fi, PV.sl (Int × ByteArray × Bool × List (Int × Bool)) e_api_Partition ps, PV.sl (Int × Int × List (Int × Int × Int) × List (Int × Int × Int)) e_api_Schedule ss, PV.sl (Int × Int) e_api_Pair rs, PV.sl (Int × Int × Int) e_api_Act ac] ∧ ((ps.length < (4611686018427387904 : Nat) ∧ ss.length < (4611686018427387904 : Nat) ∧ rs.length < (4611686018427387904 : Nat) ∧ ac.length < (4611686018427387904 : Nat)) ∧ (∀ (x : Prt), x ∈ ps → x.snd.snd.snd.length < (4611686018427387904 : Nat)) ∧ ∀ (x : Sch), x ∈ ss → x.snd.snd.fst.length < (4611686018427387904 : Nat) ∧ x.snd.snd.snd.length < (4611686018427387904 : Nat)) ∧ k [PV.bool true] [] else bif (ofE (decE (strPV (List.map e_uint8 l)))).fst == (8 : Int) then ∃ (ep : Int), ∃ (fi : Int), ∃ (ps : List Prt), ∃ (ss : List Sch), ∃ (rs : List Pr), ∃ (ac : List Act3), PV.agg [PV.int IntKind.u64 (decM (strPV (List.map e_uint8 l))).fst, PV.int IntKind.i64 (decM (strPV (List.map e_uint8 l))).snd.fst, PV.sl (Int × ByteArray × Bool × (List (Int × Bool))) e_api_Partition (decM (strPV (List.map e_uint8 l))).snd.snd.fst, PV.sl (Int × Int × (List (Int × Int × Int)) × (List (Int × Int × Int))) e_api_Schedule (decM (strPV (List.map e_uint8 l))).snd.snd.snd.fst, PV.sl (Int × Int) e_api_Pair (decM (strPV (List.map e_uint8 l))).snd.snd.snd.snd.fst, PV.sl (Int × Int × Int) e_api_Act (decM (strPV (List.map e_uint8 l))).snd.snd.snd.snd.snd] = PV.agg [PV.int IntKind.u64 ep, PV.int IntKind.i64 fi, PV.sl (Int × ByteArray × Bool × List (Int × Bool)) e_api_Partition ps, PV.sl (Int × Int × List (Int × Int × Int) × List (Int × Int × Int)) e_api_Schedule ss, PV.sl (Int × Int) e_api_Pair rs, PV.sl (Int × Int × Int) e_api_Act ac] ∧ PV.agg [PV.int IntKind.u64 (0 : Int), PV.int IntKind.i64 (0 : Int), PV.sl (Int × ByteArray × Bool × (List (Int × Bool))) e_api_Partition [], PV.sl (Int × Int × (List (Int × Int × Int)) × (List (Int × Int × Int))) e_api_Schedule [], PV.sl (Int × Int) e_api_Pair [], PV.sl (Int × Int × Int) e_api_Act []] = PV.agg [PV.int IntKind.u64 ep, PV.int IntKind.i64 fi, PV.sl (Int × ByteArray × Bool × List (Int × Bool)) e_api_Partition ps, PV.sl (Int × Int × List (Int × Int × Int) × List (Int × Int × Int)) e_api_Schedule ss, PV.sl (Int × Int) e_api_Pair rs, PV.sl (Int × Int × Int) e_api_Act ac] ∧ ((ps.length < (4611686018427387904 : Nat) ∧ ss.length < (4611686018427387904 : Nat) ∧ rs.length < (4611686018427387904 : Nat) ∧ ac.length < (4611686018427387904 : Nat)) ∧ (∀ (x : Prt), x ∈ ps → x.snd.snd.snd.length < (4611686018427387904 : Nat)) ∧ ∀ (x : Sch), x ∈ ss → x.snd.snd.fst.length < (4611686018427387904 : Nat) ∧ x.snd.snd.snd.length < (4611686018427387904 : Nat)) ∧ k [PV.bool true] [] else bif (ofE (decE (strPV (List.map e_uint8 l)))).fst == (4 : Int) then ∃ (ep : Int), ∃ (fi : Int), ∃ (ps : List Prt), ∃ (ss : List Sch), ∃ (rs : List Pr), ∃ (ac : List Act3), PV.agg [PV.int IntKind.u64 (decM (strPV (List.map e_uint8 l))).fst, PV.int IntKind.i64 (decM (strPV (List.map e_uint8 l))).snd.fst, PV.sl (Int × ByteArray × Bool × (List (Int × Bool))) e_api_Partition (decM (strPV (List.map e_uint8 l))).snd.snd.fst, PV.sl (Int × Int × (List (Int × Int × Int)) × (List (Int × Int × Int))) e_api_Schedule (decM (strPV (List.map e_uint8 l))).snd.snd.snd.fst, PV.sl (Int × Int) e_api_Pair (decM (strPV (List.map e_uint8 l))).snd.snd.snd.snd.fst, PV.sl (Int × Int × Int) e_api_Act (decM (strPV (List.map e_uint8 l))).snd.snd.snd.snd.snd] = PV.agg [PV.int IntKind.u64 ep, PV.int IntKind.i64 fi, PV.sl (Int × ByteArray × Bool × List (Int × Bool)) e_api_Partition ps, PV.sl (Int × Int × List (Int × Int × Int) × List (Int × Int × Int)) e_api_Schedule ss, PV.sl (Int × Int) e_api_Pair rs, PV.sl (Int × Int × Int) e_api_Act ac] ∧ PV.agg [PV.int IntKind.u64 (0 : Int), PV.int IntKind.i64 (0 : Int), PV.sl (Int × ByteArray × Bool × (List (Int × Bool))) e_api_Partition [], PV.sl (Int × Int × (List (Int × Int × Int)) × (List (Int × Int × Int))) e_api_Schedule [], PV.sl (Int × Int) e_api_Pair [], PV.sl (Int × Int × Int) e_api_Act []] = PV.agg [PV.int IntKind.u64 ep, PV.int IntKind.i64 fi, PV.sl (Int × ByteArray × Bool × List (Int × Bool)) e_api_Partition ps, PV.sl (Int × Int × List (Int × Int × Int) × List (Int × Int × Int)) e_api_Schedule ss, PV.sl (Int × Int) e_api_Pair rs, PV.sl (Int × Int × Int) e_api_Act ac] ∧ ((ps.length < (4611686018427387904 : Nat) ∧ ss.length < (4611686018427387904 : Nat) ∧ rs.length < (4611686018427387904 : Nat) ∧ ac.length < (4611686018427387904 : Nat)) ∧ (∀ (x : Prt), x ∈ ps → x.snd.snd.snd.length < (4611686018427387904 : Nat)) ∧ ∀ (x : Sch), x ∈ ss → x.snd.snd.fst.length < (4611686018427387904 : Nat) ∧ x.snd.snd.snd.length < (4611686018427387904 : Nat)) ∧ k [PV.bool true] [] else bif (ofE (decE (strPV (List.map e_uint8 l)))).fst == (5 : Int) then ∃ (ep : Int), ∃ (fi : Int), ∃ (ps : List Prt), ∃ (ss : List Sch), ∃ (rs : List Pr), ∃ (ac : List Act3), PV.agg [PV.int IntKind.u64 (decM (strPV (List.map e_uint8 l))).fst, PV.int IntKind.i64 (decM (strPV (List.map e_uint8 l))).snd.fst, PV.sl (Int × ByteArray × Bool × (List (Int × Bool))) e_api_Partition (decM (strPV (List.map e_uint8 l))).snd.snd.fst, PV.sl (Int × Int × (List (Int × Int × Int)) × (List (Int × Int × Int))) e_api_Schedule (decM (strPV (List.map e_uint8 l))).snd.snd.snd.fst, PV.sl (Int × Int) e_api_Pair (decM (strPV (List.map e_uint8 l))).snd.snd.snd.snd.fst, PV.sl (Int × Int × Int) e_api_Act (decM (strPV (List.map e_uint8 l))).snd.snd.snd.snd.snd] = PV.agg [PV.int IntKind.u64 ep, PV.int IntKind.i64 fi, PV.sl (Int × ByteArray × Bool × List (Int × Bool)) e_api_Partition ps, PV.sl (Int × Int × List (Int × Int × Int) × List (Int × Int × Int)) e_api_Schedule ss, PV.sl (Int × Int) e_api_Pair rs, PV.sl (Int × Int × Int) e_api_Act ac] ∧ PV.agg [PV.int IntKind.u64 (0 : Int), PV.int IntKind.i64 (0 : Int), PV.sl (Int × ByteArray × Bool × (List (Int × Bool))) e_api_Partition [], PV.sl (Int × Int × (List (Int × Int × Int)) × (List (Int × Int × Int))) e_api_Schedule [], PV.sl (Int × Int) e_api_Pair [], PV.sl (Int × Int × Int) e_api_Act []] = PV.agg [PV.int IntKind.u64 ep, PV.int IntKind.i64 fi, PV.sl (Int × ByteArray × Bool × List (Int × Bool)) e_api_Partition ps, PV.sl (Int × Int × List (Int × Int × Int) × List (Int × Int × Int)) e_api_Schedule ss, PV.sl (Int × Int) e_api_Pair rs, PV.sl (Int × Int × Int) e_api_Act ac] ∧ ((ps.length < (4611686018427387904 : Nat) ∧ ss.length < (4611686018427387904 : Nat) ∧ rs.length < (4611686018427387904 : Nat) ∧ ac.length < (4611686018427387904 : Nat)) ∧ (∀ (x : Prt), x ∈ ps → x.snd.snd.snd.length < (4611686018427387904 : Nat)) ∧ ∀ (x : Sch), x ∈ ss → x.snd.snd.fst.length < (4611686018427387904 : Nat) ∧ x.snd.snd.snd.length < (4611686018427387904 : Nat)) ∧ k [PV.bool true] [] else k [PV.bool false] [] else k [PV.bool false] []) := by kernel_rfl
def lawITS : SpecS := fun ys Φ => match ys with
  | [x_0, .int .u16 at2, x_2] => ∃ (ep : Int), ∃ (fi : Int), ∃ (ps : List Prt), ∃ (ss : List Sch), ∃ (rs : List Pr), ∃ (ac : List Act3), ∃ (b2 : UInt8), x_0 = .agg [.int .u64 ep, .int .i64 fi, .sl _ e_api_Partition ps, .sl _ e_api_Schedule ss, .sl _ e_api_Pair rs, .sl _ e_api_Act ac] ∧ x_2 = .int .u8 (b2.toNat : Int) ∧ ((0 ≤ ep ∧ ep < 18446744073709551616) ∧ (ps.length ≤ 9223372036854775807 ∧ ss.length ≤ 9223372036854775807) ∧ (∀ x, x ∈ ps → ∀ c, c ∈ x.2.2.2 → OkC c) ∧ (∀ x, x ∈ ss → x.2.2.1.length < 9223372036854775808 ∧ x.2.2.2.length < 9223372036854775808) ∧ 0 ≤ at2 ∧ at2 < 65536) ∧ Φ [.bool true]
  | _ => False
theorem lawITS_mono : MonoS lawITS := by
  intro ys Φ Ψ h hF
  unfold lawITS at hF ⊢
  split at hF
  · obtain ⟨a0, a1, a2, a3, a4, a5, a6, q0, q1, hp, hk⟩ := hF; exact ⟨a0, a1, a2, a3, a4, a5, a6, q0, q1, hp, h _ hk⟩
  · exact hF.elim
theorem lawITS_inv {ys : List PV} {Φ : List PV → Prop} (h : lawITS ys Φ) : ∃ (ep : Int) (fi : Int) (ps : List Prt) (ss : List Sch) (rs : List Pr) (ac : List Act3) (at2 : Int) (b2 : UInt8), ys = [.agg [.int .u64 ep, .int .i64 fi, .sl _ e_api_Partition ps, .sl _ e_api_Schedule ss, .sl _ e_api_Pair rs, .sl _ e_api_Act ac], .int .u16 at2, .int .u8 (b2.toNat : Int)] ∧ ((0 ≤ ep ∧ ep < 18446744073709551616) ∧ (ps.length ≤ 9223372036854775807 ∧ ss.length ≤ 9223372036854775807) ∧ (∀ x, x ∈ ps → ∀ c, c ∈ x.2.2.2 → OkC c) ∧ (∀ x, x ∈ ss → x.2.2.1.length < 9223372036854775808 ∧ x.2.2.2.length < 9223372036854775808) ∧ 0 ≤ at2 ∧ at2 < 65536) ∧ Φ [.bool true] := by
  unfold lawITS at h
  split at h
  · obtain ⟨a0, a1, a2, a3, a4, a5, a6, q0, q1, hz⟩ := h
    subst q0
    subst q1
    exact ⟨a0, a1, a2, a3, a4, a5, _, a6, rfl, hz⟩
  · exact h.elim
theorem xor_u8 (a b : UInt8) : bits BinOp.xor IntKind.u8 ((a.toNat : Nat) : Int) ((b.toNat : Nat) : Int) = (((a ^^^ b).toNat : Nat) : Int) := by
  rw [Go.u8_xor_nat _ _ a.toNat_lt b.toNat_lt, UInt8.toNat_xor]
theorem xor_same {a b : UInt8} (h : (b.toNat : Int) ≠ 0) : a ^^^ b ≠ a := by
  intro e
  apply h
  have e2 := congrArg UInt8.toNat e
  rw [UInt8.toNat_xor] at e2
  have e3 : b.toNat ^^^ a.toNat = 0 ^^^ a.toNat := by rw [Nat.zero_xor, Nat.xor_comm]; exact e2
  have := xor_cancel e3
  omega
theorem set_same {l : List UInt8} {i : Nat} {c : UInt8} (h : l[i]? = some c) : l.set i c = l := by
  apply List.ext_getElem?
  intro j
  rw [List.getElem?_set]
  by_cases e : i = j
  · subst e
    have := (List.getElem?_eq_some_iff.1 h).1
    rw [if_pos rfl, if_pos this, h]
  · rw [if_neg e]
theorem ok_IT : FunS B 3 lawITS := by
  refine funS_of (N := 81) (f := ff_ImageTurned) env_LT0 mixed fn_ImageTurned (by kernel_rfl) (by kernel_rfl) (by kernel_rfl) lawITS_mono ?_
  intro A k ys hA hF
  obtain ⟨ep, fi, ps, ss, rs, ac, at2, b2, rfl, ⟨hep, ⟨n1, n2⟩, hc, hw, a0, a1⟩, hk⟩ := lawITS_inv hF; clear hF
  refine ⟨by kernel_rfl, (hA.nf (nf_turned_a A k ep fi ps ss rs ac at2 (b2.toNat : Int)) ?_)⟩
  refine ⟨ep, fi, ps, ss, rs, ac, rfl, ⟨n1, n2⟩, ?_⟩
  cases cl : longM (ep, fi, ps, ss, rs, ac) with
  | true => exact hk
  | false =>
  obtain ⟨l1, l2, l3, l4⟩ := longM_no cl
  simp only at l1 l2 l3 l4
  rw [cond_false]
  refine ⟨ep, fi, ps, ss, rs, ac, rfl, ⟨⟨by omega, by omega, by omega, by omega⟩, hw⟩, ?_⟩
  have bne : ∀ v : Int, (v != 0) = !(v == 0) := fun _ => rfl
  rw [bne, (imgE_good _).nil_iff]
  cases ce : (imgE (ep, fi, ps, ss, rs, ac)).isNil with
  | false => exact hk
  | true =>
  rw [Bool.not_true, cond_false]
  have hwf : WfM (ep, fi, ps, ss, rs, ac) := ⟨hep, hc⟩
  refine (hA.nf (nf_turned_3 A k ep fi ps ss rs ac at2 (b2.toNat : Int)) ?_)
  have hb := bodL_lt ce
  have hlen : (imgL (ep, fi, ps, ss, rs, ac)).length = 27 + (bodL (ep, fi, ps, ss, rs, ac)).length := by unfold imgL imgP imgH; rw [List.length_append, List.length_append, hdrL_len, beL_len]; omega
  refine ⟨ep, fi, ps, ss, rs, ac, rfl, ⟨hwf, ce⟩, imgL (ep, fi, ps, ss, rs, ac), by rw [mk_list]; rfl, ?_⟩
  rw [wrap_id at2 (by omega) (by omega), hlen]
  have hmod := Int.tmod_eq_emod_of_nonneg (b := ((27 + (bodL (ep, fi, ps, ss, rs, ac)).length : Nat) : Int)) a0
  have m0 : 0 ≤ at2.tmod ((27 + (bodL (ep, fi, ps, ss, rs, ac)).length : Nat) : Int) := by rw [hmod]; exact Int.emod_nonneg _ (by omega)
  have m1 : at2.tmod ((27 + (bodL (ep, fi, ps, ss, rs, ac)).length : Nat) : Int) < ((27 + (bodL (ep, fi, ps, ss, rs, ac)).length : Nat) : Int) := by rw [hmod]; exact Int.emod_lt_of_pos _ (by omega)
  generalize at2.tmod ((27 + (bodL (ep, fi, ps, ss, rs, ac)).length : Nat) : Int) = q at m0 m1
  refine ⟨by omega, ⟨m0, m1⟩, fun y hy => ⟨⟨m0, m1⟩, fun z hz => ⟨y ^^^ b2, by rw [xor_u8], ?_⟩⟩⟩
  refine (hA.nf (nf_turned_5 A k ep fi ps ss rs ac (b2.toNat : Int) _) ?_)
  rw [strPV_e]
  refine ⟨fun _ _ => rfl, by rw [mk_sz, List.length_set]; omega, ?_⟩
  have counts := img_counts ce
  obtain ⟨p1, p2, p3, p4, p5⟩ := img_parts ce
  have w1 : ∀ x, x ∈ ps → x.2.2.2.length < 4611686018427387904 := fun x hx => by
    have := (prtsE_ok _ _ _ p2 x hx).2.2; omega
  have w2 : ∀ x, x ∈ ss → x.2.2.1.length < 4611686018427387904 ∧ x.2.2.2.length < 4611686018427387904 := fun x hx => by
    obtain ⟨_, _, o3, _, o5, _⟩ := schsE_ok _ _ _ p3 x hx
    exact ⟨by omega, by omega⟩
  cases cb : (b2.toNat : Int) == 0 with
  | true =>
    have e0 : b2.toNat = 0 := by have := eq_of_beq cb; omega
    have e1 : y ^^^ b2 = y := by
      apply UInt8.toNat_inj.1
      rw [UInt8.toNat_xor, e0, Nat.xor_zero]
    rw [e1, set_same hy]
    obtain ⟨d1, d2⟩ := dec_back hwf ce
    rw [d1, d2]
    exact ⟨ep, fi, ps, ss, rs, ac, rfl, rfl, ⟨⟨by omega, by omega, by omega, by omega⟩, w1, w2⟩, hk⟩
  | false =>
    rw [cond_false]
    have hne : y ^^^ b2 ≠ y := xor_same (by rw [beq_eq_false_iff_ne] at cb; exact cb)
    obtain ⟨sec, at3, kk, hkk, hd⟩ := dec_turned (m := (ep, fi, ps, ss, rs, ac)) hy hne
    have hM : decM ⟨((imgL (ep, fi, ps, ss, rs, ac)).set q.toNat (y ^^^ b2)).toArray⟩ = (0, 0, [], [], [], []) := by unfold decM; rw [hd]; rfl
    rw [hM, hd]
    have fin : ∃ (ep2 fi2 : Int) (ps2 : List Prt) (ss2 : List Sch) (rs2 : List Pr) (ac2 : List Act3), PV.agg [.int .u64 0, .int .i64 0, .sl _ e_api_Partition ([] : List Prt), .sl _ e_api_Schedule ([] : List Sch), .sl _ e_api_Pair ([] : List Pr), .sl _ e_api_Act ([] : List Act3)] = .agg [.int .u64 ep2, .int .i64 fi2, .sl _ e_api_Partition ps2, .sl _ e_api_Schedule ss2, .sl _ e_api_Pair rs2, .sl _ e_api_Act ac2] ∧
        PV.agg [.int .u64 0, .int .i64 0, .sl _ e_api_Partition ([] : List Prt), .sl _ e_api_Schedule ([] : List Sch), .sl _ e_api_Pair ([] : List Pr), .sl _ e_api_Act ([] : List Act3)] = .agg [.int .u64 ep2, .int .i64 fi2, .sl _ e_api_Partition ps2, .sl _ e_api_Schedule ss2, .sl _ e_api_Pair rs2, .sl _ e_api_Act ac2] ∧
        ((ps2.length < 4611686018427387904 ∧ ss2.length < 4611686018427387904 ∧ rs2.length < 4611686018427387904 ∧ ac2.length < 4611686018427387904) ∧ (∀ x, x ∈ ps2 → x.2.2.2.length < 4611686018427387904) ∧ (∀ x, x ∈ ss2 → x.2.2.1.length < 4611686018427387904 ∧ x.2.2.2.length < 4611686018427387904)) ∧ k [.bool true] [] :=
      ⟨0, 0, [], [], [], [], rfl, rfl, ⟨⟨by decide, by decide, by decide, by decide⟩, (fun x hx => by cases hx), fun x hx => by cases hx⟩, hk⟩
    rcases hkk with rfl | rfl | rfl | rfl
    · exact fin
    · exact fin
    · exact fin
    · exact fin
theorem pre_ImageTurned (m : Mdl) (at2 : Int) (b2 : UInt8) (hm : g_o28 m) (ha : g_o29 at2) (_ : g_o5 b2) : lawITS [a_o28 m, a_o29 at2, a_o5 b2] fun rs => rs = [.bool true] := by
  obtain ⟨ep, fi, ps, ss, rs, ac⟩ := m
  obtain ⟨h1, h2, ⟨h3, h4⟩, ⟨h5, h6⟩, h7, h8⟩ := hm
  have w1 : (Lit.int .u64 ep).wf = true := h1
  have w2 : (Lit.int .u16 at2).wf = true := ha
  simp [Lit.wf, IntKind.min, IntKind.max, IntKind.signed, IntKind.bits] at w1 w2
  have hmax : maxLen = 9223372036854775807 := by decide
  rw [hmax] at h3 h5
  refine ⟨ep, fi, ps, ss, rs, ac, b2, rfl, rfl, ⟨⟨by omega, by omega⟩, ⟨h3, h5⟩, fun x hx c hc => ?_, fun x hx => ?_, by omega, by omega⟩, rfl⟩
  · have w3 : (Lit.int .u32 c.1).wf = true := ((h4 x hx).2.2.2.2 c hc).1
    simp [Lit.wf, IntKind.min, IntKind.max, IntKind.signed, IntKind.bits] at w3
    exact ⟨by omega, by omega⟩
  · obtain ⟨_, _, ⟨q1, _⟩, q2, _⟩ := h6 x hx
    rw [hmax] at q1 q2
    exact ⟨by omega, by omega⟩
end Go.Ab.T

