import Derived.Test.YthfagophoncabaaGreatDoorHeaderPut
import Derived.Test.YthfagophoncabaaGreatDoorSched2
import Derived.Test.YthfagophoncabaaGreatDoorActs2
import Derived.Test.YthfagophoncabaaGreatDoorMaB
import Derived.Test.YthfagophoncabaaGreatDoorSeal
set_option linter.unusedVariables false
set_option linter.unusedSimpArgs false
set_option linter.unusedSectionVars false
namespace Go.Ab.T
open Go Go.Ab Go.Proofs
set_option maxRecDepth 100000
set_option maxHeartbeats 4000000
noncomputable def EN0 := base (fun _ => none) (fun _ => none) (fun _ => none)
theorem env_EN0 : EnvOk EN0 := env_of (fun g F h => (by cases h)) (fun g F h => (by cases h)) (fun g F h => (by cases h))
def hOfS : SpecS := fun ys Φ => match ys with
 | [x_0] => ∃ (ep : Int), ∃ (fi : Int), ∃ (ps : List Prt), ∃ (ss : List Sch), ∃ (rs : List Pr), ∃ (ac : List Act3), x_0 = .agg [.int .u64 ep, .int .i64 fi, .sl _ e_api_Partition ps, .sl _ e_api_Schedule ss, .sl _ e_api_Pair rs, .sl _ e_api_Act ac] /\ Φ [.agg [.int .u32 0, .int .u64 ep, .int .i64 fi, .int .i64 (ps.length : Int), .int .i64 (ss.length : Int), .int .i64 (rs.length : Int), .int .i64 (ac.length : Int)]]
 | _ => False
theorem hOfS_mono : MonoS hOfS := by
 intro ys Φ Ψ h hF
 unfold hOfS at hF ⊢
 split at hF
 ·obtain ⟨a0, a1, a2, a3, a4, a5, q0, hk⟩ := hF; exact ⟨a0, a1, a2, a3, a4, a5, q0, h _ hk⟩
 ·exact hF.elim
theorem hOfS_inv {ys : List PV} {Φ : List PV -> Prop} (h : hOfS ys Φ) : ∃ (ep : Int) (fi : Int) (ps : List Prt) (ss : List Sch) (rs : List Pr) (ac : List Act3), ys = [.agg [.int .u64 ep, .int .i64 fi, .sl _ e_api_Partition ps, .sl _ e_api_Schedule ss, .sl _ e_api_Pair rs, .sl _ e_api_Act ac]] /\ Φ [.agg [.int .u32 0, .int .u64 ep, .int .i64 fi, .int .i64 (ps.length : Int), .int .i64 (ss.length : Int), .int .i64 (rs.length : Int), .int .i64 (ac.length : Int)]] := by
 unfold hOfS at h
 split at h
 ·obtain ⟨a0, a1, a2, a3, a4, a5, q0, hz⟩ := h
  subst q0
  exact ⟨a0, a1, a2, a3, a4, a5, rfl, hz⟩
 ·exact h.elim
theorem fn_hOf : FnOk Tryz.prog 60 Tryz.f60 (bodyOf Tryz.f60) := ⟨by kernel_rfl, by kernel_rfl, by kernel_rfl⟩
noncomputable def ff_hOf : Fun := ⟨Tryz.f60.ntmps, 0, Tryz.f60.results.toList, fun _ => none, fun _ => false, fun _ => []⟩
theorem nf_hOf (A : KA Kd) (k : List PV -> Heap Kd -> Prop) (ep fi : Int) (ps : List Prt) (ss : List Sch) (rs : List Pr) (ac : List Act3) : evT EN0 ff_hOf A k 400 false [.code (bodyOf Tryz.f60)] (startEnv 20 [.agg [.int .u64 ep, .int .i64 fi, .sl _ e_api_Partition ps, .sl _ e_api_Schedule ss, .sl _ e_api_Pair rs, .sl _ e_api_Act ac]]) [] = (k [.agg [.int .u32 0, .int .u64 ep, .int .i64 fi, .int .i64 (↑ps.length : Int), .int .i64 (↑ss.length : Int), .int .i64 (↑rs.length : Int), .int .i64 (↑ac.length : Int)]] []) := by kernel_rfl
theorem ok_hOf : FunS B 60 hOfS := by
 refine funS_of (N := 20) (f := ff_hOf) env_EN0 mixed fn_hOf (by kernel_rfl) (by kernel_rfl) (by kernel_rfl) hOfS_mono ?_
 intro A k ys hA hF
 obtain ⟨ep, fi, ps, ss, rs, ac, rfl, hk⟩ := hOfS_inv hF; clear hF
 exact ⟨by kernel_rfl, (hA.nf (nf_hOf A k ep fi ps ss rs ac) hk)⟩
noncomputable def EN1 := base (fun g => match g with | 64 => some (frzAll B (lift 0 sPutAS)) | 68 => some (frzAll B (lift 0 acPutS)) | 62 => some (frzAll B (lift 0 pPutAS)) | 66 => some (frzAll B (lift 0 prPutS)) | 59 => some (frzAll B (lift 0 hPutS)) | _ => none) (fun g => match g with | 60 => some hOfS | _ => none) (fun _ => none)
theorem env_EN1 : EnvOk EN1 := env_of (by
 intro g F h
 split at h
 ·cases h; exact ok_hOf
 ·cases h) (by
 intro g F h
 split at h
 ·cases h; exact (frzAll_ok (lift_ok ok_sPutA))
 ·cases h; exact (frzAll_ok (lift_ok ok_acPut))
 ·cases h; exact (frzAll_ok (lift_ok ok_pPutA))
 ·cases h; exact (frzAll_ok (lift_ok ok_prPut))
 ·cases h; exact (frzAll_ok (lift_ok ok_hPut))
 ·cases h) (fun g F h => (by cases h))
def en1S : List PV -> Heap Kd -> (List PV -> Heap Kd -> Prop) -> Prop := fun ys L k => match ys, L with
 | [.ptr 0 0, .ptr 1 0], [.box [.raw vv], .box mm] => ∃ (ep fi : Int) (ps : List Prt) (ss : List Sch) (rs : List Pr) (ac : List Act3), vv = nilSlice /\ mm = [.int .u64 ep, .int .i64 fi, .sl _ e_api_Partition ps, .sl _ e_api_Schedule ss, .sl _ e_api_Pair rs, .sl _ e_api_Act ac] /\ (0 <= ep /\ ep < 18446744073709551616) /\ k [.own 2, .err (hdrE fi (ps.length : Int) (ss.length : Int) (rs.length : Int) (ac.length : Int))] [.box [.raw nilSlice], .box [.int .u64 ep, .int .i64 fi, .sl _ e_api_Partition ps, .sl _ e_api_Schedule ss, .sl _ e_api_Pair rs, .sl _ e_api_Act ac], .row 5 (outP [] (hdrE fi (ps.length : Int) (ss.length : Int) (rs.length : Int) (ac.length : Int)) [] (hdrL 0 ep fi (ps.length : Int) (ss.length : Int) (rs.length : Int) (ac.length : Int)))]
 | _, _ => False
theorem en1S_inv {ys : List PV} {L : Heap Kd} {k : List PV -> Heap Kd -> Prop} (h : en1S ys L k) : ∃ (ep fi : Int) (ps : List Prt) (ss : List Sch) (rs : List Pr) (ac : List Act3), ys = [.ptr 0 0, .ptr 1 0] /\ L = [.box [.raw nilSlice], .box [.int .u64 ep, .int .i64 fi, .sl _ e_api_Partition ps, .sl _ e_api_Schedule ss, .sl _ e_api_Pair rs, .sl _ e_api_Act ac]] /\ (0 <= ep /\ ep < 18446744073709551616) /\ k [.own 2, .err (hdrE fi (ps.length : Int) (ss.length : Int) (rs.length : Int) (ac.length : Int))] [.box [.raw nilSlice], .box [.int .u64 ep, .int .i64 fi, .sl _ e_api_Partition ps, .sl _ e_api_Schedule ss, .sl _ e_api_Pair rs, .sl _ e_api_Act ac], .row 5 (outP [] (hdrE fi (ps.length : Int) (ss.length : Int) (rs.length : Int) (ac.length : Int)) [] (hdrL 0 ep fi (ps.length : Int) (ss.length : Int) (rs.length : Int) (ac.length : Int)))] := by
 unfold en1S at h
 split at h
 ·obtain ⟨ep, fi, ps, ss, rs, ac, rfl, rfl, h⟩ := h
  exact ⟨ep, fi, ps, ss, rs, ac, rfl, rfl, h⟩
 ·exact h.elim
theorem fn_en1 : FnOk Tryz.prog 58 Tryz.f58 (bodyOf Tryz.f58) := ⟨by kernel_rfl, by kernel_rfl, by kernel_rfl⟩
noncomputable def ff_en1 : Fun := ⟨Tryz.f58.ntmps, 2, Tryz.f58.results.toList, fun _ => none, fun _ => false, fun _ => []⟩
theorem nf_en1 (A : KA Kd) (k : List PV -> Heap Kd -> Prop) (ep fi : Int) (ps : List Prt) (ss : List Sch) (rs : List Pr) (ac : List Act3) : evT EN1 ff_en1 A k 400 false [.code (bodyOf Tryz.f58)] (startEnv 10 [.ptr 0 0, .ptr 1 0]) [.box [.raw nilSlice], .box [.int .u64 ep, .int .i64 fi, .sl _ e_api_Partition ps, .sl _ e_api_Schedule ss, .sl _ e_api_Pair rs, .sl _ e_api_Act ac]] = (∃ (ep_1 : Int), ∃ (fi_1 : Int), ∃ (ps_1 : List Prt), ∃ (ss_1 : List Sch), ∃ (rs_1 : List Pr), ∃ (ac_1 : List Act3), PV.agg [PV.int IntKind.u64 ep, PV.int IntKind.i64 fi, PV.sl (Int × ByteArray × Bool × List (Int × Bool)) e_api_Partition ps, PV.sl (Int × Int × List (Int × Int × Int) × List (Int × Int × Int)) e_api_Schedule ss, PV.sl (Int × Int) e_api_Pair rs, PV.sl (Int × Int × Int) e_api_Act ac] = PV.agg [PV.int IntKind.u64 ep_1, PV.int IntKind.i64 fi_1, PV.sl (Int × ByteArray × Bool × List (Int × Bool)) e_api_Partition ps_1, PV.sl (Int × Int × List (Int × Int × Int) × List (Int × Int × Int)) e_api_Schedule ss_1, PV.sl (Int × Int) e_api_Pair rs_1, PV.sl (Int × Int × Int) e_api_Act ac_1] /\ ∃ (l : List UInt8), PV.sl UInt8 e_uint8 [] = PV.sl UInt8 e_uint8 l /\ (((0 : Int) <= (0 : Int) /\ (0 : Int) < (4294967296 : Int) /\ 0 <= ep_1 /\ ep_1 < 18446744073709551616) /\ l.length < 10000000) /\ k [.own 2, .err (hdrE fi_1 (↑ps_1.length : Int) (↑ss_1.length : Int) (↑rs_1.length : Int) (↑ac_1.length : Int))] [.box [PV.raw nilSlice], .box [.int .u64 ep, .int .i64 fi, .sl (Int × ByteArray × Bool × List (Int × Bool)) e_api_Partition ps, .sl (Int × Int × List (Int × Int × Int) × List (Int × Int × Int)) e_api_Schedule ss, .sl (Int × Int) e_api_Pair rs, .sl (Int × Int × Int) e_api_Act ac], .row 5 (bif (hdrE fi_1 (↑ps_1.length : Int) (↑ss_1.length : Int) (↑rs_1.length : Int) (↑ac_1.length : Int)).isNil then l ++ hdrL (0 : Int) ep_1 fi_1 (↑ps_1.length : Int) (↑ss_1.length : Int) (↑rs_1.length : Int) (↑ac_1.length : Int) else l)]) := by kernel_rfl
theorem ok_en1 : FunF B 58 2 en1S := by
 refine funF_of (N := 10) (f := ff_en1) env_EN1 mixed fn_en1 (by kernel_rfl) (by kernel_rfl) ?_
 intro A k ys L hA hF
 obtain ⟨ep, fi, ps, ss, rs, ac, rfl, rfl, hp, hk⟩ := en1S_inv hF; clear hF
 refine ⟨by kernel_rfl, (hA.nf (nf_en1 A k ep fi ps ss rs ac) ?_)⟩
 exact ⟨ep, fi, ps, ss, rs, ac, rfl, [], rfl, ⟨⟨by decide, by decide, hp.1, hp.2⟩, by decide⟩, hk⟩
def en2S : List PV -> Heap Kd -> (List PV -> Heap Kd -> Prop) -> Prop := fun ys L k => match ys, L with
 | [.ptr 0 0, .ptr 1 0], [.box [.own 2], .box mm, .row 5 l] => ∃ (ep fi : Int) (ps : List Prt) (ss : List Sch) (rs : List Pr) (ac : List Act3), mm = [.int .u64 ep, .int .i64 fi, .sl _ e_api_Partition ps, .sl _ e_api_Schedule ss, .sl _ e_api_Pair rs, .sl _ e_api_Act ac] /\ (l.length < 1000000 /\ ps.length < 100000 /\ (∀ x, x ∈ ps -> ∀ c, c ∈ x.2.2.2 -> OkC c)) /\ k [.own 3, .err (prtsE none 0 ps)] [.box [.own 2], .box [.int .u64 ep, .int .i64 fi, .sl _ e_api_Partition ps, .sl _ e_api_Schedule ss, .sl _ e_api_Pair rs, .sl _ e_api_Act ac], .gone, .row 5 (outP l (prtsE none 0 ps) l (prtsB ps))]
 | _, _ => False
theorem en2S_inv {ys : List PV} {L : Heap Kd} {k : List PV -> Heap Kd -> Prop} (h : en2S ys L k) : ∃ (ep fi : Int) (ps : List Prt) (ss : List Sch) (rs : List Pr) (ac : List Act3) (l : List UInt8), ys = [.ptr 0 0, .ptr 1 0] /\ L = [.box [.own 2], .box [.int .u64 ep, .int .i64 fi, .sl _ e_api_Partition ps, .sl _ e_api_Schedule ss, .sl _ e_api_Pair rs, .sl _ e_api_Act ac], .row 5 l] /\ (l.length < 1000000 /\ ps.length < 100000 /\ (∀ x, x ∈ ps -> ∀ c, c ∈ x.2.2.2 -> OkC c)) /\ k [.own 3, .err (prtsE none 0 ps)] [.box [.own 2], .box [.int .u64 ep, .int .i64 fi, .sl _ e_api_Partition ps, .sl _ e_api_Schedule ss, .sl _ e_api_Pair rs, .sl _ e_api_Act ac], .gone, .row 5 (outP l (prtsE none 0 ps) l (prtsB ps))] := by
 unfold en2S at h
 split at h
 ·obtain ⟨ep, fi, ps, ss, rs, ac, rfl, h⟩ := h
  exact ⟨ep, fi, ps, ss, rs, ac, _, rfl, rfl, h⟩
 ·exact h.elim
theorem fn_en2 : FnOk Tryz.prog 61 Tryz.f61 (bodyOf Tryz.f61) := ⟨by kernel_rfl, by kernel_rfl, by kernel_rfl⟩
noncomputable def ff_en2 : Fun := ⟨Tryz.f61.ntmps, 3, Tryz.f61.results.toList, fun _ => none, fun _ => false, fun _ => []⟩
theorem nf_en2 (A : KA Kd) (k : List PV -> Heap Kd -> Prop) (ep fi : Int) (ps : List Prt) (ss : List Sch) (rs : List Pr) (ac : List Act3) (l : List UInt8) : evT EN1 ff_en2 A k 400 false [.code (bodyOf Tryz.f61)] (startEnv 10 [.ptr 0 0, .ptr 1 0]) [.box [.own 2], .box [.int .u64 ep, .int .i64 fi, .sl _ e_api_Partition ps, .sl _ e_api_Schedule ss, .sl _ e_api_Pair rs, .sl _ e_api_Act ac], .row 5 l] = (∃ (b : List UInt8), ∃ (l_1 : List Prt), PV.sl UInt8 e_uint8 l = PV.sl UInt8 e_uint8 b /\ PV.sl (Int × ByteArray × Bool × List (Int × Bool)) e_api_Partition ps = PV.sl (Int × ByteArray × Bool × List (Int × Bool)) e_api_Partition l_1 /\ (b.length < 1000000 /\ l_1.length < 100000 /\ ∀ (x : Prt), x ∈ l_1 -> ∀ (c : Cl), c ∈ x.snd.snd.snd -> 0 <= c.fst /\ c.fst < 4294967296) /\ k [.own 3, .err (prtsE none (0 : Nat) l_1)] [.box [.own 2], .box [.int .u64 ep, .int .i64 fi, .sl (Int × ByteArray × Bool × List (Int × Bool)) e_api_Partition ps, .sl (Int × Int × List (Int × Int × Int) × List (Int × Int × Int)) e_api_Schedule ss, .sl (Int × Int) e_api_Pair rs, .sl (Int × Int × Int) e_api_Act ac], AObj.gone, .row 5 (outP b (prtsE none (0 : Nat) l_1) b (prtsB l_1))]) := by kernel_rfl
theorem ok_en2 : FunF B 61 3 en2S := by
 refine funF_of (N := 10) (f := ff_en2) env_EN1 mixed fn_en2 (by kernel_rfl) (by kernel_rfl) ?_
 intro A k ys L hA hF
 obtain ⟨ep, fi, ps, ss, rs, ac, l, rfl, rfl, hp, hk⟩ := en2S_inv hF; clear hF
 refine ⟨by kernel_rfl, (hA.nf (nf_en2 A k ep fi ps ss rs ac l) ?_)⟩
 exact ⟨l, ps, rfl, rfl, hp, hk⟩
def en3S : List PV -> Heap Kd -> (List PV -> Heap Kd -> Prop) -> Prop := fun ys L k => match ys, L with
 | [.ptr 0 0, .ptr 1 0], [.box [.own 2], .box mm, .row 5 l] => ∃ (ep fi : Int) (ps : List Prt) (ss : List Sch) (rs : List Pr) (ac : List Act3), mm = [.int .u64 ep, .int .i64 fi, .sl _ e_api_Partition ps, .sl _ e_api_Schedule ss, .sl _ e_api_Pair rs, .sl _ e_api_Act ac] /\ (l.length < 1000000 /\ ss.length < 100000 /\ (∀ x, x ∈ ss -> x.2.2.1.length < 9223372036854775808 /\ x.2.2.2.length < 9223372036854775808)) /\ k [.own 3, .err (schsE none 0 ss)] [.box [.own 2], .box [.int .u64 ep, .int .i64 fi, .sl _ e_api_Partition ps, .sl _ e_api_Schedule ss, .sl _ e_api_Pair rs, .sl _ e_api_Act ac], .gone, .row 5 (outP l (schsE none 0 ss) l (schsB ss))]
 | _, _ => False
theorem en3S_inv {ys : List PV} {L : Heap Kd} {k : List PV -> Heap Kd -> Prop} (h : en3S ys L k) : ∃ (ep fi : Int) (ps : List Prt) (ss : List Sch) (rs : List Pr) (ac : List Act3) (l : List UInt8), ys = [.ptr 0 0, .ptr 1 0] /\ L = [.box [.own 2], .box [.int .u64 ep, .int .i64 fi, .sl _ e_api_Partition ps, .sl _ e_api_Schedule ss, .sl _ e_api_Pair rs, .sl _ e_api_Act ac], .row 5 l] /\ (l.length < 1000000 /\ ss.length < 100000 /\ (∀ x, x ∈ ss -> x.2.2.1.length < 9223372036854775808 /\ x.2.2.2.length < 9223372036854775808)) /\ k [.own 3, .err (schsE none 0 ss)] [.box [.own 2], .box [.int .u64 ep, .int .i64 fi, .sl _ e_api_Partition ps, .sl _ e_api_Schedule ss, .sl _ e_api_Pair rs, .sl _ e_api_Act ac], .gone, .row 5 (outP l (schsE none 0 ss) l (schsB ss))] := by
 unfold en3S at h
 split at h
 ·obtain ⟨ep, fi, ps, ss, rs, ac, rfl, h⟩ := h
  exact ⟨ep, fi, ps, ss, rs, ac, _, rfl, rfl, h⟩
 ·exact h.elim
theorem fn_en3 : FnOk Tryz.prog 63 Tryz.f63 (bodyOf Tryz.f63) := ⟨by kernel_rfl, by kernel_rfl, by kernel_rfl⟩
noncomputable def ff_en3 : Fun := ⟨Tryz.f63.ntmps, 3, Tryz.f63.results.toList, fun _ => none, fun _ => false, fun _ => []⟩
theorem nf_en3 (A : KA Kd) (k : List PV -> Heap Kd -> Prop) (ep fi : Int) (ps : List Prt) (ss : List Sch) (rs : List Pr) (ac : List Act3) (l : List UInt8) : evT EN1 ff_en3 A k 400 false [.code (bodyOf Tryz.f63)] (startEnv 10 [.ptr 0 0, .ptr 1 0]) [.box [.own 2], .box [.int .u64 ep, .int .i64 fi, .sl _ e_api_Partition ps, .sl _ e_api_Schedule ss, .sl _ e_api_Pair rs, .sl _ e_api_Act ac], .row 5 l] = (∃ (b : List UInt8), ∃ (l_1 : List Sch), PV.sl UInt8 e_uint8 l = PV.sl UInt8 e_uint8 b /\ PV.sl (Int × Int × List (Int × Int × Int) × List (Int × Int × Int)) e_api_Schedule ss = PV.sl (Int × Int × List (Int × Int × Int) × List (Int × Int × Int)) e_api_Schedule l_1 /\ (b.length < 1000000 /\ l_1.length < 100000 /\ ∀ (x : Sch), x ∈ l_1 -> x.snd.snd.fst.length < 9223372036854775808 /\ x.snd.snd.snd.length < 9223372036854775808) /\ k [.own 3, .err (schsE none (0 : Nat) l_1)] [.box [.own 2], .box [.int .u64 ep, .int .i64 fi, .sl (Int × ByteArray × Bool × List (Int × Bool)) e_api_Partition ps, .sl (Int × Int × List (Int × Int × Int) × List (Int × Int × Int)) e_api_Schedule ss, .sl (Int × Int) e_api_Pair rs, .sl (Int × Int × Int) e_api_Act ac], AObj.gone, .row 5 (outS b (schsE none (0 : Nat) l_1) b (schsB l_1))]) := by kernel_rfl
theorem ok_en3 : FunF B 63 3 en3S := by
 refine funF_of (N := 10) (f := ff_en3) env_EN1 mixed fn_en3 (by kernel_rfl) (by kernel_rfl) ?_
 intro A k ys L hA hF
 obtain ⟨ep, fi, ps, ss, rs, ac, l, rfl, rfl, hp, hk⟩ := en3S_inv hF; clear hF
 refine ⟨by kernel_rfl, (hA.nf (nf_en3 A k ep fi ps ss rs ac l) ?_)⟩
 exact ⟨l, ss, rfl, rfl, hp, hk⟩
def en4S : List PV -> Heap Kd -> (List PV -> Heap Kd -> Prop) -> Prop := fun ys L k => match ys, L with
 | [.ptr 0 0, .ptr 1 0], [.box [.own 2], .box mm, .row 5 l] => ∃ (ep fi : Int) (ps : List Prt) (ss : List Sch) (rs : List Pr) (ac : List Act3), mm = [.int .u64 ep, .int .i64 fi, .sl _ e_api_Partition ps, .sl _ e_api_Schedule ss, .sl _ e_api_Pair rs, .sl _ e_api_Act ac] /\ (l.length < 1000000 /\ rs.length < 100000) /\ k [.own 3, .err (prsE none 0 rs)] [.box [.own 2], .box [.int .u64 ep, .int .i64 fi, .sl _ e_api_Partition ps, .sl _ e_api_Schedule ss, .sl _ e_api_Pair rs, .sl _ e_api_Act ac], .gone, .row 5 (outP l (prsE none 0 rs) l (pairsB rs))]
 | _, _ => False
theorem en4S_inv {ys : List PV} {L : Heap Kd} {k : List PV -> Heap Kd -> Prop} (h : en4S ys L k) : ∃ (ep fi : Int) (ps : List Prt) (ss : List Sch) (rs : List Pr) (ac : List Act3) (l : List UInt8), ys = [.ptr 0 0, .ptr 1 0] /\ L = [.box [.own 2], .box [.int .u64 ep, .int .i64 fi, .sl _ e_api_Partition ps, .sl _ e_api_Schedule ss, .sl _ e_api_Pair rs, .sl _ e_api_Act ac], .row 5 l] /\ (l.length < 1000000 /\ rs.length < 100000) /\ k [.own 3, .err (prsE none 0 rs)] [.box [.own 2], .box [.int .u64 ep, .int .i64 fi, .sl _ e_api_Partition ps, .sl _ e_api_Schedule ss, .sl _ e_api_Pair rs, .sl _ e_api_Act ac], .gone, .row 5 (outP l (prsE none 0 rs) l (pairsB rs))] := by
 unfold en4S at h
 split at h
 ·obtain ⟨ep, fi, ps, ss, rs, ac, rfl, h⟩ := h
  exact ⟨ep, fi, ps, ss, rs, ac, _, rfl, rfl, h⟩
 ·exact h.elim
theorem fn_en4 : FnOk Tryz.prog 65 Tryz.f65 (bodyOf Tryz.f65) := ⟨by kernel_rfl, by kernel_rfl, by kernel_rfl⟩
noncomputable def ff_en4 : Fun := ⟨Tryz.f65.ntmps, 3, Tryz.f65.results.toList, fun _ => none, fun _ => false, fun _ => []⟩
theorem nf_en4 (A : KA Kd) (k : List PV -> Heap Kd -> Prop) (ep fi : Int) (ps : List Prt) (ss : List Sch) (rs : List Pr) (ac : List Act3) (l : List UInt8) : evT EN1 ff_en4 A k 400 false [.code (bodyOf Tryz.f65)] (startEnv 10 [.ptr 0 0, .ptr 1 0]) [.box [.own 2], .box [.int .u64 ep, .int .i64 fi, .sl _ e_api_Partition ps, .sl _ e_api_Schedule ss, .sl _ e_api_Pair rs, .sl _ e_api_Act ac], .row 5 l] = (∃ (b : List UInt8), ∃ (l_1 : List Pr), PV.sl UInt8 e_uint8 l = PV.sl UInt8 e_uint8 b /\ PV.sl (Int × Int) e_api_Pair rs = PV.sl (Int × Int) e_api_Pair l_1 /\ (b.length < 1000000 /\ l_1.length < 100000) /\ k [.own 3, .err (prsE none (0 : Nat) l_1)] [.box [.own 2], .box [.int .u64 ep, .int .i64 fi, .sl (Int × ByteArray × Bool × List (Int × Bool)) e_api_Partition ps, .sl (Int × Int × List (Int × Int × Int) × List (Int × Int × Int)) e_api_Schedule ss, .sl (Int × Int) e_api_Pair rs, .sl (Int × Int × Int) e_api_Act ac], AObj.gone, .row 5 (outP b (prsE none (0 : Nat) l_1) b (pairsB l_1))]) := by kernel_rfl
theorem ok_en4 : FunF B 65 3 en4S := by
 refine funF_of (N := 10) (f := ff_en4) env_EN1 mixed fn_en4 (by kernel_rfl) (by kernel_rfl) ?_
 intro A k ys L hA hF
 obtain ⟨ep, fi, ps, ss, rs, ac, l, rfl, rfl, hp, hk⟩ := en4S_inv hF; clear hF
 refine ⟨by kernel_rfl, (hA.nf (nf_en4 A k ep fi ps ss rs ac l) ?_)⟩
 exact ⟨l, rs, rfl, rfl, hp, hk⟩
def en5S : List PV -> Heap Kd -> (List PV -> Heap Kd -> Prop) -> Prop := fun ys L k => match ys, L with
 | [.ptr 0 0, .ptr 1 0], [.box [.own 2], .box mm, .row 5 l] => ∃ (ep fi : Int) (ps : List Prt) (ss : List Sch) (rs : List Pr) (ac : List Act3), mm = [.int .u64 ep, .int .i64 fi, .sl _ e_api_Partition ps, .sl _ e_api_Schedule ss, .sl _ e_api_Pair rs, .sl _ e_api_Act ac] /\ (l.length < 1000000 /\ ac.length < 100000) /\ k [.own 3, .err (actsE none 0 ac)] [.box [.own 2], .box [.int .u64 ep, .int .i64 fi, .sl _ e_api_Partition ps, .sl _ e_api_Schedule ss, .sl _ e_api_Pair rs, .sl _ e_api_Act ac], .gone, .row 5 (outP l (actsE none 0 ac) l (actsB ac))]
 | _, _ => False
theorem en5S_inv {ys : List PV} {L : Heap Kd} {k : List PV -> Heap Kd -> Prop} (h : en5S ys L k) : ∃ (ep fi : Int) (ps : List Prt) (ss : List Sch) (rs : List Pr) (ac : List Act3) (l : List UInt8), ys = [.ptr 0 0, .ptr 1 0] /\ L = [.box [.own 2], .box [.int .u64 ep, .int .i64 fi, .sl _ e_api_Partition ps, .sl _ e_api_Schedule ss, .sl _ e_api_Pair rs, .sl _ e_api_Act ac], .row 5 l] /\ (l.length < 1000000 /\ ac.length < 100000) /\ k [.own 3, .err (actsE none 0 ac)] [.box [.own 2], .box [.int .u64 ep, .int .i64 fi, .sl _ e_api_Partition ps, .sl _ e_api_Schedule ss, .sl _ e_api_Pair rs, .sl _ e_api_Act ac], .gone, .row 5 (outP l (actsE none 0 ac) l (actsB ac))] := by
 unfold en5S at h
 split at h
 ·obtain ⟨ep, fi, ps, ss, rs, ac, rfl, h⟩ := h
  exact ⟨ep, fi, ps, ss, rs, ac, _, rfl, rfl, h⟩
 ·exact h.elim
theorem fn_en5 : FnOk Tryz.prog 67 Tryz.f67 (bodyOf Tryz.f67) := ⟨by kernel_rfl, by kernel_rfl, by kernel_rfl⟩
noncomputable def ff_en5 : Fun := ⟨Tryz.f67.ntmps, 3, Tryz.f67.results.toList, fun _ => none, fun _ => false, fun _ => []⟩
theorem nf_en5 (A : KA Kd) (k : List PV -> Heap Kd -> Prop) (ep fi : Int) (ps : List Prt) (ss : List Sch) (rs : List Pr) (ac : List Act3) (l : List UInt8) : evT EN1 ff_en5 A k 400 false [.code (bodyOf Tryz.f67)] (startEnv 10 [.ptr 0 0, .ptr 1 0]) [.box [.own 2], .box [.int .u64 ep, .int .i64 fi, .sl _ e_api_Partition ps, .sl _ e_api_Schedule ss, .sl _ e_api_Pair rs, .sl _ e_api_Act ac], .row 5 l] = (∃ (b : List UInt8), ∃ (l_1 : List Act3), PV.sl UInt8 e_uint8 l = PV.sl UInt8 e_uint8 b /\ PV.sl (Int × Int × Int) e_api_Act ac = PV.sl (Int × Int × Int) e_api_Act l_1 /\ (b.length < 1000000 /\ l_1.length < 100000) /\ k [.own 3, .err (actsE none (0 : Nat) l_1)] [.box [.own 2], .box [.int .u64 ep, .int .i64 fi, .sl (Int × ByteArray × Bool × List (Int × Bool)) e_api_Partition ps, .sl (Int × Int × List (Int × Int × Int) × List (Int × Int × Int)) e_api_Schedule ss, .sl (Int × Int) e_api_Pair rs, .sl (Int × Int × Int) e_api_Act ac], AObj.gone, .row 5 (outP b (actsE none (0 : Nat) l_1) b (actsB l_1))]) := by kernel_rfl
theorem ok_en5 : FunF B 67 3 en5S := by
 refine funF_of (N := 10) (f := ff_en5) env_EN1 mixed fn_en5 (by kernel_rfl) (by kernel_rfl) ?_
 intro A k ys L hA hF
 obtain ⟨ep, fi, ps, ss, rs, ac, l, rfl, rfl, hp, hk⟩ := en5S_inv hF; clear hF
 refine ⟨by kernel_rfl, (hA.nf (nf_en5 A k ep fi ps ss rs ac l) ?_)⟩
 exact ⟨l, ac, rfl, rfl, hp, hk⟩
noncomputable def EN2 := base (fun g => match g with | 58 => some (lift 2 en1S) | 61 => some (lift 3 en2S) | 63 => some (lift 3 en3S) | 65 => some (lift 3 en4S) | 67 => some (lift 3 en5S) | _ => none) (fun g => match g with | 13 => some sealS | _ => none) (fun _ => none)
theorem env_EN2 : EnvOk EN2 := env_of (by
 intro g F h
 split at h
 ·cases h; exact ok_seal
 ·cases h) (by
 intro g F h
 split at h
 ·cases h; exact (lift_ok ok_en1)
 ·cases h; exact (lift_ok ok_en2)
 ·cases h; exact (lift_ok ok_en3)
 ·cases h; exact (lift_ok ok_en4)
 ·cases h; exact (lift_ok ok_en5)
 ·cases h) (fun g F h => (by cases h))
theorem fn_enc : FnOk Tryz.prog 16 Tryz.f16 (bodyOf Tryz.f16) := ⟨by kernel_rfl, by kernel_rfl, by kernel_rfl⟩
noncomputable def ff_enc : Fun := ⟨Tryz.f16.ntmps, 0, Tryz.f16.results.toList, fun i => match i with | 3 => some [4, 14, 15, 16] | _ => none, fun _ => false, fun _ => []⟩
theorem nf_enc_a (A : KA Kd) (k : List PV -> Heap Kd -> Prop) (ep fi : Int) (ps : List Prt) (ss : List Sch) (rs : List Pr) (ac : List Act3) : evT EN2 ff_enc A k 400 false [.code (bodyOf Tryz.f16)] (startEnv 34 [.agg [.int .u64 ep, .int .i64 fi, .sl _ e_api_Partition ps, .sl _ e_api_Schedule ss, .sl _ e_api_Pair rs, .sl _ e_api_Act ac]]) [] = A (td Tryz.f16 3) (envAt 34 [(4, .ptr 0 0), (14, .fsl [.fn (.func 58) [] [.ptr 0 0, .ptr 1 0], .fn (.func 61) [] [.ptr 0 0, .ptr 1 0], .fn (.func 63) [] [.ptr 0 0, .ptr 1 0], .fn (.func 65) [] [.ptr 0 0, .ptr 1 0], .fn (.func 67) [] [.ptr 0 0, .ptr 1 0]]), (15, .int .i64 5), (16, .int .i64 0)]) [.box [.raw nilSlice], .box [.int .u64 ep, .int .i64 fi, .sl _ e_api_Partition ps, .sl _ e_api_Schedule ss, .sl _ e_api_Pair rs, .sl _ e_api_Act ac]] := by kernel_rfl
theorem nf_enc_0 (A : KA Kd) (k : List PV -> Heap Kd -> Prop) (ep fi : Int) (ps : List Prt) (ss : List Sch) (rs : List Pr) (ac : List Act3) : evT EN2 ff_enc A k 400 true (td Tryz.f16 3) (envAt 34 [(4, .ptr 0 0), (14, .fsl [.fn (.func 58) [] [.ptr 0 0, .ptr 1 0], .fn (.func 61) [] [.ptr 0 0, .ptr 1 0], .fn (.func 63) [] [.ptr 0 0, .ptr 1 0], .fn (.func 65) [] [.ptr 0 0, .ptr 1 0], .fn (.func 67) [] [.ptr 0 0, .ptr 1 0]]), (15, .int .i64 5), (16, .int .i64 0)]) [.box [.raw nilSlice], .box [.int .u64 ep, .int .i64 fi, .sl _ e_api_Partition ps, .sl _ e_api_Schedule ss, .sl _ e_api_Pair rs, .sl _ e_api_Act ac]] = (((0 : Int) <= (0 : Int) /\ 0 < (↑[PV.fn (Fn.func (58 : FuncId)) [] [PV.ptr 0 0, PV.ptr 1 0], PV.fn (Fn.func (61 : FuncId)) [] [PV.ptr 0 0, PV.ptr 1 0], PV.fn (Fn.func (63 : FuncId)) [] [PV.ptr 0 0, PV.ptr 1 0], PV.fn (Fn.func (65 : FuncId)) [] [PV.ptr 0 0, PV.ptr 1 0], PV.fn (Fn.func (67 : FuncId)) [] [PV.ptr 0 0, PV.ptr 1 0]].length : Int)) /\ ∃ (ep_1 : Int), ∃ (fi_1 : Int), ∃ (ps_1 : List Prt), ∃ (ss_1 : List Sch), ∃ (rs_1 : List Pr), ∃ (ac_1 : List Act3), nilSlice = nilSlice /\ [PV.int IntKind.u64 ep, PV.int IntKind.i64 fi, PV.sl (Int × ByteArray × Bool × List (Int × Bool)) e_api_Partition ps, PV.sl (Int × Int × List (Int × Int × Int) × List (Int × Int × Int)) e_api_Schedule ss, PV.sl (Int × Int) e_api_Pair rs, PV.sl (Int × Int × Int) e_api_Act ac] = [PV.int IntKind.u64 ep_1, PV.int IntKind.i64 fi_1, PV.sl (Int × ByteArray × Bool × List (Int × Bool)) e_api_Partition ps_1, PV.sl (Int × Int × List (Int × Int × Int) × List (Int × Int × Int)) e_api_Schedule ss_1, PV.sl (Int × Int) e_api_Pair rs_1, PV.sl (Int × Int × Int) e_api_Act ac_1] /\ (0 <= ep_1 /\ ep_1 < 18446744073709551616) /\ bif !(hdrE fi_1 (↑ps_1.length : Int) (↑ss_1.length : Int) (↑rs_1.length : Int) (↑ac_1.length : Int)).isNil then k [.str ⟨#[]⟩, .err (hdrE fi_1 (↑ps_1.length : Int) (↑ss_1.length : Int) (↑rs_1.length : Int) (↑ac_1.length : Int))] [] else A (td Tryz.f16 3) (envAt 34 [(4, .ptr 0 0), ((14 : Nat), PV.fsl [PV.fn (Fn.func (58 : FuncId)) [] [.ptr 0 0, .ptr 1 0], PV.fn (Fn.func (61 : FuncId)) [] [.ptr 0 0, .ptr 1 0], PV.fn (Fn.func (63 : FuncId)) [] [.ptr 0 0, .ptr 1 0], PV.fn (Fn.func (65 : FuncId)) [] [.ptr 0 0, .ptr 1 0], PV.fn (Fn.func (67 : FuncId)) [] [.ptr 0 0, .ptr 1 0]]), (15, .int .i64 5), (16, .int .i64 (IntKind.i64.wrap ((0 : Int) + (1 : Int))))]) [.box [.own 2], .box [.int .u64 ep_1, .int .i64 fi_1, .sl (Int × ByteArray × Bool × List (Int × Bool)) e_api_Partition ps_1, .sl (Int × Int × List (Int × Int × Int) × List (Int × Int × Int)) e_api_Schedule ss_1, .sl (Int × Int) e_api_Pair rs_1, .sl (Int × Int × Int) e_api_Act ac_1], .row 5 (outP [] (hdrE fi_1 (↑ps_1.length : Int) (↑ss_1.length : Int) (↑rs_1.length : Int) (↑ac_1.length : Int)) [] (hdrL (0 : Int) ep_1 fi_1 (↑ps_1.length : Int) (↑ss_1.length : Int) (↑rs_1.length : Int) (↑ac_1.length : Int)))]) := by kernel_rfl
theorem nf_enc_1 (A : KA Kd) (k : List PV -> Heap Kd -> Prop) (ep fi : Int) (ps : List Prt) (ss : List Sch) (rs : List Pr) (ac : List Act3) (l : List UInt8) : evT EN2 ff_enc A k 400 true (td Tryz.f16 3) (envAt 34 [(4, .ptr 0 0), (14, .fsl [.fn (.func 58) [] [.ptr 0 0, .ptr 1 0], .fn (.func 61) [] [.ptr 0 0, .ptr 1 0], .fn (.func 63) [] [.ptr 0 0, .ptr 1 0], .fn (.func 65) [] [.ptr 0 0, .ptr 1 0], .fn (.func 67) [] [.ptr 0 0, .ptr 1 0]]), (15, .int .i64 5), (16, .int .i64 1)]) [.box [.own 2], .box [.int .u64 ep, .int .i64 fi, .sl _ e_api_Partition ps, .sl _ e_api_Schedule ss, .sl _ e_api_Pair rs, .sl _ e_api_Act ac], .row 5 l] = (((0 : Int) <= (1 : Int) /\ 1 < (↑[PV.fn (Fn.func (58 : FuncId)) [] [PV.ptr 0 0, PV.ptr 1 0], PV.fn (Fn.func (61 : FuncId)) [] [PV.ptr 0 0, PV.ptr 1 0], PV.fn (Fn.func (63 : FuncId)) [] [PV.ptr 0 0, PV.ptr 1 0], PV.fn (Fn.func (65 : FuncId)) [] [PV.ptr 0 0, PV.ptr 1 0], PV.fn (Fn.func (67 : FuncId)) [] [PV.ptr 0 0, PV.ptr 1 0]].length : Int)) /\ ∃ (ep_1 : Int), ∃ (fi_1 : Int), ∃ (ps_1 : List Prt), ∃ (ss_1 : List Sch), ∃ (rs_1 : List Pr), ∃ (ac_1 : List Act3), [PV.int IntKind.u64 ep, PV.int IntKind.i64 fi, PV.sl (Int × ByteArray × Bool × List (Int × Bool)) e_api_Partition ps, PV.sl (Int × Int × List (Int × Int × Int) × List (Int × Int × Int)) e_api_Schedule ss, PV.sl (Int × Int) e_api_Pair rs, PV.sl (Int × Int × Int) e_api_Act ac] = [PV.int IntKind.u64 ep_1, PV.int IntKind.i64 fi_1, PV.sl (Int × ByteArray × Bool × List (Int × Bool)) e_api_Partition ps_1, PV.sl (Int × Int × List (Int × Int × Int) × List (Int × Int × Int)) e_api_Schedule ss_1, PV.sl (Int × Int) e_api_Pair rs_1, PV.sl (Int × Int × Int) e_api_Act ac_1] /\ (l.length < 1000000 /\ ps_1.length < 100000 /\ ∀ (x : Prt), x ∈ ps_1 -> ∀ (c : Cl), c ∈ x.snd.snd.snd -> 0 <= c.fst /\ c.fst < 4294967296) /\ bif !(prtsE none (0 : Nat) ps_1).isNil then k [.str ⟨#[]⟩, .err (prtsE none (0 : Nat) ps_1)] [] else A (td Tryz.f16 3) (envAt 34 [(4, .ptr 0 0), ((14 : Nat), PV.fsl [PV.fn (Fn.func (58 : FuncId)) [] [.ptr 0 0, .ptr 1 0], PV.fn (Fn.func (61 : FuncId)) [] [.ptr 0 0, .ptr 1 0], PV.fn (Fn.func (63 : FuncId)) [] [.ptr 0 0, .ptr 1 0], PV.fn (Fn.func (65 : FuncId)) [] [.ptr 0 0, .ptr 1 0], PV.fn (Fn.func (67 : FuncId)) [] [.ptr 0 0, .ptr 1 0]]), (15, .int .i64 5), (16, .int .i64 (IntKind.i64.wrap ((1 : Int) + (1 : Int))))]) [.box [.own 2], .box [.int .u64 ep_1, .int .i64 fi_1, .sl (Int × ByteArray × Bool × List (Int × Bool)) e_api_Partition ps_1, .sl (Int × Int × List (Int × Int × Int) × List (Int × Int × Int)) e_api_Schedule ss_1, .sl (Int × Int) e_api_Pair rs_1, .sl (Int × Int × Int) e_api_Act ac_1], .row 5 (outP l (prtsE none (0 : Nat) ps_1) l (prtsB ps_1))]) := by kernel_rfl
theorem nf_enc_2 (A : KA Kd) (k : List PV -> Heap Kd -> Prop) (ep fi : Int) (ps : List Prt) (ss : List Sch) (rs : List Pr) (ac : List Act3) (l : List UInt8) : evT EN2 ff_enc A k 400 true (td Tryz.f16 3) (envAt 34 [(4, .ptr 0 0), (14, .fsl [.fn (.func 58) [] [.ptr 0 0, .ptr 1 0], .fn (.func 61) [] [.ptr 0 0, .ptr 1 0], .fn (.func 63) [] [.ptr 0 0, .ptr 1 0], .fn (.func 65) [] [.ptr 0 0, .ptr 1 0], .fn (.func 67) [] [.ptr 0 0, .ptr 1 0]]), (15, .int .i64 5), (16, .int .i64 2)]) [.box [.own 2], .box [.int .u64 ep, .int .i64 fi, .sl _ e_api_Partition ps, .sl _ e_api_Schedule ss, .sl _ e_api_Pair rs, .sl _ e_api_Act ac], .row 5 l] = (((0 : Int) <= (2 : Int) /\ 2 < (↑[PV.fn (Fn.func (58 : FuncId)) [] [PV.ptr 0 0, PV.ptr 1 0], PV.fn (Fn.func (61 : FuncId)) [] [PV.ptr 0 0, PV.ptr 1 0], PV.fn (Fn.func (63 : FuncId)) [] [PV.ptr 0 0, PV.ptr 1 0], PV.fn (Fn.func (65 : FuncId)) [] [PV.ptr 0 0, PV.ptr 1 0], PV.fn (Fn.func (67 : FuncId)) [] [PV.ptr 0 0, PV.ptr 1 0]].length : Int)) /\ ∃ (ep_1 : Int), ∃ (fi_1 : Int), ∃ (ps_1 : List Prt), ∃ (ss_1 : List Sch), ∃ (rs_1 : List Pr), ∃ (ac_1 : List Act3), [PV.int IntKind.u64 ep, PV.int IntKind.i64 fi, PV.sl (Int × ByteArray × Bool × List (Int × Bool)) e_api_Partition ps, PV.sl (Int × Int × List (Int × Int × Int) × List (Int × Int × Int)) e_api_Schedule ss, PV.sl (Int × Int) e_api_Pair rs, PV.sl (Int × Int × Int) e_api_Act ac] = [PV.int IntKind.u64 ep_1, PV.int IntKind.i64 fi_1, PV.sl (Int × ByteArray × Bool × List (Int × Bool)) e_api_Partition ps_1, PV.sl (Int × Int × List (Int × Int × Int) × List (Int × Int × Int)) e_api_Schedule ss_1, PV.sl (Int × Int) e_api_Pair rs_1, PV.sl (Int × Int × Int) e_api_Act ac_1] /\ (l.length < 1000000 /\ ss_1.length < 100000 /\ ∀ (x : Sch), x ∈ ss_1 -> x.snd.snd.fst.length < 9223372036854775808 /\ x.snd.snd.snd.length < 9223372036854775808) /\ bif !(schsE none (0 : Nat) ss_1).isNil then k [.str ⟨#[]⟩, .err (schsE none (0 : Nat) ss_1)] [] else A (td Tryz.f16 3) (envAt 34 [(4, .ptr 0 0), ((14 : Nat), PV.fsl [PV.fn (Fn.func (58 : FuncId)) [] [.ptr 0 0, .ptr 1 0], PV.fn (Fn.func (61 : FuncId)) [] [.ptr 0 0, .ptr 1 0], PV.fn (Fn.func (63 : FuncId)) [] [.ptr 0 0, .ptr 1 0], PV.fn (Fn.func (65 : FuncId)) [] [.ptr 0 0, .ptr 1 0], PV.fn (Fn.func (67 : FuncId)) [] [.ptr 0 0, .ptr 1 0]]), (15, .int .i64 5), (16, .int .i64 (IntKind.i64.wrap ((2 : Int) + (1 : Int))))]) [.box [.own 2], .box [.int .u64 ep_1, .int .i64 fi_1, .sl (Int × ByteArray × Bool × List (Int × Bool)) e_api_Partition ps_1, .sl (Int × Int × List (Int × Int × Int) × List (Int × Int × Int)) e_api_Schedule ss_1, .sl (Int × Int) e_api_Pair rs_1, .sl (Int × Int × Int) e_api_Act ac_1], .row 5 (outP l (schsE none (0 : Nat) ss_1) l (schsB ss_1))]) := by kernel_rfl
theorem nf_enc_3 (A : KA Kd) (k : List PV -> Heap Kd -> Prop) (ep fi : Int) (ps : List Prt) (ss : List Sch) (rs : List Pr) (ac : List Act3) (l : List UInt8) : evT EN2 ff_enc A k 400 true (td Tryz.f16 3) (envAt 34 [(4, .ptr 0 0), (14, .fsl [.fn (.func 58) [] [.ptr 0 0, .ptr 1 0], .fn (.func 61) [] [.ptr 0 0, .ptr 1 0], .fn (.func 63) [] [.ptr 0 0, .ptr 1 0], .fn (.func 65) [] [.ptr 0 0, .ptr 1 0], .fn (.func 67) [] [.ptr 0 0, .ptr 1 0]]), (15, .int .i64 5), (16, .int .i64 3)]) [.box [.own 2], .box [.int .u64 ep, .int .i64 fi, .sl _ e_api_Partition ps, .sl _ e_api_Schedule ss, .sl _ e_api_Pair rs, .sl _ e_api_Act ac], .row 5 l] = (((0 : Int) <= (3 : Int) /\ 3 < (↑[PV.fn (Fn.func (58 : FuncId)) [] [PV.ptr 0 0, PV.ptr 1 0], PV.fn (Fn.func (61 : FuncId)) [] [PV.ptr 0 0, PV.ptr 1 0], PV.fn (Fn.func (63 : FuncId)) [] [PV.ptr 0 0, PV.ptr 1 0], PV.fn (Fn.func (65 : FuncId)) [] [PV.ptr 0 0, PV.ptr 1 0], PV.fn (Fn.func (67 : FuncId)) [] [PV.ptr 0 0, PV.ptr 1 0]].length : Int)) /\ ∃ (ep_1 : Int), ∃ (fi_1 : Int), ∃ (ps_1 : List Prt), ∃ (ss_1 : List Sch), ∃ (rs_1 : List Pr), ∃ (ac_1 : List Act3), [PV.int IntKind.u64 ep, PV.int IntKind.i64 fi, PV.sl (Int × ByteArray × Bool × List (Int × Bool)) e_api_Partition ps, PV.sl (Int × Int × List (Int × Int × Int) × List (Int × Int × Int)) e_api_Schedule ss, PV.sl (Int × Int) e_api_Pair rs, PV.sl (Int × Int × Int) e_api_Act ac] = [PV.int IntKind.u64 ep_1, PV.int IntKind.i64 fi_1, PV.sl (Int × ByteArray × Bool × List (Int × Bool)) e_api_Partition ps_1, PV.sl (Int × Int × List (Int × Int × Int) × List (Int × Int × Int)) e_api_Schedule ss_1, PV.sl (Int × Int) e_api_Pair rs_1, PV.sl (Int × Int × Int) e_api_Act ac_1] /\ (l.length < 1000000 /\ rs_1.length < 100000) /\ bif !(prsE none (0 : Nat) rs_1).isNil then k [.str ⟨#[]⟩, .err (prsE none (0 : Nat) rs_1)] [] else A (td Tryz.f16 3) (envAt 34 [(4, .ptr 0 0), ((14 : Nat), PV.fsl [PV.fn (Fn.func (58 : FuncId)) [] [.ptr 0 0, .ptr 1 0], PV.fn (Fn.func (61 : FuncId)) [] [.ptr 0 0, .ptr 1 0], PV.fn (Fn.func (63 : FuncId)) [] [.ptr 0 0, .ptr 1 0], PV.fn (Fn.func (65 : FuncId)) [] [.ptr 0 0, .ptr 1 0], PV.fn (Fn.func (67 : FuncId)) [] [.ptr 0 0, .ptr 1 0]]), (15, .int .i64 5), (16, .int .i64 (IntKind.i64.wrap ((3 : Int) + (1 : Int))))]) [.box [.own 2], .box [.int .u64 ep_1, .int .i64 fi_1, .sl (Int × ByteArray × Bool × List (Int × Bool)) e_api_Partition ps_1, .sl (Int × Int × List (Int × Int × Int) × List (Int × Int × Int)) e_api_Schedule ss_1, .sl (Int × Int) e_api_Pair rs_1, .sl (Int × Int × Int) e_api_Act ac_1], .row 5 (outP l (prsE none (0 : Nat) rs_1) l (pairsB rs_1))]) := by kernel_rfl
theorem nf_enc_4 (A : KA Kd) (k : List PV -> Heap Kd -> Prop) (ep fi : Int) (ps : List Prt) (ss : List Sch) (rs : List Pr) (ac : List Act3) (l : List UInt8) : evT EN2 ff_enc A k 400 true (td Tryz.f16 3) (envAt 34 [(4, .ptr 0 0), (14, .fsl [.fn (.func 58) [] [.ptr 0 0, .ptr 1 0], .fn (.func 61) [] [.ptr 0 0, .ptr 1 0], .fn (.func 63) [] [.ptr 0 0, .ptr 1 0], .fn (.func 65) [] [.ptr 0 0, .ptr 1 0], .fn (.func 67) [] [.ptr 0 0, .ptr 1 0]]), (15, .int .i64 5), (16, .int .i64 4)]) [.box [.own 2], .box [.int .u64 ep, .int .i64 fi, .sl _ e_api_Partition ps, .sl _ e_api_Schedule ss, .sl _ e_api_Pair rs, .sl _ e_api_Act ac], .row 5 l] = (((0 : Int) <= (4 : Int) /\ 4 < (↑[PV.fn (Fn.func (58 : FuncId)) [] [PV.ptr 0 0, PV.ptr 1 0], PV.fn (Fn.func (61 : FuncId)) [] [PV.ptr 0 0, PV.ptr 1 0], PV.fn (Fn.func (63 : FuncId)) [] [PV.ptr 0 0, PV.ptr 1 0], PV.fn (Fn.func (65 : FuncId)) [] [PV.ptr 0 0, PV.ptr 1 0], PV.fn (Fn.func (67 : FuncId)) [] [PV.ptr 0 0, PV.ptr 1 0]].length : Int)) /\ ∃ (ep_1 : Int), ∃ (fi_1 : Int), ∃ (ps_1 : List Prt), ∃ (ss_1 : List Sch), ∃ (rs_1 : List Pr), ∃ (ac_1 : List Act3), [PV.int IntKind.u64 ep, PV.int IntKind.i64 fi, PV.sl (Int × ByteArray × Bool × List (Int × Bool)) e_api_Partition ps, PV.sl (Int × Int × List (Int × Int × Int) × List (Int × Int × Int)) e_api_Schedule ss, PV.sl (Int × Int) e_api_Pair rs, PV.sl (Int × Int × Int) e_api_Act ac] = [PV.int IntKind.u64 ep_1, PV.int IntKind.i64 fi_1, PV.sl (Int × ByteArray × Bool × List (Int × Bool)) e_api_Partition ps_1, PV.sl (Int × Int × List (Int × Int × Int) × List (Int × Int × Int)) e_api_Schedule ss_1, PV.sl (Int × Int) e_api_Pair rs_1, PV.sl (Int × Int × Int) e_api_Act ac_1] /\ (l.length < 1000000 /\ ac_1.length < 100000) /\ bif !(actsE none (0 : Nat) ac_1).isNil then k [.str ⟨#[]⟩, .err (actsE none (0 : Nat) ac_1)] [] else A (td Tryz.f16 3) (envAt 34 [(4, .ptr 0 0), ((14 : Nat), PV.fsl [PV.fn (Fn.func (58 : FuncId)) [] [.ptr 0 0, .ptr 1 0], PV.fn (Fn.func (61 : FuncId)) [] [.ptr 0 0, .ptr 1 0], PV.fn (Fn.func (63 : FuncId)) [] [.ptr 0 0, .ptr 1 0], PV.fn (Fn.func (65 : FuncId)) [] [.ptr 0 0, .ptr 1 0], PV.fn (Fn.func (67 : FuncId)) [] [.ptr 0 0, .ptr 1 0]]), (15, .int .i64 5), (16, .int .i64 (IntKind.i64.wrap ((4 : Int) + (1 : Int))))]) [.box [.own 2], .box [.int .u64 ep_1, .int .i64 fi_1, .sl (Int × ByteArray × Bool × List (Int × Bool)) e_api_Partition ps_1, .sl (Int × Int × List (Int × Int × Int) × List (Int × Int × Int)) e_api_Schedule ss_1, .sl (Int × Int) e_api_Pair rs_1, .sl (Int × Int × Int) e_api_Act ac_1], .row 5 (outP l (actsE none (0 : Nat) ac_1) l (actsB ac_1))]) := by kernel_rfl
theorem nf_enc_5 (A : KA Kd) (k : List PV -> Heap Kd -> Prop) (ep fi : Int) (ps : List Prt) (ss : List Sch) (rs : List Pr) (ac : List Act3) (l : List UInt8) : evT EN2 ff_enc A k 400 true (td Tryz.f16 3) (envAt 34 [(4, .ptr 0 0), (14, .fsl [.fn (.func 58) [] [.ptr 0 0, .ptr 1 0], .fn (.func 61) [] [.ptr 0 0, .ptr 1 0], .fn (.func 63) [] [.ptr 0 0, .ptr 1 0], .fn (.func 65) [] [.ptr 0 0, .ptr 1 0], .fn (.func 67) [] [.ptr 0 0, .ptr 1 0]]), (15, .int .i64 5), (16, .int .i64 5)]) [.box [.own 2], .box [.int .u64 ep, .int .i64 fi, .sl _ e_api_Partition ps, .sl _ e_api_Schedule ss, .sl _ e_api_Pair rs, .sl _ e_api_Act ac], .row 5 l] = ((∀ (y : UInt8), y ∈ l -> isU8 (e_uint8 y) = true) /\ (strPV (List.map e_uint8 l)).size + (ByteArray.mk #[(0 : UInt8), (0 : UInt8), (0 : UInt8), (0 : UInt8)]).size <= 9223372036854775807 /\ (strPV (List.map e_uint8 l) ++ ByteArray.mk #[(0 : UInt8), (0 : UInt8), (0 : UInt8), (0 : UInt8)]).size < 4294967296 /\ k [.str (sealB (strPV (List.map e_uint8 l) ++ ByteArray.mk #[(0 : UInt8), (0 : UInt8), (0 : UInt8), (0 : UInt8)])), .err Err.nil] []) := by kernel_rfl
def encS : SpecS := fun ys Φ => match ys with
 | [x_0] => ∃ (ep : Int), ∃ (fi : Int), ∃ (ps : List Prt), ∃ (ss : List Sch), ∃ (rs : List Pr), ∃ (ac : List Act3), x_0 = .agg [.int .u64 ep, .int .i64 fi, .sl _ e_api_Partition ps, .sl _ e_api_Schedule ss, .sl _ e_api_Pair rs, .sl _ e_api_Act ac] /\ ((0 <= ep /\ ep < 18446744073709551616) /\ (ps.length < 100000 /\ ss.length < 100000 /\ rs.length < 100000 /\ ac.length < 100000) /\ (∀ x, x ∈ ps -> ∀ c, c ∈ x.2.2.2 -> OkC c) /\ (∀ x, x ∈ ss -> x.2.2.1.length < 9223372036854775808 /\ x.2.2.2.length < 9223372036854775808)) /\ Φ [.str (bif (imgE (ep, fi, ps, ss, rs, ac)).isNil then ⟨(imgL (ep, fi, ps, ss, rs, ac)).toArray⟩ else ⟨#[]⟩), .err (imgE (ep, fi, ps, ss, rs, ac))]
 | _ => False
theorem encS_mono : MonoS encS := by
 intro ys Φ Ψ h hF
 unfold encS at hF ⊢
 split at hF
 ·obtain ⟨a0, a1, a2, a3, a4, a5, q0, hp, hk⟩ := hF; exact ⟨a0, a1, a2, a3, a4, a5, q0, hp, h _ hk⟩
 ·exact hF.elim
theorem encS_inv {ys : List PV} {Φ : List PV -> Prop} (h : encS ys Φ) : ∃ (ep : Int) (fi : Int) (ps : List Prt) (ss : List Sch) (rs : List Pr) (ac : List Act3), ys = [.agg [.int .u64 ep, .int .i64 fi, .sl _ e_api_Partition ps, .sl _ e_api_Schedule ss, .sl _ e_api_Pair rs, .sl _ e_api_Act ac]] /\ ((0 <= ep /\ ep < 18446744073709551616) /\ (ps.length < 100000 /\ ss.length < 100000 /\ rs.length < 100000 /\ ac.length < 100000) /\ (∀ x, x ∈ ps -> ∀ c, c ∈ x.2.2.2 -> OkC c) /\ (∀ x, x ∈ ss -> x.2.2.1.length < 9223372036854775808 /\ x.2.2.2.length < 9223372036854775808)) /\ Φ [.str (bif (imgE (ep, fi, ps, ss, rs, ac)).isNil then ⟨(imgL (ep, fi, ps, ss, rs, ac)).toArray⟩ else ⟨#[]⟩), .err (imgE (ep, fi, ps, ss, rs, ac))] := by
 unfold encS at h
 split at h
 ·obtain ⟨a0, a1, a2, a3, a4, a5, q0, hz⟩ := h
  subst q0
  exact ⟨a0, a1, a2, a3, a4, a5, rfl, hz⟩
 ·exact h.elim
theorem ok_enc : FunS B 16 encS := by
 refine funS_of (N := 34) (f := ff_enc) env_EN2 mixed fn_enc (by kernel_rfl) (by kernel_rfl) (by kernel_rfl) encS_mono ?_
 intro A k ys hA hF
 obtain ⟨ep, fi, ps, ss, rs, ac, rfl, ⟨hep, ⟨n1, n2, n3, n4⟩, hc, hw⟩, hk⟩ := encS_inv hF; clear hF
 refine ⟨by kernel_rfl, (hA.nf (nf_enc_a A k ep fi ps ss rs ac) ?_)⟩
 refine (hA.nf (nf_enc_0 A k ep fi ps ss rs ac) ?_)
 refine ⟨⟨by decide, by show (0 : Int) < 5; decide⟩, ep, fi, ps, ss, rs, ac, rfl, rfl, hep, ?_⟩
 cases c0 : (hdrE fi (ps.length : Int) (ss.length : Int) (rs.length : Int) (ac.length : Int)).isNil with
 | false =>
  have hE : imgE (ep, fi, ps, ss, rs, ac) = (hdrE fi (ps.length : Int) (ss.length : Int) (rs.length : Int) (ac.length : Int)) := by
   show firstE [(hdrE fi (ps.length : Int) (ss.length : Int) (rs.length : Int) (ac.length : Int)), (prtsE none 0 ps), (schsE none 0 ss), (prsE none 0 rs), (actsE none 0 ac)] = _
   simp only [firstE, c0, cond_true, cond_false]
  rw [hE, c0] at hk
  exact hk
 | true =>
  have l1 := hdrL_len 0 ep fi (ps.length : Int) (ss.length : Int) (rs.length : Int) (ac.length : Int)
  obtain ⟨_, f1, f2, f3, f4⟩ := hdrE_ok c0
  rw [fineQ_1'] at f1
  rw [fineQ_2'] at f2
  rw [fineQ_3'] at f3
  rw [fineQ_4'] at f4
  simp only [Bool.and_eq_true, decide_eq_true_eq] at f1 f2 f3 f4
  have w0 : IntKind.i64.wrap ((0 : Int) + 1) = 1 := by decide
  rw [Bool.not_true, cond_false, w0]
  have o0 : outP [] (hdrE fi (ps.length : Int) (ss.length : Int) (rs.length : Int) (ac.length : Int)) [] (hdrL 0 ep fi (ps.length : Int) (ss.length : Int) (rs.length : Int) (ac.length : Int)) = (hdrL 0 ep fi (ps.length : Int) (ss.length : Int) (rs.length : Int) (ac.length : Int)) := by unfold outP; rw [c0]; rfl
  rw [o0]
  refine (hA.nf (nf_enc_1 A k ep fi ps ss rs ac _) ?_)
  refine ⟨⟨by decide, by show (1 : Int) < 5; decide⟩, ep, fi, ps, ss, rs, ac, rfl, ⟨by omega, by omega, hc⟩, ?_⟩
  cases c1 : (prtsE none 0 ps).isNil with
  | false =>
   have hE : imgE (ep, fi, ps, ss, rs, ac) = (prtsE none 0 ps) := by
    show firstE [(hdrE fi (ps.length : Int) (ss.length : Int) (rs.length : Int) (ac.length : Int)), (prtsE none 0 ps), (schsE none 0 ss), (prsE none 0 rs), (actsE none 0 ac)] = _
    simp only [firstE, c0, c1, cond_true, cond_false]
   rw [hE, c1] at hk
   exact hk
  | true =>
   have l2 := prtsB_len ps (prtsE_ok _ _ _ c1)
   have w1 : IntKind.i64.wrap ((1 : Int) + 1) = 2 := by decide
   rw [Bool.not_true, cond_false, w1]
   have o1 : outP (hdrL 0 ep fi (ps.length : Int) (ss.length : Int) (rs.length : Int) (ac.length : Int)) (prtsE none 0 ps) (hdrL 0 ep fi (ps.length : Int) (ss.length : Int) (rs.length : Int) (ac.length : Int)) (prtsB ps) = ((hdrL 0 ep fi (ps.length : Int) (ss.length : Int) (rs.length : Int) (ac.length : Int)) ++ (prtsB ps)) := by unfold outP; rw [c1]; rfl
   rw [o1]
   have q1 : ((hdrL 0 ep fi (ps.length : Int) (ss.length : Int) (rs.length : Int) (ac.length : Int)) ++ (prtsB ps)).length = (hdrL 0 ep fi (ps.length : Int) (ss.length : Int) (rs.length : Int) (ac.length : Int)).length + (prtsB ps).length := List.length_append
   refine (hA.nf (nf_enc_2 A k ep fi ps ss rs ac _) ?_)
   refine ⟨⟨by decide, by show (2 : Int) < 5; decide⟩, ep, fi, ps, ss, rs, ac, rfl, ⟨by omega, by omega, hw⟩, ?_⟩
   cases c2 : (schsE none 0 ss).isNil with
   | false =>
    have hE : imgE (ep, fi, ps, ss, rs, ac) = (schsE none 0 ss) := by
     show firstE [(hdrE fi (ps.length : Int) (ss.length : Int) (rs.length : Int) (ac.length : Int)), (prtsE none 0 ps), (schsE none 0 ss), (prsE none 0 rs), (actsE none 0 ac)] = _
     simp only [firstE, c0, c1, c2, cond_true, cond_false]
    rw [hE, c2] at hk
    exact hk
   | true =>
    have l3 := schsB_len ss (schsE_ok _ _ _ c2)
    have w2 : IntKind.i64.wrap ((2 : Int) + 1) = 3 := by decide
    rw [Bool.not_true, cond_false, w2]
    have o2 : outP ((hdrL 0 ep fi (ps.length : Int) (ss.length : Int) (rs.length : Int) (ac.length : Int)) ++ (prtsB ps)) (schsE none 0 ss) ((hdrL 0 ep fi (ps.length : Int) (ss.length : Int) (rs.length : Int) (ac.length : Int)) ++ (prtsB ps)) (schsB ss) = (((hdrL 0 ep fi (ps.length : Int) (ss.length : Int) (rs.length : Int) (ac.length : Int)) ++ (prtsB ps)) ++ (schsB ss)) := by unfold outP; rw [c2]; rfl
    rw [o2]
    have q2 : (((hdrL 0 ep fi (ps.length : Int) (ss.length : Int) (rs.length : Int) (ac.length : Int)) ++ (prtsB ps)) ++ (schsB ss)).length = ((hdrL 0 ep fi (ps.length : Int) (ss.length : Int) (rs.length : Int) (ac.length : Int)) ++ (prtsB ps)).length + (schsB ss).length := List.length_append
    refine (hA.nf (nf_enc_3 A k ep fi ps ss rs ac _) ?_)
    refine ⟨⟨by decide, by show (3 : Int) < 5; decide⟩, ep, fi, ps, ss, rs, ac, rfl, ⟨by omega, by omega⟩, ?_⟩
    cases c3 : (prsE none 0 rs).isNil with
    | false =>
     have hE : imgE (ep, fi, ps, ss, rs, ac) = (prsE none 0 rs) := by
      show firstE [(hdrE fi (ps.length : Int) (ss.length : Int) (rs.length : Int) (ac.length : Int)), (prtsE none 0 ps), (schsE none 0 ss), (prsE none 0 rs), (actsE none 0 ac)] = _
      simp only [firstE, c0, c1, c2, c3, cond_true, cond_false]
     rw [hE, c3] at hk
     exact hk
    | true =>
     have l4 := pairsB_len rs
     have w3 : IntKind.i64.wrap ((3 : Int) + 1) = 4 := by decide
     rw [Bool.not_true, cond_false, w3]
     have o3 : outP (((hdrL 0 ep fi (ps.length : Int) (ss.length : Int) (rs.length : Int) (ac.length : Int)) ++ (prtsB ps)) ++ (schsB ss)) (prsE none 0 rs) (((hdrL 0 ep fi (ps.length : Int) (ss.length : Int) (rs.length : Int) (ac.length : Int)) ++ (prtsB ps)) ++ (schsB ss)) (pairsB rs) = ((((hdrL 0 ep fi (ps.length : Int) (ss.length : Int) (rs.length : Int) (ac.length : Int)) ++ (prtsB ps)) ++ (schsB ss)) ++ (pairsB rs)) := by unfold outP; rw [c3]; rfl
     rw [o3]
     have q3 : ((((hdrL 0 ep fi (ps.length : Int) (ss.length : Int) (rs.length : Int) (ac.length : Int)) ++ (prtsB ps)) ++ (schsB ss)) ++ (pairsB rs)).length = (((hdrL 0 ep fi (ps.length : Int) (ss.length : Int) (rs.length : Int) (ac.length : Int)) ++ (prtsB ps)) ++ (schsB ss)).length + (pairsB rs).length := List.length_append
     refine (hA.nf (nf_enc_4 A k ep fi ps ss rs ac _) ?_)
     refine ⟨⟨by decide, by show (4 : Int) < 5; decide⟩, ep, fi, ps, ss, rs, ac, rfl, ⟨by omega, by omega⟩, ?_⟩
     cases c4 : (actsE none 0 ac).isNil with
     | false =>
      have hE : imgE (ep, fi, ps, ss, rs, ac) = (actsE none 0 ac) := by
       show firstE [(hdrE fi (ps.length : Int) (ss.length : Int) (rs.length : Int) (ac.length : Int)), (prtsE none 0 ps), (schsE none 0 ss), (prsE none 0 rs), (actsE none 0 ac)] = _
       simp only [firstE, c0, c1, c2, c3, c4, cond_true, cond_false]
      rw [hE, c4] at hk
      exact hk
     | true =>
      have l5 := actsB_len ac
      have w4 : IntKind.i64.wrap ((4 : Int) + 1) = 5 := by decide
      rw [Bool.not_true, cond_false, w4]
      have o4 : outP ((((hdrL 0 ep fi (ps.length : Int) (ss.length : Int) (rs.length : Int) (ac.length : Int)) ++ (prtsB ps)) ++ (schsB ss)) ++ (pairsB rs)) (actsE none 0 ac) ((((hdrL 0 ep fi (ps.length : Int) (ss.length : Int) (rs.length : Int) (ac.length : Int)) ++ (prtsB ps)) ++ (schsB ss)) ++ (pairsB rs)) (actsB ac) = (((((hdrL 0 ep fi (ps.length : Int) (ss.length : Int) (rs.length : Int) (ac.length : Int)) ++ (prtsB ps)) ++ (schsB ss)) ++ (pairsB rs)) ++ (actsB ac)) := by unfold outP; rw [c4]; rfl
      rw [o4]
      have q4 : (((((hdrL 0 ep fi (ps.length : Int) (ss.length : Int) (rs.length : Int) (ac.length : Int)) ++ (prtsB ps)) ++ (schsB ss)) ++ (pairsB rs)) ++ (actsB ac)).length = ((((hdrL 0 ep fi (ps.length : Int) (ss.length : Int) (rs.length : Int) (ac.length : Int)) ++ (prtsB ps)) ++ (schsB ss)) ++ (pairsB rs)).length + (actsB ac).length := List.length_append
      refine (hA.nf (nf_enc_5 A k ep fi ps ss rs ac _) ?_)
      have hE : imgE (ep, fi, ps, ss, rs, ac) = .nil := by
       show firstE [(hdrE fi (ps.length : Int) (ss.length : Int) (rs.length : Int) (ac.length : Int)), (prtsE none 0 ps), (schsE none 0 ss), (prsE none 0 rs), (actsE none 0 ac)] = _
       simp only [firstE, c0, c1, c2, c3, c4, cond_true, cond_false]
      rw [hE] at hk
      have hbody : (((((hdrL 0 ep fi (ps.length : Int) (ss.length : Int) (rs.length : Int) (ac.length : Int)) ++ (prtsB ps)) ++ (schsB ss)) ++ (pairsB rs)) ++ (actsB ac)) = hdrL 0 ep fi (ps.length : Int) (ss.length : Int) (rs.length : Int) (ac.length : Int) ++ bodL (ep, fi, ps, ss, rs, ac) := by
       unfold bodL; simp only [List.append_assoc]
      have hz : ByteArray.mk ((((((hdrL 0 ep fi (ps.length : Int) (ss.length : Int) (rs.length : Int) (ac.length : Int)) ++ (prtsB ps)) ++ (schsB ss)) ++ (pairsB rs)) ++ (actsB ac))).toArray ++ ByteArray.mk #[0, 0, 0, 0] = ⟨(hdrL 0 ep fi (ps.length : Int) (ss.length : Int) (rs.length : Int) (ac.length : Int) ++ bodL (ep, fi, ps, ss, rs, ac) ++ [0, 0, 0, 0]).toArray⟩ := by
       rw [hbody]; exact mk_app ⟨#[]⟩ _ _
      have hsz : (ByteArray.mk ((((((hdrL 0 ep fi (ps.length : Int) (ss.length : Int) (rs.length : Int) (ac.length : Int)) ++ (prtsB ps)) ++ (schsB ss)) ++ (pairsB rs)) ++ (actsB ac))).toArray).size + (ByteArray.mk #[0, 0, 0, 0]).size <= 4294967295 := by
       rw [mk_sz]
       show _ + 4 <= _
       omega
      rw [strPV_e]
      refine ⟨fun _ _ => rfl, by omega, by rw [ByteArray.size_append]; omega, ?_⟩
      rw [hz]
      have hseal := seal_img (m := (ep, fi, ps, ss, rs, ac))
      rw [hseal]
      exact hk
end Go.Ab.T
