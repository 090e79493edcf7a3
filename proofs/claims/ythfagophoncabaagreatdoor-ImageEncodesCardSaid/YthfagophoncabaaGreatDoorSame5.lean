import Derived.Test.YthfagophoncabaaGreatDoorSame3
import Derived.Test.YthfagophoncabaaGreatDoorClones
import Derived.Test.YthfagophoncabaaGreatDoorEnc1
set_option linter.unusedVariables false
set_option linter.unusedSimpArgs false
set_option linter.unusedSectionVars false
namespace Go.Ab.T
open Go Go.Ab Go.Proofs
set_option maxRecDepth 100000
set_option maxHeartbeats 4000000
noncomputable def S50 := base (fun _ => none) (fun g => match g with | 70 => some pSameS | 72 => some sSameS | _ => none) (fun _ => none)
theorem env_S50 : EnvOk S50 := env_of (by
 intro g F h
 split at h
 ·cases h; exact ok_pSame
 ·cases h; exact ok_sSame
 ·cases h) (fun g F h => (by cases h)) (fun g F h => (by cases h))
theorem fn_eqFP : FnOk Tryz.prog 69 Tryz.f69 (bodyOf Tryz.f69) := ⟨by kernel_rfl, by kernel_rfl, by kernel_rfl⟩
noncomputable def ff_eqFP : Fun := ⟨Tryz.f69.ntmps, 0, Tryz.f69.results.toList, fun i => match i with | 4 => some [1, 2, 15, 16, 17] | _ => none, fun _ => false, fun _ => []⟩
theorem nf_eqFP_a (A : KA Kd) (k : List PV -> Heap Kd -> Prop) (l m : List Prt) : evT S50 ff_eqFP A k 400 false [.code (bodyOf Tryz.f69)] (startEnv 32 [.sl _ e_api_Partition l, .sl _ e_api_Partition m, .fn (.func 70) [] []]) [] = (bif (↑l.length : Int) != (↑m.length : Int) then k [.bool false] []
else A (td Tryz.f69 (4 : Nat)) (envAt (32 : Nat) [((1 : Nat), PV.sl (Int × ByteArray × Bool × List (Int × Bool)) e_api_Partition m), ((2 : Nat), PV.fn (Fn.func (70 : FuncId)) [] []), ((15 : Nat), PV.sl (Int × ByteArray × Bool × List (Int × Bool)) e_api_Partition l), ((16 : Nat), PV.int IntKind.i64 (↑l.length : Int)), ((17 : Nat), PV.int IntKind.i64 (0 : Int))]) []) := by kernel_rfl
theorem nf_eqFP_b (A : KA Kd) (k : List PV -> Heap Kd -> Prop) (l m : List Prt) (n i : Int) : evT S50 ff_eqFP A k 400 true (td Tryz.f69 4) (envAt 32 [(1, .sl _ e_api_Partition m), (2, .fn (.func 70) [] []), (15, .sl _ e_api_Partition l), (16, .int .i64 n), (17, .int .i64 i)]) [] = (bif decide (i < n) then (0 <= i /\ i < (↑l.length : Int)) /\ ∀ (y : Int × ByteArray × Bool × List (Int × Bool)), l[i.toNat]? = some y -> (0 <= i /\ i < (↑m.length : Int)) /\ ∀ (y_1 : Int × ByteArray × Bool × List (Int × Bool)), m[i.toNat]? = some y_1 -> ∃ (x : Prt), ∃ (y_2 : Prt), PV.agg [PV.int IntKind.i64 y.fst, PV.str y.snd.fst, PV.bool y.snd.snd.fst, PV.sl (Int × Bool) e_api_Cell y.snd.snd.snd] = PV.agg [PV.int IntKind.i64 x.fst, PV.str x.snd.fst, PV.bool x.snd.snd.fst, PV.sl (Int × Bool) e_api_Cell x.snd.snd.snd] /\ PV.agg [PV.int IntKind.i64 y_1.fst, PV.str y_1.snd.fst, PV.bool y_1.snd.snd.fst, PV.sl (Int × Bool) e_api_Cell y_1.snd.snd.snd] = PV.agg [PV.int IntKind.i64 y_2.fst, PV.str y_2.snd.fst, PV.bool y_2.snd.snd.fst, PV.sl (Int × Bool) e_api_Cell y_2.snd.snd.snd] /\ x.snd.snd.snd.length < 4611686018427387904 /\ bif !decide (x = y_2) then k [.bool false] [] else A (td Tryz.f69 4) (envAt 32 [(1, .sl (Int × ByteArray × Bool × List (Int × Bool)) e_api_Partition m), ((2 : Nat), PV.fn (Fn.func (70 : FuncId)) [] []), (15, .sl (Int × ByteArray × Bool × List (Int × Bool)) e_api_Partition l), (16, .int .i64 n), (17, .int .i64 (IntKind.i64.wrap (i + 1)))]) []
else k [PV.bool true] []) := by kernel_rfl
def eqFPS : SpecS := fun ys Φ => match ys with
 | [x_0, x_1, .fn (.func 70) [] []] => ∃ (l : List Prt), ∃ (m : List Prt), x_0 = .sl _ e_api_Partition l /\ x_1 = .sl _ e_api_Partition m /\ (l.length < 4611686018427387904 /\ (∀ x, x ∈ l -> x.2.2.2.length < 4611686018427387904)) /\ Φ [.bool (decide (l = m))]
 | _ => False
theorem eqFPS_mono : MonoS eqFPS := by
 intro ys Φ Ψ h hF
 unfold eqFPS at hF ⊢
 split at hF
 ·obtain ⟨a0, a1, q0, q1, hp, hk⟩ := hF; exact ⟨a0, a1, q0, q1, hp, h _ hk⟩
 ·exact hF.elim
theorem eqFPS_inv {ys : List PV} {Φ : List PV -> Prop} (h : eqFPS ys Φ) : ∃ (l : List Prt) (m : List Prt), ys = [.sl _ e_api_Partition l, .sl _ e_api_Partition m, .fn (.func 70) [] []] /\ (l.length < 4611686018427387904 /\ (∀ x, x ∈ l -> x.2.2.2.length < 4611686018427387904)) /\ Φ [.bool (decide (l = m))] := by
 unfold eqFPS at h
 split at h
 ·obtain ⟨a0, a1, q0, q1, hz⟩ := h
  subst q0
  subst q1
  exact ⟨a0, a1, rfl, hz⟩
 ·exact h.elim
theorem ok_eqFP : FunS B 69 eqFPS := by
 refine funS_of (N := 32) (f := ff_eqFP) env_S50 mixed fn_eqFP (by kernel_rfl) (by kernel_rfl) (by kernel_rfl) eqFPS_mono ?_
 intro A k ys hA hF
 obtain ⟨l, m, rfl, ⟨hl, hw⟩, hk⟩ := eqFPS_inv hF; clear hF
 refine ⟨by kernel_rfl, (hA.nf (nf_eqFP_a A k l m) ?_)⟩
 cases c : ((l.length : Int) != (m.length : Int)) with
 | true => rw [decide_eq_false (len_ne c)] at hk; exact hk
 | false =>
 have hlm := len_eq c
 rw [cond_false]
 refine same_loop l m hlm (fun i => A (td Tryz.f69 4) (envAt 32 [(1, .sl _ e_api_Partition m), (2, .fn (.func 70) [] []), (15, .sl _ e_api_Partition l), (16, .int .i64 ((l.length : Nat))), (17, .int .i64 ((i : Nat)))]) []) (fun b => k [.bool b] []) hk ?_ ?_
 ·intro hk
  refine (hA.nf (nf_eqFP_b A k l m _ _) ?_)
  rw [ilt_false (Nat.lt_irrefl _)]; exact hk
 ·intro i y z hy hz ih hno
  have hlt := lt_of_get hy
  refine (hA.nf (nf_eqFP_b A k l m _ _) ?_)
  rw [ilt_true hlt, cond_true]
  refine get_at hy (get_at hz ⟨y, z, rfl, rfl, hw y (List.mem_of_getElem? hy), ?_⟩)
  rw [wrap_succ (by omega)]
  by_cases e : y = z
  ·rw [decide_eq_true e]; exact ih e
  ·rw [decide_eq_false e]; exact hno e
theorem fn_eqFS : FnOk Tryz.prog 71 Tryz.f71 (bodyOf Tryz.f71) := ⟨by kernel_rfl, by kernel_rfl, by kernel_rfl⟩
noncomputable def ff_eqFS : Fun := ⟨Tryz.f71.ntmps, 0, Tryz.f71.results.toList, fun i => match i with | 4 => some [1, 2, 15, 16, 17] | _ => none, fun _ => false, fun _ => []⟩
theorem nf_eqFS_a (A : KA Kd) (k : List PV -> Heap Kd -> Prop) (l m : List Sch) : evT S50 ff_eqFS A k 400 false [.code (bodyOf Tryz.f71)] (startEnv 32 [.sl _ e_api_Schedule l, .sl _ e_api_Schedule m, .fn (.func 72) [] []]) [] = (bif (↑l.length : Int) != (↑m.length : Int) then k [.bool false] []
else A (td Tryz.f71 (4 : Nat)) (envAt (32 : Nat) [((1 : Nat), PV.sl (Int × Int × List (Int × Int × Int) × List (Int × Int × Int)) e_api_Schedule m), ((2 : Nat), PV.fn (Fn.func (72 : FuncId)) [] []), ((15 : Nat), PV.sl (Int × Int × List (Int × Int × Int) × List (Int × Int × Int)) e_api_Schedule l), ((16 : Nat), PV.int IntKind.i64 (↑l.length : Int)), ((17 : Nat), PV.int IntKind.i64 (0 : Int))]) []) := by kernel_rfl
theorem nf_eqFS_b (A : KA Kd) (k : List PV -> Heap Kd -> Prop) (l m : List Sch) (n i : Int) : evT S50 ff_eqFS A k 400 true (td Tryz.f71 4) (envAt 32 [(1, .sl _ e_api_Schedule m), (2, .fn (.func 72) [] []), (15, .sl _ e_api_Schedule l), (16, .int .i64 n), (17, .int .i64 i)]) [] = (bif decide (i < n) then (0 <= i /\ i < (↑l.length : Int)) /\ ∀ (y : Int × Int × List (Int × Int × Int) × List (Int × Int × Int)), l[i.toNat]? = some y -> (0 <= i /\ i < (↑m.length : Int)) /\ ∀ (y_1 : Int × Int × List (Int × Int × Int) × List (Int × Int × Int)), m[i.toNat]? = some y_1 -> ∃ (x : Sch), ∃ (y_2 : Sch), PV.agg [PV.int IntKind.i64 y.fst, PV.int IntKind.i64 y.snd.fst, PV.sl (Int × Int × Int) e_api_Window y.snd.snd.fst, PV.sl (Int × Int × Int) e_api_Need y.snd.snd.snd] = PV.agg [PV.int IntKind.i64 x.fst, PV.int IntKind.i64 x.snd.fst, PV.sl (Int × Int × Int) e_api_Window x.snd.snd.fst, PV.sl (Int × Int × Int) e_api_Need x.snd.snd.snd] /\ PV.agg [PV.int IntKind.i64 y_1.fst, PV.int IntKind.i64 y_1.snd.fst, PV.sl (Int × Int × Int) e_api_Window y_1.snd.snd.fst, PV.sl (Int × Int × Int) e_api_Need y_1.snd.snd.snd] = PV.agg [PV.int IntKind.i64 y_2.fst, PV.int IntKind.i64 y_2.snd.fst, PV.sl (Int × Int × Int) e_api_Window y_2.snd.snd.fst, PV.sl (Int × Int × Int) e_api_Need y_2.snd.snd.snd] /\ (x.snd.snd.fst.length < 4611686018427387904 /\ x.snd.snd.snd.length < 4611686018427387904) /\ bif !decide (x = y_2) then k [.bool false] [] else A (td Tryz.f71 4) (envAt 32 [(1, .sl (Int × Int × List (Int × Int × Int) × List (Int × Int × Int)) e_api_Schedule m), ((2 : Nat), PV.fn (Fn.func (72 : FuncId)) [] []), (15, .sl (Int × Int × List (Int × Int × Int) × List (Int × Int × Int)) e_api_Schedule l), (16, .int .i64 n), (17, .int .i64 (IntKind.i64.wrap (i + 1)))]) []
else k [PV.bool true] []) := by kernel_rfl
def eqFSS : SpecS := fun ys Φ => match ys with
 | [x_0, x_1, .fn (.func 72) [] []] => ∃ (l : List Sch), ∃ (m : List Sch), x_0 = .sl _ e_api_Schedule l /\ x_1 = .sl _ e_api_Schedule m /\ (l.length < 4611686018427387904 /\ (∀ x, x ∈ l -> x.2.2.1.length < 4611686018427387904 /\ x.2.2.2.length < 4611686018427387904)) /\ Φ [.bool (decide (l = m))]
 | _ => False
theorem eqFSS_mono : MonoS eqFSS := by
 intro ys Φ Ψ h hF
 unfold eqFSS at hF ⊢
 split at hF
 ·obtain ⟨a0, a1, q0, q1, hp, hk⟩ := hF; exact ⟨a0, a1, q0, q1, hp, h _ hk⟩
 ·exact hF.elim
theorem eqFSS_inv {ys : List PV} {Φ : List PV -> Prop} (h : eqFSS ys Φ) : ∃ (l : List Sch) (m : List Sch), ys = [.sl _ e_api_Schedule l, .sl _ e_api_Schedule m, .fn (.func 72) [] []] /\ (l.length < 4611686018427387904 /\ (∀ x, x ∈ l -> x.2.2.1.length < 4611686018427387904 /\ x.2.2.2.length < 4611686018427387904)) /\ Φ [.bool (decide (l = m))] := by
 unfold eqFSS at h
 split at h
 ·obtain ⟨a0, a1, q0, q1, hz⟩ := h
  subst q0
  subst q1
  exact ⟨a0, a1, rfl, hz⟩
 ·exact h.elim
theorem ok_eqFS : FunS B 71 eqFSS := by
 refine funS_of (N := 32) (f := ff_eqFS) env_S50 mixed fn_eqFS (by kernel_rfl) (by kernel_rfl) (by kernel_rfl) eqFSS_mono ?_
 intro A k ys hA hF
 obtain ⟨l, m, rfl, ⟨hl, hw⟩, hk⟩ := eqFSS_inv hF; clear hF
 refine ⟨by kernel_rfl, (hA.nf (nf_eqFS_a A k l m) ?_)⟩
 cases c : ((l.length : Int) != (m.length : Int)) with
 | true => rw [decide_eq_false (len_ne c)] at hk; exact hk
 | false =>
 have hlm := len_eq c
 rw [cond_false]
 refine same_loop l m hlm (fun i => A (td Tryz.f71 4) (envAt 32 [(1, .sl _ e_api_Schedule m), (2, .fn (.func 72) [] []), (15, .sl _ e_api_Schedule l), (16, .int .i64 ((l.length : Nat))), (17, .int .i64 ((i : Nat)))]) []) (fun b => k [.bool b] []) hk ?_ ?_
 ·intro hk
  refine (hA.nf (nf_eqFS_b A k l m _ _) ?_)
  rw [ilt_false (Nat.lt_irrefl _)]; exact hk
 ·intro i y z hy hz ih hno
  have hlt := lt_of_get hy
  refine (hA.nf (nf_eqFS_b A k l m _ _) ?_)
  rw [ilt_true hlt, cond_true]
  refine get_at hy (get_at hz ⟨y, z, rfl, rfl, hw y (List.mem_of_getElem? hy), ?_⟩)
  rw [wrap_succ (by omega)]
  by_cases e : y = z
  ·rw [decide_eq_true e]; exact ih e
  ·rw [decide_eq_false e]; exact hno e
noncomputable def S51 := base (fun _ => none) (fun g => match g with | 46 => some rSame10S | 47 => some rSame11S | 73 => some eqPairS | 74 => some eqActS | 70 => some pSameS | 72 => some sSameS | 44 => some rS8gS | 45 => some rS9gS | 16 => some encS | 69 => some eqFPS | 71 => some eqFSS | _ => none) (fun _ => none)
theorem env_S51 : EnvOk S51 := env_of (by
 intro g F h
 split at h
 ·cases h; exact ok_rSame10
 ·cases h; exact ok_rSame11
 ·cases h; exact ok_eqPair
 ·cases h; exact ok_eqAct
 ·cases h; exact ok_pSame
 ·cases h; exact ok_sSame
 ·cases h; exact ok_rS8g
 ·cases h; exact ok_rS9g
 ·cases h; exact ok_enc
 ·cases h; exact ok_eqFP
 ·cases h; exact ok_eqFS
 ·cases h) (fun g F h => (by cases h)) (fun g F h => (by cases h))
def sameM (a b : Mdl) : Bool := bif a.1 == b.1 then bif a.2.1 == b.2.1 then bif decide (a.2.2.1 = b.2.2.1) then bif decide (a.2.2.2.1 = b.2.2.2.1) then bif decide (a.2.2.2.2.1 = b.2.2.2.2.1) then decide (a.2.2.2.2.2 = b.2.2.2.2.2) else false else false else false else false else false
theorem sameM_self (a : Mdl) : sameM a a = true := by
 unfold sameM
 rw [beq_self_eq_true, beq_self_eq_true, decide_eq_true rfl, decide_eq_true rfl, decide_eq_true rfl, decide_eq_true rfl]
 rfl
theorem fn_iSame : FnOk Tryz.prog 17 Tryz.f17 (bodyOf Tryz.f17) := ⟨by kernel_rfl, by kernel_rfl, by kernel_rfl⟩
noncomputable def ff_iSame : Fun := ⟨Tryz.f17.ntmps, 0, Tryz.f17.results.toList, fun _ => none, fun _ => false, fun _ => []⟩
theorem nf_iSame (A : KA Kd) (k : List PV -> Heap Kd -> Prop) (ep fi : Int) (ps : List Prt) (ss : List Sch) (rs : List Pr) (ac : List Act3) (ep2 fi2 : Int) (ps2 : List Prt) (ss2 : List Sch) (rs2 : List Pr) (ac2 : List Act3) : evT S51 ff_iSame A k 400 false [.code (bodyOf Tryz.f17)] (startEnv 45 [.agg [.int .u64 ep, .int .i64 fi, .sl _ e_api_Partition ps, .sl _ e_api_Schedule ss, .sl _ e_api_Pair rs, .sl _ e_api_Act ac], .agg [.int .u64 ep2, .int .i64 fi2, .sl _ e_api_Partition ps2, .sl _ e_api_Schedule ss2, .sl _ e_api_Pair rs2, .sl _ e_api_Act ac2]]) [] = (bif ep == ep2 then bif fi == fi2 then ∃ (l : List Prt), ∃ (m : List Prt), PV.sl (Int × ByteArray × Bool × List (Int × Bool)) e_api_Partition ps = PV.sl (Int × ByteArray × Bool × List (Int × Bool)) e_api_Partition l /\ PV.sl (Int × ByteArray × Bool × List (Int × Bool)) e_api_Partition ps2 = PV.sl (Int × ByteArray × Bool × List (Int × Bool)) e_api_Partition m /\ (l.length < 4611686018427387904 /\ ∀ (x : Prt), x ∈ l -> x.snd.snd.snd.length < 4611686018427387904) /\ bif decide (l = m) then ∃ (l : List Sch), ∃ (m : List Sch), PV.sl (Int × Int × List (Int × Int × Int) × List (Int × Int × Int)) e_api_Schedule ss = PV.sl (Int × Int × List (Int × Int × Int) × List (Int × Int × Int)) e_api_Schedule l /\ PV.sl (Int × Int × List (Int × Int × Int) × List (Int × Int × Int)) e_api_Schedule ss2 = PV.sl (Int × Int × List (Int × Int × Int) × List (Int × Int × Int)) e_api_Schedule m /\ (l.length < 4611686018427387904 /\ ∀ (x : Sch), x ∈ l -> x.snd.snd.fst.length < 4611686018427387904 /\ x.snd.snd.snd.length < 4611686018427387904) /\ bif decide (l = m) then ∃ (l : List Pr), ∃ (m : List Pr), PV.sl (Int × Int) e_api_Pair rs = PV.sl (Int × Int) e_api_Pair l /\ PV.sl (Int × Int) e_api_Pair rs2 = PV.sl (Int × Int) e_api_Pair m /\ l.length < 4611686018427387904 /\ bif decide (l = m) then ∃ (l : List Act3), ∃ (m : List Act3), PV.sl (Int × Int × Int) e_api_Act ac = PV.sl (Int × Int × Int) e_api_Act l /\ PV.sl (Int × Int × Int) e_api_Act ac2 = PV.sl (Int × Int × Int) e_api_Act m /\ l.length < 4611686018427387904 /\ k [.bool (decide (l = m))] [] else k [.bool false] [] else k [.bool false] [] else k [.bool false] [] else k [.bool false] []
else k [PV.bool false] []) := by kernel_rfl
def iSameS : SpecS := fun ys Φ => match ys with
 | [x_0, x_1] => ∃ (ep : Int), ∃ (fi : Int), ∃ (ps : List Prt), ∃ (ss : List Sch), ∃ (rs : List Pr), ∃ (ac : List Act3), ∃ (ep2 : Int), ∃ (fi2 : Int), ∃ (ps2 : List Prt), ∃ (ss2 : List Sch), ∃ (rs2 : List Pr), ∃ (ac2 : List Act3), x_0 = .agg [.int .u64 ep, .int .i64 fi, .sl _ e_api_Partition ps, .sl _ e_api_Schedule ss, .sl _ e_api_Pair rs, .sl _ e_api_Act ac] /\ x_1 = .agg [.int .u64 ep2, .int .i64 fi2, .sl _ e_api_Partition ps2, .sl _ e_api_Schedule ss2, .sl _ e_api_Pair rs2, .sl _ e_api_Act ac2] /\ ((ps.length < 4611686018427387904 /\ ss.length < 4611686018427387904 /\ rs.length < 4611686018427387904 /\ ac.length < 4611686018427387904) /\ (∀ x, x ∈ ps -> x.2.2.2.length < 4611686018427387904) /\ (∀ x, x ∈ ss -> x.2.2.1.length < 4611686018427387904 /\ x.2.2.2.length < 4611686018427387904)) /\ Φ [.bool (sameM (ep, fi, ps, ss, rs, ac) (ep2, fi2, ps2, ss2, rs2, ac2))]
 | _ => False
theorem iSameS_mono : MonoS iSameS := by
 intro ys Φ Ψ h hF
 unfold iSameS at hF ⊢
 split at hF
 ·obtain ⟨a0, a1, a2, a3, a4, a5, a6, a7, a8, a9, a10, a11, q0, q1, hp, hk⟩ := hF; exact ⟨a0, a1, a2, a3, a4, a5, a6, a7, a8, a9, a10, a11, q0, q1, hp, h _ hk⟩
 ·exact hF.elim
theorem iSameS_inv {ys : List PV} {Φ : List PV -> Prop} (h : iSameS ys Φ) : ∃ (ep : Int) (fi : Int) (ps : List Prt) (ss : List Sch) (rs : List Pr) (ac : List Act3) (ep2 : Int) (fi2 : Int) (ps2 : List Prt) (ss2 : List Sch) (rs2 : List Pr) (ac2 : List Act3), ys = [.agg [.int .u64 ep, .int .i64 fi, .sl _ e_api_Partition ps, .sl _ e_api_Schedule ss, .sl _ e_api_Pair rs, .sl _ e_api_Act ac], .agg [.int .u64 ep2, .int .i64 fi2, .sl _ e_api_Partition ps2, .sl _ e_api_Schedule ss2, .sl _ e_api_Pair rs2, .sl _ e_api_Act ac2]] /\ ((ps.length < 4611686018427387904 /\ ss.length < 4611686018427387904 /\ rs.length < 4611686018427387904 /\ ac.length < 4611686018427387904) /\ (∀ x, x ∈ ps -> x.2.2.2.length < 4611686018427387904) /\ (∀ x, x ∈ ss -> x.2.2.1.length < 4611686018427387904 /\ x.2.2.2.length < 4611686018427387904)) /\ Φ [.bool (sameM (ep, fi, ps, ss, rs, ac) (ep2, fi2, ps2, ss2, rs2, ac2))] := by
 unfold iSameS at h
 split at h
 ·obtain ⟨a0, a1, a2, a3, a4, a5, a6, a7, a8, a9, a10, a11, q0, q1, hz⟩ := h
  subst q0
  subst q1
  exact ⟨a0, a1, a2, a3, a4, a5, a6, a7, a8, a9, a10, a11, rfl, hz⟩
 ·exact h.elim
theorem ok_iSame : FunS B 17 iSameS := by
 refine funS_of (N := 45) (f := ff_iSame) env_S51 mixed fn_iSame (by kernel_rfl) (by kernel_rfl) (by kernel_rfl) iSameS_mono ?_
 intro A k ys hA hF
 obtain ⟨ep, fi, ps, ss, rs, ac, ep2, fi2, ps2, ss2, rs2, ac2, rfl, ⟨⟨n1, n2, n3, n4⟩, w1, w2⟩, hk⟩ := iSameS_inv hF; clear hF
 refine ⟨by kernel_rfl, (hA.nf (nf_iSame A k ep fi ps ss rs ac ep2 fi2 ps2 ss2 rs2 ac2) ?_)⟩
 unfold sameM at hk
 dsimp only at hk
 revert hk
 cases ep == ep2 with
 | false => exact id
 | true =>
 cases fi == fi2 with
 | false => exact id
 | true =>
 intro hk
 refine ⟨ps, ps2, rfl, rfl, ⟨n1, w1⟩, ?_⟩
 revert hk
 cases decide (ps = ps2) with
 | false => exact id
 | true =>
 intro hk
 refine ⟨ss, ss2, rfl, rfl, ⟨n2, w2⟩, ?_⟩
 revert hk
 cases decide (ss = ss2) with
 | false => exact id
 | true =>
 intro hk
 refine ⟨rs, rs2, rfl, rfl, n3, ?_⟩
 revert hk
 cases decide (rs = rs2) with
 | false => exact id
 | true =>
 intro hk
 exact ⟨ac, ac2, rfl, rfl, n4, hk⟩
theorem fn_same12g : FnOk Tryz.prog 11 Tryz.f11 (bodyOf Tryz.f11) := ⟨by kernel_rfl, by kernel_rfl, by kernel_rfl⟩
noncomputable def ff_same12g : Fun := ⟨Tryz.f11.ntmps, 0, Tryz.f11.results.toList, fun _ => none, fun _ => false, fun _ => []⟩
theorem nf_same12g (A : KA Kd) (k : List PV -> Heap Kd -> Prop) (ep fi : Int) (ps : List Prt) (ss : List Sch) (rs : List Pr) (ac : List Act3) (ep2 fi2 : Int) (ps2 : List Prt) (ss2 : List Sch) (rs2 : List Pr) (ac2 : List Act3) : evT S51 ff_same12g A k 400 false [.code (bodyOf Tryz.f11)] (startEnv 45 [.agg [.int .u64 ep, .int .i64 fi, .sl _ e_api_Partition ps, .sl _ e_api_Schedule ss, .sl _ e_api_Pair rs, .sl _ e_api_Act ac], .agg [.int .u64 ep2, .int .i64 fi2, .sl _ e_api_Partition ps2, .sl _ e_api_Schedule ss2, .sl _ e_api_Pair rs2, .sl _ e_api_Act ac2]]) [] = (bif ep == ep2 then bif fi == fi2 then ∃ (l : List Prt), ∃ (m : List Prt), PV.sl (Int × ByteArray × Bool × List (Int × Bool)) e_api_Partition ps = PV.sl (Int × ByteArray × Bool × List (Int × Bool)) e_api_Partition l /\ PV.sl (Int × ByteArray × Bool × List (Int × Bool)) e_api_Partition ps2 = PV.sl (Int × ByteArray × Bool × List (Int × Bool)) e_api_Partition m /\ (l.length < 4611686018427387904 /\ ∀ (x : Prt), x ∈ l -> x.snd.snd.snd.length < 4611686018427387904) /\ bif decide (l = m) then ∃ (l : List Sch), ∃ (m : List Sch), PV.sl (Int × Int × List (Int × Int × Int) × List (Int × Int × Int)) e_api_Schedule ss = PV.sl (Int × Int × List (Int × Int × Int) × List (Int × Int × Int)) e_api_Schedule l /\ PV.sl (Int × Int × List (Int × Int × Int) × List (Int × Int × Int)) e_api_Schedule ss2 = PV.sl (Int × Int × List (Int × Int × Int) × List (Int × Int × Int)) e_api_Schedule m /\ (l.length < 4611686018427387904 /\ ∀ (x : Sch), x ∈ l -> x.snd.snd.fst.length < 4611686018427387904 /\ x.snd.snd.snd.length < 4611686018427387904) /\ bif decide (l = m) then ∃ (l : List Pr), ∃ (m : List Pr), PV.sl (Int × Int) e_api_Pair rs = PV.sl (Int × Int) e_api_Pair l /\ PV.sl (Int × Int) e_api_Pair rs2 = PV.sl (Int × Int) e_api_Pair m /\ l.length < 4611686018427387904 /\ bif decide (l = m) then ∃ (l : List Act3), ∃ (m : List Act3), PV.sl (Int × Int × Int) e_api_Act ac = PV.sl (Int × Int × Int) e_api_Act l /\ PV.sl (Int × Int × Int) e_api_Act ac2 = PV.sl (Int × Int × Int) e_api_Act m /\ l.length < 4611686018427387904 /\ k [.bool (decide (l = m))] [] else k [.bool false] [] else k [.bool false] [] else k [.bool false] [] else k [.bool false] []
else k [PV.bool false] []) := by kernel_rfl
theorem ok_same12g : FunS B 11 iSameS := by
 refine funS_of (N := 45) (f := ff_same12g) env_S51 mixed fn_same12g (by kernel_rfl) (by kernel_rfl) (by kernel_rfl) iSameS_mono ?_
 intro A k ys hA hF
 obtain ⟨ep, fi, ps, ss, rs, ac, ep2, fi2, ps2, ss2, rs2, ac2, rfl, ⟨⟨n1, n2, n3, n4⟩, w1, w2⟩, hk⟩ := iSameS_inv hF; clear hF
 refine ⟨by kernel_rfl, (hA.nf (nf_same12g A k ep fi ps ss rs ac ep2 fi2 ps2 ss2 rs2 ac2) ?_)⟩
 unfold sameM at hk
 dsimp only at hk
 revert hk
 cases ep == ep2 with
 | false => exact id
 | true =>
 cases fi == fi2 with
 | false => exact id
 | true =>
 intro hk
 refine ⟨ps, ps2, rfl, rfl, ⟨n1, w1⟩, ?_⟩
 revert hk
 cases decide (ps = ps2) with
 | false => exact id
 | true =>
 intro hk
 refine ⟨ss, ss2, rfl, rfl, ⟨n2, w2⟩, ?_⟩
 revert hk
 cases decide (ss = ss2) with
 | false => exact id
 | true =>
 intro hk
 refine ⟨rs, rs2, rfl, rfl, n3, ?_⟩
 revert hk
 cases decide (rs = rs2) with
 | false => exact id
 | true =>
 intro hk
 exact ⟨ac, ac2, rfl, rfl, n4, hk⟩
def iSizeS : SpecS := fun ys Φ => match ys with
 | [x_0] => ∃ (ep : Int), ∃ (fi : Int), ∃ (ps : List Prt), ∃ (ss : List Sch), ∃ (rs : List Pr), ∃ (ac : List Act3), x_0 = .agg [.int .u64 ep, .int .i64 fi, .sl _ e_api_Partition ps, .sl _ e_api_Schedule ss, .sl _ e_api_Pair rs, .sl _ e_api_Act ac] /\ ((0 <= ep /\ ep < 18446744073709551616) /\ (ps.length < 100000 /\ ss.length < 100000 /\ rs.length < 100000 /\ ac.length < 100000) /\ (∀ x, x ∈ ps -> ∀ c, c ∈ x.2.2.2 -> OkC c) /\ (∀ x, x ∈ ss -> x.2.2.1.length < 9223372036854775808 /\ x.2.2.2.length < 9223372036854775808)) /\ Φ [.int .i64 ((bif (imgE (ep, fi, ps, ss, rs, ac)).isNil then ⟨(imgL (ep, fi, ps, ss, rs, ac)).toArray⟩ else ⟨#[]⟩ : ByteArray).size : Int)]
 | _ => False
theorem iSizeS_mono : MonoS iSizeS := by
 intro ys Φ Ψ h hF
 unfold iSizeS at hF ⊢
 split at hF
 ·obtain ⟨a0, a1, a2, a3, a4, a5, q0, hp, hk⟩ := hF; exact ⟨a0, a1, a2, a3, a4, a5, q0, hp, h _ hk⟩
 ·exact hF.elim
theorem iSizeS_inv {ys : List PV} {Φ : List PV -> Prop} (h : iSizeS ys Φ) : ∃ (ep : Int) (fi : Int) (ps : List Prt) (ss : List Sch) (rs : List Pr) (ac : List Act3), ys = [.agg [.int .u64 ep, .int .i64 fi, .sl _ e_api_Partition ps, .sl _ e_api_Schedule ss, .sl _ e_api_Pair rs, .sl _ e_api_Act ac]] /\ ((0 <= ep /\ ep < 18446744073709551616) /\ (ps.length < 100000 /\ ss.length < 100000 /\ rs.length < 100000 /\ ac.length < 100000) /\ (∀ x, x ∈ ps -> ∀ c, c ∈ x.2.2.2 -> OkC c) /\ (∀ x, x ∈ ss -> x.2.2.1.length < 9223372036854775808 /\ x.2.2.2.length < 9223372036854775808)) /\ Φ [.int .i64 ((bif (imgE (ep, fi, ps, ss, rs, ac)).isNil then ⟨(imgL (ep, fi, ps, ss, rs, ac)).toArray⟩ else ⟨#[]⟩ : ByteArray).size : Int)] := by
 unfold iSizeS at h
 split at h
 ·obtain ⟨a0, a1, a2, a3, a4, a5, q0, hz⟩ := h
  subst q0
  exact ⟨a0, a1, a2, a3, a4, a5, rfl, hz⟩
 ·exact h.elim
theorem fn_iSize : FnOk Tryz.prog 19 Tryz.f19 (bodyOf Tryz.f19) := ⟨by kernel_rfl, by kernel_rfl, by kernel_rfl⟩
noncomputable def ff_iSize : Fun := ⟨Tryz.f19.ntmps, 0, Tryz.f19.results.toList, fun _ => none, fun _ => false, fun _ => []⟩
theorem nf_iSize (A : KA Kd) (k : List PV -> Heap Kd -> Prop) (ep fi : Int) (ps : List Prt) (ss : List Sch) (rs : List Pr) (ac : List Act3) : evT S51 ff_iSize A k 400 false [.code (bodyOf Tryz.f19)] (startEnv 12 [.agg [.int .u64 ep, .int .i64 fi, .sl _ e_api_Partition ps, .sl _ e_api_Schedule ss, .sl _ e_api_Pair rs, .sl _ e_api_Act ac]]) [] = (∃ (ep_1 : Int), ∃ (fi_1 : Int), ∃ (ps_1 : List Prt), ∃ (ss_1 : List Sch), ∃ (rs_1 : List Pr), ∃ (ac_1 : List Act3), PV.agg [PV.int IntKind.u64 ep, PV.int IntKind.i64 fi, PV.sl (Int × ByteArray × Bool × List (Int × Bool)) e_api_Partition ps, PV.sl (Int × Int × List (Int × Int × Int) × List (Int × Int × Int)) e_api_Schedule ss, PV.sl (Int × Int) e_api_Pair rs, PV.sl (Int × Int × Int) e_api_Act ac] = PV.agg [PV.int IntKind.u64 ep_1, PV.int IntKind.i64 fi_1, PV.sl (Int × ByteArray × Bool × List (Int × Bool)) e_api_Partition ps_1, PV.sl (Int × Int × List (Int × Int × Int) × List (Int × Int × Int)) e_api_Schedule ss_1, PV.sl (Int × Int) e_api_Pair rs_1, PV.sl (Int × Int × Int) e_api_Act ac_1] /\ ((0 <= ep_1 /\ ep_1 < 18446744073709551616) /\ (ps_1.length < 100000 /\ ss_1.length < 100000 /\ rs_1.length < 100000 /\ ac_1.length < 100000) /\ (∀ (x : Prt), x ∈ ps_1 -> ∀ (c : Cl), c ∈ x.snd.snd.snd -> 0 <= c.fst /\ c.fst < 4294967296) /\ ∀ (x : Sch), x ∈ ss_1 -> x.snd.snd.fst.length < 9223372036854775808 /\ x.snd.snd.snd.length < 9223372036854775808) /\ k [.int .i64 (↑(bif (imgE (ep_1, fi_1, ps_1, ss_1, rs_1, ac_1)).isNil then ByteArray.mk (imgL (ep_1, fi_1, ps_1, ss_1, rs_1, ac_1)).toArray else ByteArray.mk #[]).size : Int)] []) := by kernel_rfl
theorem ok_iSize : FunS B 19 iSizeS := by
 refine funS_of (N := 12) (f := ff_iSize) env_S51 mixed fn_iSize (by kernel_rfl) (by kernel_rfl) (by kernel_rfl) iSizeS_mono ?_
 intro A k ys hA hF
 obtain ⟨ep, fi, ps, ss, rs, ac, rfl, h, hk⟩ := iSizeS_inv hF; clear hF
 refine ⟨by kernel_rfl, (hA.nf (nf_iSize A k ep fi ps ss rs ac) ?_)⟩
 exact ⟨ep, fi, ps, ss, rs, ac, rfl, h, hk⟩
end Go.Ab.T
