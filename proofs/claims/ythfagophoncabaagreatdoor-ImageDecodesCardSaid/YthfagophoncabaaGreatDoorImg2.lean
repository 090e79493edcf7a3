import Derived.Test.YthfagophoncabaaGreatDoorImg1
import Derived.Test.YthfagophoncabaaGreatDoorHeaderPut
import Derived.Test.YthfagophoncabaaGreatDoorSame89
import Derived.Test.YthfagophoncabaaGreatDoorMaB
set_option linter.unusedVariables false
set_option linter.unusedSimpArgs false
set_option linter.unusedSectionVars false
namespace Go.Ab.T
open Go Go.Ab Go.Proofs
set_option maxRecDepth 100000
set_option maxHeartbeats 4000000
noncomputable def IN2 := base (fun _ => none) (fun g => match g with | 46 => some rSame10S | 47 => some rSame11S | 45 => some rSame9S | 44 => some rSame8S | _ => none) (fun _ => none)
theorem env_IN2 : EnvOk IN2 := env_of (by
 intro g F h
 split at h
 ·cases h; exact ok_rSame10
 ·cases h; exact ok_rSame11
 ·cases h; exact ok_rSame9
 ·cases h; exact ok_rSame8
 ·cases h) (fun g F h => (by cases h)) (fun g F h => (by cases h))
theorem fn_same12 : FnOk Tryz.prog 11 Tryz.f11 (bodyOf Tryz.f11) := ⟨by kernel_rfl, by kernel_rfl, by kernel_rfl⟩
noncomputable def ff_same12 : Fun := ⟨Tryz.f11.ntmps, 0, Tryz.f11.results.toList, fun _ => none, fun _ => false, fun _ => []⟩
theorem nf_same12 (A : KA Kd) (k : List PV -> Heap Kd -> Prop) (ep fi : Int) (ps : List Prt) (ss : List Sch) (rs : List Pr) (ac : List Act3) : evT IN2 ff_same12 A k 400 false [.code (bodyOf Tryz.f11)] (startEnv 45 [.agg [.int .u64 ep, .int .i64 fi, .sl _ e_api_Partition ps, .sl _ e_api_Schedule ss, .sl _ e_api_Pair rs, .sl _ e_api_Act ac], .agg [.int .u64 ep, .int .i64 fi, .sl _ e_api_Partition ps, .sl _ e_api_Schedule ss, .sl _ e_api_Pair rs, .sl _ e_api_Act ac]]) [] = (bif ep == ep then bif fi == fi then ∃ (l : List Prt), PV.sl (Int × ByteArray × Bool × List (Int × Bool)) e_api_Partition ps = PV.sl (Int × ByteArray × Bool × List (Int × Bool)) e_api_Partition l /\ PV.sl (Int × ByteArray × Bool × List (Int × Bool)) e_api_Partition ps = PV.sl (Int × ByteArray × Bool × List (Int × Bool)) e_api_Partition l /\ (l.length < 4611686018427387904 /\ ∀ (x : Prt), x ∈ l -> x.snd.snd.snd.length < 4611686018427387904) /\ ∃ (l : List Sch), PV.sl (Int × Int × List (Int × Int × Int) × List (Int × Int × Int)) e_api_Schedule ss = PV.sl (Int × Int × List (Int × Int × Int) × List (Int × Int × Int)) e_api_Schedule l /\ PV.sl (Int × Int × List (Int × Int × Int) × List (Int × Int × Int)) e_api_Schedule ss = PV.sl (Int × Int × List (Int × Int × Int) × List (Int × Int × Int)) e_api_Schedule l /\ (l.length < 4611686018427387904 /\ ∀ (x : Sch), x ∈ l -> x.snd.snd.fst.length < 4611686018427387904 /\ x.snd.snd.snd.length < 4611686018427387904) /\ ∃ (l : List Pr), ∃ (m : List Pr), PV.sl (Int × Int) e_api_Pair rs = PV.sl (Int × Int) e_api_Pair l /\ PV.sl (Int × Int) e_api_Pair rs = PV.sl (Int × Int) e_api_Pair m /\ l.length < 4611686018427387904 /\ bif decide (l = m) then ∃ (l : List Act3), ∃ (m : List Act3), PV.sl (Int × Int × Int) e_api_Act ac = PV.sl (Int × Int × Int) e_api_Act l /\ PV.sl (Int × Int × Int) e_api_Act ac = PV.sl (Int × Int × Int) e_api_Act m /\ l.length < 4611686018427387904 /\ k [.bool (decide (l = m))] [] else k [.bool false] [] else k [.bool false] []
else k [PV.bool false] []) := by kernel_rfl
def same12S : SpecS := fun ys Φ => match ys with
 | [x_0, x_1] => ∃ (ep : Int), ∃ (fi : Int), ∃ (ps : List Prt), ∃ (ss : List Sch), ∃ (rs : List Pr), ∃ (ac : List Act3), x_0 = .agg [.int .u64 ep, .int .i64 fi, .sl _ e_api_Partition ps, .sl _ e_api_Schedule ss, .sl _ e_api_Pair rs, .sl _ e_api_Act ac] /\ x_1 = .agg [.int .u64 ep, .int .i64 fi, .sl _ e_api_Partition ps, .sl _ e_api_Schedule ss, .sl _ e_api_Pair rs, .sl _ e_api_Act ac] /\ ((ps.length < 4611686018427387904 /\ ss.length < 4611686018427387904 /\ rs.length < 4611686018427387904 /\ ac.length < 4611686018427387904) /\ (∀ x, x ∈ ps -> x.2.2.2.length < 4611686018427387904) /\ (∀ x, x ∈ ss -> x.2.2.1.length < 4611686018427387904 /\ x.2.2.2.length < 4611686018427387904)) /\ Φ [.bool true]
 | _ => False
theorem same12S_mono : MonoS same12S := by
 intro ys Φ Ψ h hF
 unfold same12S at hF ⊢
 split at hF
 ·obtain ⟨a0, a1, a2, a3, a4, a5, q0, q1, hp, hk⟩ := hF; exact ⟨a0, a1, a2, a3, a4, a5, q0, q1, hp, h _ hk⟩
 ·exact hF.elim
theorem same12S_inv {ys : List PV} {Φ : List PV -> Prop} (h : same12S ys Φ) : ∃ (ep : Int) (fi : Int) (ps : List Prt) (ss : List Sch) (rs : List Pr) (ac : List Act3), ys = [.agg [.int .u64 ep, .int .i64 fi, .sl _ e_api_Partition ps, .sl _ e_api_Schedule ss, .sl _ e_api_Pair rs, .sl _ e_api_Act ac], .agg [.int .u64 ep, .int .i64 fi, .sl _ e_api_Partition ps, .sl _ e_api_Schedule ss, .sl _ e_api_Pair rs, .sl _ e_api_Act ac]] /\ ((ps.length < 4611686018427387904 /\ ss.length < 4611686018427387904 /\ rs.length < 4611686018427387904 /\ ac.length < 4611686018427387904) /\ (∀ x, x ∈ ps -> x.2.2.2.length < 4611686018427387904) /\ (∀ x, x ∈ ss -> x.2.2.1.length < 4611686018427387904 /\ x.2.2.2.length < 4611686018427387904)) /\ Φ [.bool true] := by
 unfold same12S at h
 split at h
 ·obtain ⟨a0, a1, a2, a3, a4, a5, q0, q1, hz⟩ := h
  subst q0
  subst q1
  exact ⟨a0, a1, a2, a3, a4, a5, rfl, hz⟩
 ·exact h.elim
theorem ok_same12 : FunS B 11 same12S := by
 refine funS_of (N := 45) (f := ff_same12) env_IN2 mixed fn_same12 (by kernel_rfl) (by kernel_rfl) (by kernel_rfl) same12S_mono ?_
 intro A k ys hA hF
 obtain ⟨ep, fi, ps, ss, rs, ac, rfl, ⟨⟨n1, n2, n3, n4⟩, w1, w2⟩, hk⟩ := same12S_inv hF; clear hF
 refine ⟨by kernel_rfl, (hA.nf (nf_same12 A k ep fi ps ss rs ac) ?_)⟩
 rw [beq_self_eq_true, beq_self_eq_true, cond_true, cond_true]
 refine ⟨ps, rfl, rfl, ⟨n1, w1⟩, ss, rfl, rfl, ⟨n2, w2⟩, rs, rs, rfl, rfl, n3, ?_⟩
 rw [decide_eq_true (rfl : rs = rs), cond_true]
 refine ⟨ac, ac, rfl, rfl, n4, ?_⟩
 rw [decide_eq_true (rfl : ac = ac)]
 exact hk
noncomputable def IN3 := base (fun g => match g with | 10 => some (lift 0 decSp) | _ => none) (fun g => match g with | 12 => some ofS | _ => none) (fun _ => none)
theorem env_IN3 : EnvOk IN3 := env_of (by
 intro g F h
 split at h
 ·cases h; exact of_ok
 ·cases h) (by
 intro g F h
 split at h
 ·cases h; exact (lift_ok ok_dec)
 ·cases h) (fun g F h => (by cases h))
def aw12S : SpecS := fun ys Φ => match ys with
 | [] => Φ [.bool true]
 | _ => False
theorem aw12S_mono : MonoS aw12S := by
 intro ys Φ Ψ h hF
 unfold aw12S at hF ⊢
 split at hF
 ·exact h _ hF
 ·exact hF.elim
theorem aw12S_inv {ys : List PV} {Φ : List PV -> Prop} (h : aw12S ys Φ) : ys = [] /\ Φ [.bool true] := by
 unfold aw12S at h
 split at h
 ·exact ⟨rfl, h⟩
 ·exact h.elim
theorem fn_awake12 : FnOk Tryz.prog 8 Tryz.f8 (bodyOf Tryz.f8) := ⟨by kernel_rfl, by kernel_rfl, by kernel_rfl⟩
noncomputable def ff_awake12 : Fun := ⟨Tryz.f8.ntmps, 0, Tryz.f8.results.toList, fun _ => none, fun _ => false, fun _ => []⟩
theorem nf_awake12 (A : KA Kd) (k : List PV -> Heap Kd -> Prop)  : evT IN3 ff_awake12 A k 400 false [.code (bodyOf Tryz.f8)] (startEnv 11 []) [] = ((ByteArray.mk #[]).size < 1099511627776 /\ k [.bool ((ofE (decE (ByteArray.mk #[]))).fst == 2 && ((ofE (decE (ByteArray.mk #[]))).snd.fst == 1 && ((ofE (decE (ByteArray.mk #[]))).snd.snd == 0 && true)))] []) := by kernel_rfl
theorem ok_awake12 : FunS B 8 aw12S := by
 refine funS_of (N := 11) (f := ff_awake12) env_IN3 mixed fn_awake12 (by kernel_rfl) (by kernel_rfl) (by kernel_rfl) aw12S_mono ?_
 intro A k ys hA hF
 obtain ⟨rfl, hk⟩ := aw12S_inv hF; clear hF
 refine ⟨by kernel_rfl, (hA.nf (nf_awake12 A k) ?_)⟩
 have e : decE (ByteArray.mk #[]) = .sec 1 (.plc 0 (.cls 2)) := by kernel_rfl
 rw [e]
 exact ⟨by decide, hk⟩
end Go.Ab.T
