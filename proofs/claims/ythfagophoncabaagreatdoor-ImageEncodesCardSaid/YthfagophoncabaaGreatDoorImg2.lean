import Derived.Test.YthfagophoncabaaGreatDoorImg1
import Derived.Test.YthfagophoncabaaGreatDoorHeaderPut
import Derived.Test.YthfagophoncabaaGreatDoorSame89
import Derived.Test.YthfagophoncabaaGreatDoorMaB
set_option linter.unusedVariables false
set_option linter.unusedSimpArgs false
set_option linter.unusedSectionVars false
namespace Go.Ab.T
open Go Go.Ab Go.Proofs
set_option maxRecDepth 100000
set_option maxHeartbeats 4000000
noncomputable def IN0 := base (fun _ => none) (fun _ => none) (fun _ => none)
theorem env_IN0 : EnvOk IN0 := env_of (fun g F h => (by cases h)) (fun g F h => (by cases h)) (fun g F h => (by cases h))
def hd12S : SpecS := fun ys Φ => match ys with
 | [x_0] => ∃ (ep : Int), ∃ (fi : Int), ∃ (ps : List Prt), ∃ (ss : List Sch), ∃ (rs : List Pr), ∃ (ac : List Act3), x_0 = .agg [.int .u64 ep, .int .i64 fi, .sl _ e_api_Partition ps, .sl _ e_api_Schedule ss, .sl _ e_api_Pair rs, .sl _ e_api_Act ac] /\ Φ [.agg [.int .u32 0, .int .u64 ep, .int .i64 fi, .int .i64 (ps.length : Int), .int .i64 (ss.length : Int), .int .i64 (rs.length : Int), .int .i64 (ac.length : Int)]]
 | _ => False
theorem hd12S_mono : MonoS hd12S := by
 intro ys Φ Ψ h hF
 unfold hd12S at hF ⊢
 split at hF
 ·obtain ⟨a0, a1, a2, a3, a4, a5, q0, hk⟩ := hF; exact ⟨a0, a1, a2, a3, a4, a5, q0, h _ hk⟩
 ·exact hF.elim
theorem hd12S_inv {ys : List PV} {Φ : List PV -> Prop} (h : hd12S ys Φ) : ∃ (ep : Int) (fi : Int) (ps : List Prt) (ss : List Sch) (rs : List Pr) (ac : List Act3), ys = [.agg [.int .u64 ep, .int .i64 fi, .sl _ e_api_Partition ps, .sl _ e_api_Schedule ss, .sl _ e_api_Pair rs, .sl _ e_api_Act ac]] /\ Φ [.agg [.int .u32 0, .int .u64 ep, .int .i64 fi, .int .i64 (ps.length : Int), .int .i64 (ss.length : Int), .int .i64 (rs.length : Int), .int .i64 (ac.length : Int)]] := by
 unfold hd12S at h
 split at h
 ·obtain ⟨a0, a1, a2, a3, a4, a5, q0, hz⟩ := h
  subst q0
  exact ⟨a0, a1, a2, a3, a4, a5, rfl, hz⟩
 ·exact h.elim
theorem fn_hd12 : FnOk Tryz.prog 21 Tryz.f21 (bodyOf Tryz.f21) := ⟨by kernel_rfl, by kernel_rfl, by kernel_rfl⟩
noncomputable def ff_hd12 : Fun := ⟨Tryz.f21.ntmps, 0, Tryz.f21.results.toList, fun _ => none, fun _ => false, fun _ => []⟩
theorem nf_hd12 (A : KA Kd) (k : List PV -> Heap Kd -> Prop) (ep fi : Int) (ps : List Prt) (ss : List Sch) (rs : List Pr) (ac : List Act3) : evT IN0 ff_hd12 A k 400 false [.code (bodyOf Tryz.f21)] (startEnv 20 [.agg [.int .u64 ep, .int .i64 fi, .sl _ e_api_Partition ps, .sl _ e_api_Schedule ss, .sl _ e_api_Pair rs, .sl _ e_api_Act ac]]) [] = (k [.agg [.int .u32 0, .int .u64 ep, .int .i64 fi, .int .i64 (↑ps.length : Int), .int .i64 (↑ss.length : Int), .int .i64 (↑rs.length : Int), .int .i64 (↑ac.length : Int)]] []) := by kernel_rfl
theorem ok_hd12 : FunS B 21 hd12S := by
 refine funS_of (N := 20) (f := ff_hd12) env_IN0 mixed fn_hd12 (by kernel_rfl) (by kernel_rfl) (by kernel_rfl) hd12S_mono ?_
 intro A k ys hA hF
 obtain ⟨ep, fi, ps, ss, rs, ac, rfl, hk⟩ := hd12S_inv hF; clear hF
 exact ⟨by kernel_rfl, (hA.nf (nf_hd12 A k ep fi ps ss rs ac) hk)⟩
noncomputable def IN1 := base (fun _ => none) (fun g => match g with | 32 => some rSum02S | 31 => some r01TS | 22 => some rWrong8S | 26 => some rText8S | 23 => some rWrong9S | 27 => some rText9S | 24 => some rWrong10S | 28 => some rText10S | 25 => some rWrong11S | 29 => some rText11S | 20 => some rRightS | 30 => some rText7S | 21 => some hd12S | _ => none) (fun _ => none)
theorem env_IN1 : EnvOk IN1 := env_of (by
 intro g F h
 split at h
 ·cases h; exact ok_rSum02
 ·cases h; exact ok_r01T
 ·cases h; exact ok_rWrong8
 ·cases h; exact ok_rText8
 ·cases h; exact ok_rWrong9
 ·cases h; exact ok_rText9
 ·cases h; exact ok_rWrong10
 ·cases h; exact ok_rText10
 ·cases h; exact ok_rWrong11
 ·cases h; exact ok_rText11
 ·cases h; exact ok_rRight7
 ·cases h; exact ok_rText7
 ·cases h; exact ok_hd12
 ·cases h) (fun g F h => (by cases h)) (fun g F h => (by cases h))
theorem fn_wr12 : FnOk Tryz.prog 7 Tryz.f7 (bodyOf Tryz.f7) := ⟨by kernel_rfl, by kernel_rfl, by kernel_rfl⟩
noncomputable def ff_wr12 : Fun := ⟨Tryz.f7.ntmps, 0, Tryz.f7.results.toList, fun i => match i with | 2 => some [2, 20, 21, 22] | _ => none, fun _ => false, fun _ => []⟩
theorem nf_wr12_a (A : KA Kd) (k : List PV -> Heap Kd -> Prop) (ep fi : Int) (ps : List Prt) (ss : List Sch) (rs : List Pr) (ac : List Act3) : evT IN1 ff_wr12 A k 400 false [.code (bodyOf Tryz.f7)] (startEnv 32 [.agg [.int .u64 ep, .int .i64 fi, .sl _ e_api_Partition ps, .sl _ e_api_Schedule ss, .sl _ e_api_Pair rs, .sl _ e_api_Act ac]]) [] = (∃ (ep_1 : Int), ∃ (fi_1 : Int), ∃ (ps_1 : List Prt), ∃ (ss_1 : List Sch), ∃ (rs_1 : List Pr), ∃ (ac_1 : List Act3), PV.agg [PV.int IntKind.u64 ep, PV.int IntKind.i64 fi, PV.sl (Int × ByteArray × Bool × List (Int × Bool)) e_api_Partition ps, PV.sl (Int × Int × List (Int × Int × Int) × List (Int × Int × Int)) e_api_Schedule ss, PV.sl (Int × Int) e_api_Pair rs, PV.sl (Int × Int × Int) e_api_Act ac] = PV.agg [PV.int IntKind.u64 ep_1, PV.int IntKind.i64 fi_1, PV.sl (Int × ByteArray × Bool × List (Int × Bool)) e_api_Partition ps_1, PV.sl (Int × Int × List (Int × Int × Int) × List (Int × Int × Int)) e_api_Schedule ss_1, PV.sl (Int × Int) e_api_Pair rs_1, PV.sl (Int × Int × Int) e_api_Act ac_1] /\ ∃ (l : List Prt), PV.sl (Int × ByteArray × Bool × List (Int × Bool)) e_api_Partition ps = PV.sl (Int × ByteArray × Bool × List (Int × Bool)) e_api_Partition l /\ l.length < 100000 /\ ∃ (l_1 : List Sch), PV.sl (Int × Int × List (Int × Int × Int) × List (Int × Int × Int)) e_api_Schedule ss = PV.sl (Int × Int × List (Int × Int × Int) × List (Int × Int × Int)) e_api_Schedule l_1 /\ (l_1.length < 100000 /\ ∀ (x : Sch), x ∈ l_1 -> x.snd.snd.fst.length < 9223372036854775808 /\ x.snd.snd.snd.length < 9223372036854775808) /\ ∃ (l_2 : List Pr), PV.sl (Int × Int) e_api_Pair rs = PV.sl (Int × Int) e_api_Pair l_2 /\ l_2.length < 100000 /\ ∃ (l_3 : List Act3), PV.sl (Int × Int × Int) e_api_Act ac = PV.sl (Int × Int × Int) e_api_Act l_3 /\ l_3.length < 100000 /\ ∃ (zs : List (Int × Int × Int)), List.map e_api_Fault zs = [PV.agg [PV.int IntKind.i64 (ofE (hdrE fi_1 (↑ps_1.length : Int) (↑ss_1.length : Int) (↑rs_1.length : Int) (↑ac_1.length : Int))).fst, PV.int IntKind.i64 (ofE (hdrE fi_1 (↑ps_1.length : Int) (↑ss_1.length : Int) (↑rs_1.length : Int) (↑ac_1.length : Int))).snd.fst, PV.int IntKind.i64 (ofE (hdrE fi_1 (↑ps_1.length : Int) (↑ss_1.length : Int) (↑rs_1.length : Int) (↑ac_1.length : Int))).snd.snd], PV.agg [PV.int IntKind.i64 (ofE (prtsE none (0 : Nat) l)).fst, PV.int IntKind.i64 (ofE (prtsE none (0 : Nat) l)).snd.fst, PV.int IntKind.i64 (ofE (prtsE none (0 : Nat) l)).snd.snd], PV.agg [PV.int IntKind.i64 (ofE (schsE none (0 : Nat) l_1)).fst, PV.int IntKind.i64 (ofE (schsE none (0 : Nat) l_1)).snd.fst, PV.int IntKind.i64 (ofE (schsE none (0 : Nat) l_1)).snd.snd], PV.agg [PV.int IntKind.i64 (ofE (prsE none (0 : Nat) l_2)).fst, PV.int IntKind.i64 (ofE (prsE none (0 : Nat) l_2)).snd.fst, PV.int IntKind.i64 (ofE (prsE none (0 : Nat) l_2)).snd.snd], PV.agg [PV.int IntKind.i64 (ofE (actsE none (0 : Nat) l_3)).fst, PV.int IntKind.i64 (ofE (actsE none (0 : Nat) l_3)).snd.fst, PV.int IntKind.i64 (ofE (actsE none (0 : Nat) l_3)).snd.snd]] /\ A (td Tryz.f7 2) (envAt 32 [(2, .ptr 0 0), (20, .own 1), (21, .int .i64 (↑zs.length : Int)), (22, .int .i64 0)]) [.box [.int .i64 0, .int .i64 0, .int .i64 0], .row 33 zs]) := by kernel_rfl
theorem nf_wr12_b (A : KA Kd) (k : List PV -> Heap Kd -> Prop) (l : List (Int × Int × Int)) (n i : Int) : evT IN1 ff_wr12 A k 400 true (td Tryz.f7 2) (envAt 32 [(2, .ptr 0 0), (20, .own 1), (21, .int .i64 n), (22, .int .i64 i)]) [.box [.int .i64 0, .int .i64 0, .int .i64 0], .row 33 l] = (bif decide (i < n) then (0 <= i /\ i < (↑l.length : Int)) /\ ∀ (y : (Int × Int × Int)), l[i.toNat]? = some y -> bif y.fst != 0 then k [.agg [.int .i64 y.fst, .int .i64 y.snd.fst, .int .i64 y.snd.snd]] [] else A (td Tryz.f7 2) (envAt 32 [(2, .ptr 0 0), (20, .own 1), (21, .int .i64 n), (22, .int .i64 (IntKind.i64.wrap (i + 1)))]) [.box [.int .i64 0, .int .i64 0, .int .i64 0], .row 33 l]
else k [PV.agg [PV.int IntKind.i64 (0 : Int), PV.int IntKind.i64 (0 : Int), PV.int IntKind.i64 (0 : Int)]] []) := by kernel_rfl
def wr12S : SpecS := fun ys Φ => match ys with
 | [x_0] => ∃ (ep : Int), ∃ (fi : Int), ∃ (ps : List Prt), ∃ (ss : List Sch), ∃ (rs : List Pr), ∃ (ac : List Act3), x_0 = .agg [.int .u64 ep, .int .i64 fi, .sl _ e_api_Partition ps, .sl _ e_api_Schedule ss, .sl _ e_api_Pair rs, .sl _ e_api_Act ac] /\ ((ps.length < 100000 /\ ss.length < 100000 /\ rs.length < 100000 /\ ac.length < 100000) /\ (∀ x, x ∈ ss -> x.2.2.1.length < 9223372036854775808 /\ x.2.2.2.length < 9223372036854775808)) /\ Φ [.agg [.int .i64 (ofE (imgE (ep, fi, ps, ss, rs, ac))).1, .int .i64 (ofE (imgE (ep, fi, ps, ss, rs, ac))).2.1, .int .i64 (ofE (imgE (ep, fi, ps, ss, rs, ac))).2.2]]
 | _ => False
theorem wr12S_mono : MonoS wr12S := by
 intro ys Φ Ψ h hF
 unfold wr12S at hF ⊢
 split at hF
 ·obtain ⟨a0, a1, a2, a3, a4, a5, q0, hp, hk⟩ := hF; exact ⟨a0, a1, a2, a3, a4, a5, q0, hp, h _ hk⟩
 ·exact hF.elim
theorem wr12S_inv {ys : List PV} {Φ : List PV -> Prop} (h : wr12S ys Φ) : ∃ (ep : Int) (fi : Int) (ps : List Prt) (ss : List Sch) (rs : List Pr) (ac : List Act3), ys = [.agg [.int .u64 ep, .int .i64 fi, .sl _ e_api_Partition ps, .sl _ e_api_Schedule ss, .sl _ e_api_Pair rs, .sl _ e_api_Act ac]] /\ ((ps.length < 100000 /\ ss.length < 100000 /\ rs.length < 100000 /\ ac.length < 100000) /\ (∀ x, x ∈ ss -> x.2.2.1.length < 9223372036854775808 /\ x.2.2.2.length < 9223372036854775808)) /\ Φ [.agg [.int .i64 (ofE (imgE (ep, fi, ps, ss, rs, ac))).1, .int .i64 (ofE (imgE (ep, fi, ps, ss, rs, ac))).2.1, .int .i64 (ofE (imgE (ep, fi, ps, ss, rs, ac))).2.2]] := by
 unfold wr12S at h
 split at h
 ·obtain ⟨a0, a1, a2, a3, a4, a5, q0, hz⟩ := h
  subst q0
  exact ⟨a0, a1, a2, a3, a4, a5, rfl, hz⟩
 ·exact h.elim
theorem wr12_loop (A : KA Kd) (k : List PV -> Heap Kd -> Prop) (hA : Closed IN1 ff_wr12 k A) (l : List F3) (hl : l.length < 100000) :
 ∀ i, i <= l.length -> k [.agg [.int .i64 (firstF (l.drop i)).1, .int .i64 (firstF (l.drop i)).2.1, .int .i64 (firstF (l.drop i)).2.2]] [] ->
  A (td Tryz.f7 2) (envAt 32 [(2, .ptr 0 0), (20, .own 1), (21, .int .i64 (l.length : Int)), (22, .int .i64 (i : Int))]) [.box [.int .i64 0, .int .i64 0, .int .i64 0], .row 33 l] := by
 refine down_loop l _ ?_ ?_
 ·intro hk
  refine (hA.nf (nf_wr12_b A k l _ _) ?_)
  rw [ilt_false (Nat.lt_irrefl _)]
  rw [List.drop_length] at hk; exact hk
 ·intro i y hy ih hk
  have hlt := lt_of_get hy
  refine (hA.nf (nf_wr12_b A k l _ _) ?_)
  rw [ilt_true hlt, cond_true]
  refine get_at hy ?_
  rw [drop_cons' hy, firstF] at hk
  cases c : y.1 != 0 with
  | true => rw [c] at hk; exact hk
  | false => rw [c] at hk; rw [cond_false, wrap_succ (by omega)]; exact ih hk
theorem ok_wr12 : FunS B 7 wr12S := by
 refine funS_of (N := 32) (f := ff_wr12) env_IN1 mixed fn_wr12 (by kernel_rfl) (by kernel_rfl) (by kernel_rfl) wr12S_mono ?_
 intro A k ys hA hF
 obtain ⟨ep, fi, ps, ss, rs, ac, rfl, ⟨⟨n1, n2, n3, n4⟩, hw⟩, hk⟩ := wr12S_inv hF; clear hF
 refine ⟨by kernel_rfl, (hA.nf (nf_wr12_a A k ep fi ps ss rs ac) ?_)⟩
 refine ⟨ep, fi, ps, ss, rs, ac, rfl, ps, rfl, n1, ss, rfl, ⟨n2, hw⟩, rs, rfl, n3, ac, rfl, n4, (imgEs (ep, fi, ps, ss, rs, ac)).map ofE, rfl, ?_⟩
 refine wr12_loop A k hA ((imgEs (ep, fi, ps, ss, rs, ac)).map ofE) (show 5 < 100000 by decide) 0 (Nat.zero_le _) ?_
 rw [List.drop_zero, firstF_ofE _ (imgEs_good _)]
 exact hk
theorem fn_long12 : FnOk Tryz.prog 6 Tryz.f6 (bodyOf Tryz.f6) := ⟨by kernel_rfl, by kernel_rfl, by kernel_rfl⟩
noncomputable def ff_long12 : Fun := ⟨Tryz.f6.ntmps, 0, Tryz.f6.results.toList, fun i => match i with | 7 => some [1, 3, 5] | 3 => some [1, 3, 4] | _ => none, fun _ => false, fun _ => []⟩
theorem nf_long12_a (A : KA Kd) (k : List PV -> Heap Kd -> Prop) (ep fi : Int) (ps : List Prt) (ss : List Sch) (rs : List Pr) (ac : List Act3) : evT IN1 ff_long12 A k 400 false [.code (bodyOf Tryz.f6)] (startEnv 80 [.agg [.int .u64 ep, .int .i64 fi, .sl _ e_api_Partition ps, .sl _ e_api_Schedule ss, .sl _ e_api_Pair rs, .sl _ e_api_Act ac]]) [] = (A (td Tryz.f6 3) (envAt 80 [(1, .ptr 0 0), (3, .int .i64 0), (4, .int .i64 0)]) [.box [.int .u64 ep, .int .i64 fi, .sl (Int × ByteArray × Bool × List (Int × Bool)) e_api_Partition ps, .sl (Int × Int × List (Int × Int × Int) × List (Int × Int × Int)) e_api_Schedule ss, .sl (Int × Int) e_api_Pair rs, .sl (Int × Int × Int) e_api_Act ac]]) := by kernel_rfl
theorem nf_long12_b (A : KA Kd) (k : List PV -> Heap Kd -> Prop) (ep fi n i : Int) (ps : List Prt) (ss : List Sch) (rs : List Pr) (ac : List Act3) : evT IN1 ff_long12 A k 400 true (td Tryz.f6 3) (envAt 80 [(1, .ptr 0 0), (3, .int .i64 n), (4, .int .i64 i)]) [.box [.int .u64 ep, .int .i64 fi, .sl _ e_api_Partition ps, .sl _ e_api_Schedule ss, .sl _ e_api_Pair rs, .sl _ e_api_Act ac]] = (bif decide (i < (↑ps.length : Int)) then (0 <= i /\ i < (↑ps.length : Int)) /\ ∀ (y : Int × ByteArray × Bool × List (Int × Bool)), ps[i.toNat]? = some y -> (0 <= i /\ i < (↑ps.length : Int)) /\ ∀ (y_1 : Int × ByteArray × Bool × List (Int × Bool)), ps[i.toNat]? = some y_1 -> A (td Tryz.f6 3) (envAt 80 [(1, .ptr 0 0), (3, .int .i64 (IntKind.i64.wrap (n + IntKind.i64.wrap ((↑y.snd.snd.snd.length : Int) + (↑y_1.snd.fst.size : Int))))), (4, .int .i64 (IntKind.i64.wrap (i + 1)))]) [.box [.int .u64 ep, .int .i64 fi, .sl (Int × ByteArray × Bool × List (Int × Bool)) e_api_Partition ps, .sl (Int × Int × List (Int × Int × Int) × List (Int × Int × Int)) e_api_Schedule ss, .sl (Int × Int) e_api_Pair rs, .sl (Int × Int × Int) e_api_Act ac]]
else A (td Tryz.f6 (7 : Nat)) (envAt (80 : Nat) [((1 : Nat), PV.ptr (0 : Nat) (0 : Nat)), ((3 : Nat), PV.int IntKind.i64 n), ((5 : Nat), PV.int IntKind.i64 (0 : Int))]) [AObj.box [PV.int IntKind.u64 ep, PV.int IntKind.i64 fi, PV.sl (Int × ByteArray × Bool × List (Int × Bool)) e_api_Partition ps, PV.sl (Int × Int × List (Int × Int × Int) × List (Int × Int × Int)) e_api_Schedule ss, PV.sl (Int × Int) e_api_Pair rs, PV.sl (Int × Int × Int) e_api_Act ac]]) := by kernel_rfl
theorem nf_long12_c (A : KA Kd) (k : List PV -> Heap Kd -> Prop) (ep fi n i : Int) (ps : List Prt) (ss : List Sch) (rs : List Pr) (ac : List Act3) : evT IN1 ff_long12 A k 400 true (td Tryz.f6 7) (envAt 80 [(1, .ptr 0 0), (3, .int .i64 n), (5, .int .i64 i)]) [.box [.int .u64 ep, .int .i64 fi, .sl _ e_api_Partition ps, .sl _ e_api_Schedule ss, .sl _ e_api_Pair rs, .sl _ e_api_Act ac]] = (bif decide (i < (↑ss.length : Int)) then (0 <= i /\ i < (↑ss.length : Int)) /\ ∀ (y : Int × Int × List (Int × Int × Int) × List (Int × Int × Int)), ss[i.toNat]? = some y -> (0 <= i /\ i < (↑ss.length : Int)) /\ ∀ (y_1 : Int × Int × List (Int × Int × Int) × List (Int × Int × Int)), ss[i.toNat]? = some y_1 -> A (td Tryz.f6 7) (envAt 80 [(1, .ptr 0 0), (3, .int .i64 (IntKind.i64.wrap (n + IntKind.i64.wrap ((↑y.snd.snd.fst.length : Int) + (↑y_1.snd.snd.snd.length : Int))))), (5, .int .i64 (IntKind.i64.wrap (i + 1)))]) [.box [.int .u64 ep, .int .i64 fi, .sl (Int × ByteArray × Bool × List (Int × Bool)) e_api_Partition ps, .sl (Int × Int × List (Int × Int × Int) × List (Int × Int × Int)) e_api_Schedule ss, .sl (Int × Int) e_api_Pair rs, .sl (Int × Int × Int) e_api_Act ac]]
else bif decide ((↑ps.length : Int) > (40 : Int)) then k [PV.bool true] [] else bif decide ((↑ss.length : Int) > (20 : Int)) then k [PV.bool true] [] else bif decide ((↑rs.length : Int) > (250 : Int)) then k [PV.bool true] [] else bif decide ((↑ac.length : Int) > (520 : Int)) then k [PV.bool true] [] else k [PV.bool (decide (n > (700 : Int)))] []) := by kernel_rfl
def long12S : SpecS := fun ys Φ => match ys with
 | [x_0] => ∃ (ep : Int), ∃ (fi : Int), ∃ (ps : List Prt), ∃ (ss : List Sch), ∃ (rs : List Pr), ∃ (ac : List Act3), x_0 = .agg [.int .u64 ep, .int .i64 fi, .sl _ e_api_Partition ps, .sl _ e_api_Schedule ss, .sl _ e_api_Pair rs, .sl _ e_api_Act ac] /\ (ps.length <= 9223372036854775807 /\ ss.length <= 9223372036854775807) /\ Φ [.bool (longM (ep, fi, ps, ss, rs, ac))]
 | _ => False
theorem long12S_mono : MonoS long12S := by
 intro ys Φ Ψ h hF
 unfold long12S at hF ⊢
 split at hF
 ·obtain ⟨a0, a1, a2, a3, a4, a5, q0, hp, hk⟩ := hF; exact ⟨a0, a1, a2, a3, a4, a5, q0, hp, h _ hk⟩
 ·exact hF.elim
theorem long12S_inv {ys : List PV} {Φ : List PV -> Prop} (h : long12S ys Φ) : ∃ (ep : Int) (fi : Int) (ps : List Prt) (ss : List Sch) (rs : List Pr) (ac : List Act3), ys = [.agg [.int .u64 ep, .int .i64 fi, .sl _ e_api_Partition ps, .sl _ e_api_Schedule ss, .sl _ e_api_Pair rs, .sl _ e_api_Act ac]] /\ (ps.length <= 9223372036854775807 /\ ss.length <= 9223372036854775807) /\ Φ [.bool (longM (ep, fi, ps, ss, rs, ac))] := by
 unfold long12S at h
 split at h
 ·obtain ⟨a0, a1, a2, a3, a4, a5, q0, hz⟩ := h
  subst q0
  exact ⟨a0, a1, a2, a3, a4, a5, rfl, hz⟩
 ·exact h.elim
theorem ok_long12 : FunS B 6 long12S := by
 refine funS_of (N := 80) (f := ff_long12) env_IN1 mixed fn_long12 (by kernel_rfl) (by kernel_rfl) (by kernel_rfl) long12S_mono ?_
 intro A k ys hA hF
 obtain ⟨ep, fi, ps, ss, rs, ac, rfl, ⟨n1, n2⟩, hk⟩ := long12S_inv hF; clear hF
 refine ⟨by kernel_rfl, (hA.nf (nf_long12_a A k ep fi ps ss rs ac) ?_)⟩
 unfold longM at hk
 have second : ∀ i, i <= ss.length -> ∀ n : Int, k [.bool (bif decide ((ps.length : Int) > 40) then true else bif decide ((ss.length : Int) > 20) then true else bif decide ((rs.length : Int) > 250) then true else bif decide ((ac.length : Int) > 520) then true else decide (lnS n (ss.drop i) > 700))] [] ->
  A (td Tryz.f6 7) (envAt 80 [(1, .ptr 0 0), (3, .int .i64 n), (5, .int .i64 (i : Int))]) [.box [.int .u64 ep, .int .i64 fi, .sl _ e_api_Partition ps, .sl _ e_api_Schedule ss, .sl _ e_api_Pair rs, .sl _ e_api_Act ac]] := by
  refine down_loop ss _ ?_ ?_
  ·intro n hk
   refine (hA.nf (nf_long12_c A k ep fi n _ ps ss rs ac) ?_)
   rw [ilt_false (Nat.lt_irrefl _), cond_false]
   rw [List.drop_length] at hk
   cases c1 : decide ((ps.length : Int) > 40) with
   | true => rw [c1] at hk; exact hk
   | false =>
   cases c2 : decide ((ss.length : Int) > 20) with
   | true => rw [c1, c2] at hk; exact hk
   | false =>
   cases c3 : decide ((rs.length : Int) > 250) with
   | true => rw [c1, c2, c3] at hk; exact hk
   | false =>
   cases c4 : decide ((ac.length : Int) > 520) with
   | true => rw [c1, c2, c3, c4] at hk; exact hk
   | false => rw [c1, c2, c3, c4] at hk; exact hk
  ·intro i y hy ih n hk
   have hlt := lt_of_get hy
   refine (hA.nf (nf_long12_c A k ep fi n _ ps ss rs ac) ?_)
   rw [ilt_true hlt, cond_true]
   refine get_at hy (get_at hy ?_)
   rw [wrap_succ' (by omega)]
   refine ih _ ?_
   rw [drop_cons' hy, lnS] at hk
   exact hk
 have first : ∀ i, i <= ps.length -> ∀ n : Int, k [.bool (bif decide ((ps.length : Int) > 40) then true else bif decide ((ss.length : Int) > 20) then true else bif decide ((rs.length : Int) > 250) then true else bif decide ((ac.length : Int) > 520) then true else decide (lnS (lnP n (ps.drop i)) ss > 700))] [] ->
  A (td Tryz.f6 3) (envAt 80 [(1, .ptr 0 0), (3, .int .i64 n), (4, .int .i64 (i : Int))]) [.box [.int .u64 ep, .int .i64 fi, .sl _ e_api_Partition ps, .sl _ e_api_Schedule ss, .sl _ e_api_Pair rs, .sl _ e_api_Act ac]] := by
  refine down_loop ps _ ?_ ?_
  ·intro n hk
   refine (hA.nf (nf_long12_b A k ep fi n _ ps ss rs ac) ?_)
   rw [ilt_false (Nat.lt_irrefl _), cond_false]
   rw [List.drop_length] at hk
   exact second 0 (Nat.zero_le _) n hk
  ·intro i y hy ih n hk
   have hlt := lt_of_get hy
   refine (hA.nf (nf_long12_b A k ep fi n _ ps ss rs ac) ?_)
   rw [ilt_true hlt, cond_true]
   refine get_at hy (get_at hy ?_)
   rw [wrap_succ' (by omega)]
   refine ih _ ?_
   rw [drop_cons' hy, lnP] at hk
   exact hk
 exact first 0 (Nat.zero_le _) 0 hk
theorem fn_tx12 : FnOk Tryz.prog 9 Tryz.f9 (bodyOf Tryz.f9) := ⟨by kernel_rfl, by kernel_rfl, by kernel_rfl⟩
noncomputable def ff_tx12 : Fun := ⟨Tryz.f9.ntmps, 0, Tryz.f9.results.toList, fun i => match i with | 2 => some [1, 3] | 4 => some [3, 4] | 5 => some [5] | _ => none, fun i => match i with | 2 => true | 4 => true | 5 => true | _ => false, fun _ => []⟩
theorem nf_tx12_a (A : KA Kd) (k : List PV -> Heap Kd -> Prop) (ep fi : Int) (ps : List Prt) (ss : List Sch) (rs : List Pr) (ac : List Act3) : evT IN1 ff_tx12 A k 400 false [.code (bodyOf Tryz.f9)] (startEnv 38 [.agg [.int .u64 ep, .int .i64 fi, .sl _ e_api_Partition ps, .sl _ e_api_Schedule ss, .sl _ e_api_Pair rs, .sl _ e_api_Act ac]]) [] = (∃ (l : List Prt), PV.sl (Int × ByteArray × Bool × List (Int × Bool)) e_api_Partition ps = PV.sl (Int × ByteArray × Bool × List (Int × Bool)) e_api_Partition l /\ (l.length < 100000 /\ (∀ (x : Prt), x ∈ l -> (0 <= x.fst /\ x.fst <= 255) /\ rightN x.snd.fst = true /\ x.snd.snd.snd.length <= 16) /\ ∀ (x : Prt), x ∈ l -> ∀ (c : Cl), c ∈ x.snd.snd.snd -> 0 <= c.fst /\ c.fst < 4294967296) /\ ∃ (l_1 : List Sch), PV.sl (Int × Int × List (Int × Int × Int) × List (Int × Int × Int)) e_api_Schedule ss = PV.sl (Int × Int × List (Int × Int × Int) × List (Int × Int × Int)) e_api_Schedule l_1 /\ (l_1.length < 100000 /\ ∀ (x : Sch), x ∈ l_1 -> (0 <= x.fst /\ x.fst <= 255) /\ (1 <= x.snd.fst /\ x.snd.fst <= 1048576) /\ x.snd.snd.fst.length <= 256 /\ (∀ (w : W3), w ∈ x.snd.snd.fst -> okW w = true) /\ x.snd.snd.snd.length <= 32 /\ ∀ (w : W3), w ∈ x.snd.snd.snd -> okW w = true) /\ (ByteArray.mk (prtsB l).toArray).size + (ByteArray.mk (schsB l_1).toArray).size <= 9223372036854775807 /\ ∃ (l_2 : List Pr), PV.sl (Int × Int) e_api_Pair rs = PV.sl (Int × Int) e_api_Pair l_2 /\ (l_2.length < 100000 /\ ∀ (x : Pr), x ∈ l_2 -> inP x = true) /\ (ByteArray.mk (prtsB l).toArray ++ ByteArray.mk (schsB l_1).toArray).size + (ByteArray.mk (pairsB l_2).toArray).size <= 9223372036854775807 /\ ∃ (l_3 : List Act3), PV.sl (Int × Int × Int) e_api_Act ac = PV.sl (Int × Int × Int) e_api_Act l_3 /\ (l_3.length < 100000 /\ ∀ (x : Act3), x ∈ l_3 -> inA x = true /\ doesA x.snd.snd = true) /\ (ByteArray.mk (prtsB l).toArray ++ ByteArray.mk (schsB l_1).toArray ++ ByteArray.mk (pairsB l_2).toArray).size + (ByteArray.mk (actsB l_3).toArray).size <= 9223372036854775807 /\ A (tdr Tryz.f9 2) (envAt 38 [(1, .ptr 0 0), (3, .str (ByteArray.mk (prtsB l).toArray ++ ByteArray.mk (schsB l_1).toArray ++ ByteArray.mk (pairsB l_2).toArray ++ ByteArray.mk (actsB l_3).toArray))]) [.box [.int .u64 ep, .int .i64 fi, .sl (Int × ByteArray × Bool × List (Int × Bool)) e_api_Partition ps, .sl (Int × Int × List (Int × Int × Int) × List (Int × Int × Int)) e_api_Schedule ss, .sl (Int × Int) e_api_Pair rs, .sl (Int × Int × Int) e_api_Act ac]]) := by kernel_rfl
theorem nf_tx12_2 (A : KA Kd) (k : List PV -> Heap Kd -> Prop) (ep fi : Int) (ps : List Prt) (ss : List Sch) (rs : List Pr) (ac : List Act3) (b : ByteArray) : evT IN1 ff_tx12 A k 400 true (tdr Tryz.f9 2) (envAt 38 [(1, .ptr 0 0), (3, .str b)]) [.box [.int .u64 ep, .int .i64 fi, .sl _ e_api_Partition ps, .sl _ e_api_Schedule ss, .sl _ e_api_Pair rs, .sl _ e_api_Act ac]] = (∃ (ep_1 : Int), ∃ (fi_1 : Int), ∃ (ps_1 : List Prt), ∃ (ss_1 : List Sch), ∃ (rs_1 : List Pr), ∃ (ac_1 : List Act3), PV.agg [PV.int IntKind.u64 ep, PV.int IntKind.i64 fi, PV.sl (Int × ByteArray × Bool × List (Int × Bool)) e_api_Partition ps, PV.sl (Int × Int × List (Int × Int × Int) × List (Int × Int × Int)) e_api_Schedule ss, PV.sl (Int × Int) e_api_Pair rs, PV.sl (Int × Int × Int) e_api_Act ac] = PV.agg [PV.int IntKind.u64 ep_1, PV.int IntKind.i64 fi_1, PV.sl (Int × ByteArray × Bool × List (Int × Bool)) e_api_Partition ps_1, PV.sl (Int × Int × List (Int × Int × Int) × List (Int × Int × Int)) e_api_Schedule ss_1, PV.sl (Int × Int) e_api_Pair rs_1, PV.sl (Int × Int × Int) e_api_Act ac_1] /\ A (tdr Tryz.f9 4) (envAt 38 [(3, .str b), (4, .ptr 0 0)]) [.box [.int .u32 (IntKind.u32.wrap (IntKind.i64.wrap (27 + (↑b.size : Int)))), .int .u64 ep_1, .int .i64 fi_1, .int .i64 (↑ps_1.length : Int), .int .i64 (↑ss_1.length : Int), .int .i64 (↑rs_1.length : Int), .int .i64 (↑ac_1.length : Int)]]) := by kernel_rfl
theorem nf_tx12_4 (A : KA Kd) (k : List PV -> Heap Kd -> Prop) (h0 h1 h2 h3 h4 h5 h6 : Int) (b : ByteArray) : evT IN1 ff_tx12 A k 400 true (tdr Tryz.f9 4) (envAt 38 [(3, .str b), (4, .ptr 0 0)]) [.box [.int .u32 h0, .int .u64 h1, .int .i64 h2, .int .i64 h3, .int .i64 h4, .int .i64 h5, .int .i64 h6]] = (((0 <= h0 /\ h0 < 4294967296 /\ 0 <= h1 /\ h1 < 18446744073709551616) /\ (hdrE h2 h3 h4 h5 h6).isNil = true) /\ (ByteArray.mk (hdrL h0 h1 h2 h3 h4 h5 h6).toArray).size + b.size <= 9223372036854775807 /\ A (tdr Tryz.f9 5) (envAt 38 [(5, .str (ByteArray.mk (hdrL h0 h1 h2 h3 h4 h5 h6).toArray ++ b))]) []) := by kernel_rfl
theorem nf_tx12_5 (A : KA Kd) (k : List PV -> Heap Kd -> Prop) (b : ByteArray) : evT IN1 ff_tx12 A k 400 true (tdr Tryz.f9 5) (envAt 38 [(5, .str b)]) [] = (b.size < 4611686018427387904 /\ ((0 <= IntKind.u64.wrap (↑(crcN b.data.toList) : Int) /\ IntKind.u64.wrap (↑(crcN b.data.toList) : Int) < 18446744073709551616) /\ (0 : Int) <= (4 : Int) /\ (4 : Int) <= (100 : Int)) /\ b.size + (ByteArray.mk (beL (Int.toNat (4 : Int)) (IntKind.u64.wrap (↑(crcN b.data.toList) : Int)).toNat).toArray).size <= 9223372036854775807 /\ k [.str (b ++ ByteArray.mk (beL (Int.toNat (4 : Int)) (IntKind.u64.wrap (↑(crcN b.data.toList) : Int)).toNat).toArray)] []) := by kernel_rfl
def tx12S : SpecS := fun ys Φ => match ys with
 | [x_0] => ∃ (ep : Int), ∃ (fi : Int), ∃ (ps : List Prt), ∃ (ss : List Sch), ∃ (rs : List Pr), ∃ (ac : List Act3), x_0 = .agg [.int .u64 ep, .int .i64 fi, .sl _ e_api_Partition ps, .sl _ e_api_Schedule ss, .sl _ e_api_Pair rs, .sl _ e_api_Act ac] /\ (WfM (ep, fi, ps, ss, rs, ac) /\ (imgE (ep, fi, ps, ss, rs, ac)).isNil = true) /\ Φ [.str ⟨(imgL (ep, fi, ps, ss, rs, ac)).toArray⟩]
 | _ => False
theorem tx12S_mono : MonoS tx12S := by
 intro ys Φ Ψ h hF
 unfold tx12S at hF ⊢
 split at hF
 ·obtain ⟨a0, a1, a2, a3, a4, a5, q0, hp, hk⟩ := hF; exact ⟨a0, a1, a2, a3, a4, a5, q0, hp, h _ hk⟩
 ·exact hF.elim
theorem tx12S_inv {ys : List PV} {Φ : List PV -> Prop} (h : tx12S ys Φ) : ∃ (ep : Int) (fi : Int) (ps : List Prt) (ss : List Sch) (rs : List Pr) (ac : List Act3), ys = [.agg [.int .u64 ep, .int .i64 fi, .sl _ e_api_Partition ps, .sl _ e_api_Schedule ss, .sl _ e_api_Pair rs, .sl _ e_api_Act ac]] /\ (WfM (ep, fi, ps, ss, rs, ac) /\ (imgE (ep, fi, ps, ss, rs, ac)).isNil = true) /\ Φ [.str ⟨(imgL (ep, fi, ps, ss, rs, ac)).toArray⟩] := by
 unfold tx12S at h
 split at h
 ·obtain ⟨a0, a1, a2, a3, a4, a5, q0, hz⟩ := h
  subst q0
  exact ⟨a0, a1, a2, a3, a4, a5, rfl, hz⟩
 ·exact h.elim
theorem ok_tx12 : FunS B 9 tx12S := by
 refine funS_of (N := 38) (f := ff_tx12) env_IN1 mixed fn_tx12 (by kernel_rfl) (by kernel_rfl) (by kernel_rfl) tx12S_mono ?_
 intro A k ys hA hF
 obtain ⟨ep, fi, ps, ss, rs, ac, rfl, ⟨hw, he⟩, hk⟩ := tx12S_inv hF; clear hF
 refine ⟨by kernel_rfl, (hA.nf (nf_tx12_a A k ep fi ps ss rs ac) ?_)⟩
 obtain ⟨h1, h2, h3, h4, h5⟩ := img_parts he
 obtain ⟨n1, n2, n3, n4⟩ := img_counts he
 have hb := bodL_lt he
 have hb2 := hb
 have hH := img_hdrOk hw he
 have hT := totN_lt he
 unfold bodL at hb2
 simp only [List.length_append] at n1 n2 n3 n4 hb2
 refine ⟨ps, rfl, ⟨by omega, prtsE_ok _ _ _ h2, hw.2⟩, ss, rfl, ⟨by omega, schsE_ok _ _ _ h3⟩, ?_, rs, rfl, ⟨by omega, prsE_ok _ _ _ h4⟩, ?_, ac, rfl, ⟨by omega, actsE_ok _ _ _ h5⟩, ?_, ?_⟩
 ·rw [mk_sz, mk_sz]; omega
 ·rw [ByteArray.size_append, mk_sz, mk_sz, mk_sz]; omega
 ·rw [ByteArray.size_append, ByteArray.size_append, mk_sz, mk_sz, mk_sz, mk_sz]; omega
 have eB : ByteArray.mk (prtsB ps).toArray ++ ByteArray.mk (schsB ss).toArray ++ ByteArray.mk (pairsB rs).toArray ++ ByteArray.mk (actsB ac).toArray = ⟨(bodL (ep, fi, ps, ss, rs, ac)).toArray⟩ := bodB_eq (ep, fi, ps, ss, rs, ac)
 rw [eB]
 refine (hA.nf (nf_tx12_2 A k ep fi ps ss rs ac _) ?_)
 refine ⟨ep, fi, ps, ss, rs, ac, rfl, ?_⟩
 rw [mk_sz]
 have e27 : (27 : Int) + ((bodL (ep, fi, ps, ss, rs, ac)).length : Int) = totN (ep, fi, ps, ss, rs, ac) := rfl
 rw [e27, wrap_id _ (by omega) (by omega), u32_id _ hT.1 hT.2]
 refine (hA.nf (nf_tx12_4 A k _ _ _ _ _ _ _ _) ?_)
 refine ⟨hH, ?_, ?_⟩
 ·rw [mk_sz, mk_sz, hdrL_len]; omega
 have eP : ByteArray.mk (hdrL (totN (ep, fi, ps, ss, rs, ac)) ep fi (ps.length : Int) (ss.length : Int) (rs.length : Int) (ac.length : Int)).toArray ++ ByteArray.mk (bodL (ep, fi, ps, ss, rs, ac)).toArray = ⟨(imgP (ep, fi, ps, ss, rs, ac)).toArray⟩ := mk_app ⟨#[]⟩ _ _
 rw [eP]
 refine (hA.nf (nf_tx12_5 A k _) ?_)
 have hlen : (imgP (ep, fi, ps, ss, rs, ac)).length = 23 + (bodL (ep, fi, ps, ss, rs, ac)).length := by unfold imgP imgH; rw [List.length_append, hdrL_len]
 have hc := crcN_lt (imgP (ep, fi, ps, ss, rs, ac))
 rw [mk_list, u64_id _ (by omega) (by omega), mk_sz, mk_sz, Int.toNat_natCast, beL_len]
 refine ⟨by omega, ⟨⟨by omega, by omega⟩, by decide, by decide⟩, by have : Int.toNat 4 = 4 := rfl; omega, ?_⟩
 have eL : ByteArray.mk (imgP (ep, fi, ps, ss, rs, ac)).toArray ++ ByteArray.mk (beL (Int.toNat 4) (crcN (imgP (ep, fi, ps, ss, rs, ac)))).toArray = ⟨(imgL (ep, fi, ps, ss, rs, ac)).toArray⟩ := mk_app ⟨#[]⟩ _ _
 rw [eL]
 exact hk
noncomputable def IN3 := base (fun g => match g with | 10 => some (lift 0 decSp) | _ => none) (fun g => match g with | 12 => some ofS | _ => none) (fun _ => none)
theorem env_IN3 : EnvOk IN3 := env_of (by
 intro g F h
 split at h
 ·cases h; exact of_ok
 ·cases h) (by
 intro g F h
 split at h
 ·cases h; exact (lift_ok ok_dec)
 ·cases h) (fun g F h => (by cases h))
def aw12S : SpecS := fun ys Φ => match ys with
 | [] => Φ [.bool true]
 | _ => False
theorem aw12S_mono : MonoS aw12S := by
 intro ys Φ Ψ h hF
 unfold aw12S at hF ⊢
 split at hF
 ·exact h _ hF
 ·exact hF.elim
theorem aw12S_inv {ys : List PV} {Φ : List PV -> Prop} (h : aw12S ys Φ) : ys = [] /\ Φ [.bool true] := by
 unfold aw12S at h
 split at h
 ·exact ⟨rfl, h⟩
 ·exact h.elim
theorem fn_awake12 : FnOk Tryz.prog 8 Tryz.f8 (bodyOf Tryz.f8) := ⟨by kernel_rfl, by kernel_rfl, by kernel_rfl⟩
noncomputable def ff_awake12 : Fun := ⟨Tryz.f8.ntmps, 0, Tryz.f8.results.toList, fun _ => none, fun _ => false, fun _ => []⟩
theorem nf_awake12 (A : KA Kd) (k : List PV -> Heap Kd -> Prop)  : evT IN3 ff_awake12 A k 400 false [.code (bodyOf Tryz.f8)] (startEnv 11 []) [] = ((ByteArray.mk #[]).size < 1099511627776 /\ k [.bool ((ofE (decE (ByteArray.mk #[]))).fst == 2 && ((ofE (decE (ByteArray.mk #[]))).snd.fst == 1 && ((ofE (decE (ByteArray.mk #[]))).snd.snd == 0 && true)))] []) := by kernel_rfl
theorem ok_awake12 : FunS B 8 aw12S := by
 refine funS_of (N := 11) (f := ff_awake12) env_IN3 mixed fn_awake12 (by kernel_rfl) (by kernel_rfl) (by kernel_rfl) aw12S_mono ?_
 intro A k ys hA hF
 obtain ⟨rfl, hk⟩ := aw12S_inv hF; clear hF
 refine ⟨by kernel_rfl, (hA.nf (nf_awake12 A k) ?_)⟩
 have e : decE (ByteArray.mk #[]) = .sec 1 (.plc 0 (.cls 2)) := by kernel_rfl
 rw [e]
 exact ⟨by decide, hk⟩
end Go.Ab.T
