import Derived.Test.YthfagophoncabaaGreatDoorImg3
import Derived.Test.YthfagophoncabaaGreatDoorSeal
import Derived.Test.YthfagophoncabaaGreatDoorEnc1
import Derived.Test.YthfagophoncabaaGreatDoorOp
set_option linter.unusedVariables false
set_option linter.unusedSimpArgs false
set_option linter.unusedSectionVars false
namespace Go.Ab.T
open Go Go.Ab Go.Proofs
set_option maxRecDepth 100000
set_option maxHeartbeats 4000000
noncomputable def LD0 := base (fun g => match g with | 10 => some (lift 0 decSp) | 15 => some (lift 0 rDecS) | _ => none) (fun g => match g with | 12 => some ofS | 11 => some same12S | 8 => some aw12S | 13 => some sealS | 14 => some sealS | 16 => some encS | _ => none) (fun _ => none)
theorem env_LD0 : EnvOk LD0 := env_of (by
 intro g F h
 split at h
 ·cases h; exact of_ok
 ·cases h; exact ok_same12
 ·cases h; exact ok_awake12
 ·cases h; exact ok_seal
 ·cases h; exact ok_rseal
 ·cases h; exact ok_enc
 ·cases h) (by
 intro g F h
 split at h
 ·cases h; exact (lift_ok ok_dec)
 ·cases h; exact (lift_ok ok_rDec)
 ·cases h) (fun g F h => (by cases h))
theorem fn_ImageDecodes : FnOk Tryz.prog 4 Tryz.f4 (bodyOf Tryz.f4) := ⟨by kernel_rfl, by kernel_rfl, by kernel_rfl⟩
noncomputable def ff_ImageDecodes : Fun := ⟨Tryz.f4.ntmps, 0, Tryz.f4.results.toList, fun i => match i with | 7 => some [0] | 9 => some [0, 5, 6, 7, 8] | 11 => some [0, 5, 8] | 13 => some [0, 5] | _ => none, fun i => match i with | 7 => true | 9 => true | 11 => true | 13 => true | _ => false, fun _ => []⟩
theorem nf_decodes_a (A : KA Kd) (k : List PV -> Heap Kd -> Prop) (s : ByteArray) (b : Bool) : evT LD0 ff_ImageDecodes A k 400 false [.code (bodyOf Tryz.f4)] (startEnv 62 [.str s, .bool b]) [] = (bif decide ((↑s.size : Int) > 1500) then k [.bool true] []
else bif b then s.size < (4294967296 : Nat) /\ s.size < (4294967296 : Nat) /\ bif !(sealB s).toList == (sealB s).toList then k [PV.bool false] [] else s.size < (4294967296 : Nat) /\ A (tdr Tryz.f4 (7 : Nat)) (envAt (62 : Nat) [((0 : Nat), PV.str (sealB s))]) [] else A (tdr Tryz.f4 (7 : Nat)) (envAt (62 : Nat) [((0 : Nat), PV.str s)]) []) := by kernel_rfl
theorem nf_decodes_7 (A : KA Kd) (k : List PV -> Heap Kd -> Prop) (s : ByteArray) : evT LD0 ff_ImageDecodes A k 400 true (tdr Tryz.f4 7) (envAt 62 [(0, .str s)]) [] = (s.size < 1099511627776 /\ s.size < 1099511627776 /\ A (tdr Tryz.f4 9) (envAt 62 [(0, .str s), (5, .ptr 0 0), (6, .err (decE s)), (7, .ptr 1 0), (8, .ptr 2 0)]) [.box [.int .u64 (decM s).fst, .int .i64 (decM s).snd.fst, .own 3, .own 4, .own 5, .own 6], .box [.int .u64 (decM s).fst, .int .i64 (decM s).snd.fst, .own 7, .own 8, .own 9, .own 10], .box [.int .i64 (ofE (decE s)).fst, .int .i64 (ofE (decE s)).snd.fst, .int .i64 (ofE (decE s)).snd.snd], .row 55 (decM s).snd.snd.fst, .row 59 (decM s).snd.snd.snd.fst, .row 139 (decM s).snd.snd.snd.snd.fst, .row 141 (decM s).snd.snd.snd.snd.snd, .row 55 (decM s).snd.snd.fst, .row 59 (decM s).snd.snd.snd.fst, .row 139 (decM s).snd.snd.snd.snd.fst, .row 141 (decM s).snd.snd.snd.snd.snd]) := by kernel_rfl
theorem nf_decodes_9 (A : KA Kd) (k : List PV -> Heap Kd -> Prop) (s : ByteArray) (e : Err) (f1 f2 f3 ep fi : Int) (ps : List Prt) (ss : List Sch) (rs : List Pr) (ac : List Act3) : evT LD0 ff_ImageDecodes A k 400 true (tdr Tryz.f4 9) (envAt 62 [(0, .str s), (5, .ptr 0 0), (6, .err e), (7, .ptr 1 0), (8, .ptr 2 0)]) [.box [.int .u64 ep, .int .i64 fi, .own 3, .own 4, .own 5, .own 6], .box [.int .u64 ep, .int .i64 fi, .own 7, .own 8, .own 9, .own 10], .box [.int .i64 f1, .int .i64 f2, .int .i64 f3], .row 55 ps, .row 59 ss, .row 139 rs, .row 141 ac, .row 55 ps, .row 59 ss, .row 139 rs, .row 141 ac] = (∃ (ep_1 : Int), ∃ (fi_1 : Int), ∃ (ps_1 : List Prt), ∃ (ss_1 : List Sch), ∃ (rs_1 : List Pr), ∃ (ac_1 : List Act3), PV.agg [PV.int IntKind.u64 ep, PV.int IntKind.i64 fi, PV.sl (Int × ByteArray × Bool × (List (Int × Bool))) e_api_Partition ps, PV.sl (Int × Int × (List (Int × Int × Int)) × (List (Int × Int × Int))) e_api_Schedule ss, PV.sl (Int × Int) e_api_Pair rs, PV.sl (Int × Int × Int) e_api_Act ac] = PV.agg [PV.int IntKind.u64 ep_1, PV.int IntKind.i64 fi_1, PV.sl (Int × ByteArray × Bool × List (Int × Bool)) e_api_Partition ps_1, PV.sl (Int × Int × List (Int × Int × Int) × List (Int × Int × Int)) e_api_Schedule ss_1, PV.sl (Int × Int) e_api_Pair rs_1, PV.sl (Int × Int × Int) e_api_Act ac_1] /\ PV.agg [PV.int IntKind.u64 ep, PV.int IntKind.i64 fi, PV.sl (Int × ByteArray × Bool × (List (Int × Bool))) e_api_Partition ps, PV.sl (Int × Int × (List (Int × Int × Int)) × (List (Int × Int × Int))) e_api_Schedule ss, PV.sl (Int × Int) e_api_Pair rs, PV.sl (Int × Int × Int) e_api_Act ac] = PV.agg [PV.int IntKind.u64 ep_1, PV.int IntKind.i64 fi_1, PV.sl (Int × ByteArray × Bool × List (Int × Bool)) e_api_Partition ps_1, PV.sl (Int × Int × List (Int × Int × Int) × List (Int × Int × Int)) e_api_Schedule ss_1, PV.sl (Int × Int) e_api_Pair rs_1, PV.sl (Int × Int × Int) e_api_Act ac_1] /\ ((ps_1.length < 4611686018427387904 /\ ss_1.length < 4611686018427387904 /\ rs_1.length < 4611686018427387904 /\ ac_1.length < 4611686018427387904) /\ (∀ (x : Prt), x ∈ ps_1 -> x.snd.snd.snd.length < 4611686018427387904) /\ ∀ (x : Sch), x ∈ ss_1 -> x.snd.snd.fst.length < 4611686018427387904 /\ x.snd.snd.snd.length < 4611686018427387904) /\ bif !((ofE e).fst == f1 && ((ofE e).snd.fst == f2 && ((ofE e).snd.snd == f3 && true))) then k [.bool false] [] else A (tdr Tryz.f4 11) (envAt 62 [(0, .str s), (5, .ptr 0 0), (8, .ptr 1 0)]) [.box [.int .u64 ep, .int .i64 fi, .own 2, .own 3, .own 4, .own 5], .box [.int .i64 f1, .int .i64 f2, .int .i64 f3], .row 55 ps, .row 59 ss, .row 139 rs, .row 141 ac]) := by kernel_rfl
theorem nf_decodes_11 (A : KA Kd) (k : List PV -> Heap Kd -> Prop) (s : ByteArray) (f1 f2 f3 ep fi : Int) (ps : List Prt) (ss : List Sch) (rs : List Pr) (ac : List Act3) : evT LD0 ff_ImageDecodes A k 400 true (tdr Tryz.f4 11) (envAt 62 [(0, .str s), (5, .ptr 0 0), (8, .ptr 1 0)]) [.box [.int .u64 ep, .int .i64 fi, .own 2, .own 3, .own 4, .own 5], .box [.int .i64 f1, .int .i64 f2, .int .i64 f3], .row 55 ps, .row 59 ss, .row 139 rs, .row 141 ac] = (bif f1 != 0 then k [.bool true] []
else A (tdr Tryz.f4 (13 : Nat)) (envAt (62 : Nat) [((0 : Nat), PV.str s), ((5 : Nat), PV.ptr (0 : Nat) (0 : Nat))]) [AObj.box [PV.int IntKind.u64 ep, PV.int IntKind.i64 fi, PV.own (1 : Nat), PV.own (2 : Nat), PV.own (3 : Nat), PV.own (4 : Nat)], AObj.row (55 : Nat) ps, AObj.row (59 : Nat) ss, AObj.row (139 : Nat) rs, AObj.row (141 : Nat) ac]) := by kernel_rfl
theorem nf_decodes_13 (A : KA Kd) (k : List PV -> Heap Kd -> Prop) (s : ByteArray) (ep fi : Int) (ps : List Prt) (ss : List Sch) (rs : List Pr) (ac : List Act3) : evT LD0 ff_ImageDecodes A k 400 true (tdr Tryz.f4 13) (envAt 62 [(0, .str s), (5, .ptr 0 0)]) [.box [.int .u64 ep, .int .i64 fi, .own 1, .own 2, .own 3, .own 4], .row 55 ps, .row 59 ss, .row 139 rs, .row 141 ac] = (∃ (ep_1 : Int), ∃ (fi_1 : Int), ∃ (ps_1 : List Prt), ∃ (ss_1 : List Sch), ∃ (rs_1 : List Pr), ∃ (ac_1 : List Act3), PV.agg [PV.int IntKind.u64 ep, PV.int IntKind.i64 fi, PV.sl (Int × ByteArray × Bool × (List (Int × Bool))) e_api_Partition ps, PV.sl (Int × Int × (List (Int × Int × Int)) × (List (Int × Int × Int))) e_api_Schedule ss, PV.sl (Int × Int) e_api_Pair rs, PV.sl (Int × Int × Int) e_api_Act ac] = PV.agg [PV.int IntKind.u64 ep_1, PV.int IntKind.i64 fi_1, PV.sl (Int × ByteArray × Bool × List (Int × Bool)) e_api_Partition ps_1, PV.sl (Int × Int × List (Int × Int × Int) × List (Int × Int × Int)) e_api_Schedule ss_1, PV.sl (Int × Int) e_api_Pair rs_1, PV.sl (Int × Int × Int) e_api_Act ac_1] /\ ((0 <= ep_1 /\ ep_1 < 18446744073709551616) /\ (ps_1.length < 100000 /\ ss_1.length < 100000 /\ rs_1.length < 100000 /\ ac_1.length < 100000) /\ (∀ (x : Prt), x ∈ ps_1 -> ∀ (c : Cl), c ∈ x.snd.snd.snd -> 0 <= c.fst /\ c.fst < 4294967296) /\ ∀ (x : Sch), x ∈ ss_1 -> x.snd.snd.fst.length < 9223372036854775808 /\ x.snd.snd.snd.length < 9223372036854775808) /\ bif (imgE (ep_1, fi_1, ps_1, ss_1, rs_1, ac_1)).isNil then bif (bif (imgE (ep_1, fi_1, ps_1, ss_1, rs_1, ac_1)).isNil then ByteArray.mk (imgL (ep_1, fi_1, ps_1, ss_1, rs_1, ac_1)).toArray else ByteArray.mk #[]).toList == s.toList then k [.bool true] [] else k [.bool false] [] else k [.bool false] []) := by kernel_rfl
def lawIDS : SpecS := fun ys Φ => match ys with
 | [.str s, .bool b] => Φ [.bool true]
 | _ => False
theorem lawIDS_mono : MonoS lawIDS := by
 intro ys Φ Ψ h hF
 unfold lawIDS at hF ⊢
 split at hF
 ·exact h _ hF
 ·exact hF.elim
theorem lawIDS_inv {ys : List PV} {Φ : List PV -> Prop} (h : lawIDS ys Φ) : ∃ (s : ByteArray) (b : Bool), ys = [.str s, .bool b] /\ Φ [.bool true] := by
 unfold lawIDS at h
 split at h
 ·exact ⟨_, _, rfl, h⟩
 ·exact h.elim
theorem sealB_size (s : ByteArray) : (sealB s).size = s.size := by
 unfold sealB
 cases c : decide ((s.size : Int) < 27) with
 | true => rfl
 | false =>
  rw [decide_eq_false_iff_not] at c
  rw [cond_false]
  unfold seal2
  rw [ByteArray.size_append, sealBody_size (by omega), mk_sz (beL 4 _), beL_len]
  omega
theorem frE_good (s : ByteArray) (t : Int) : GoodE (frE s t) := by
 unfold frE
 cases t != (s.size : Int) with
 | true => exact .spc _ _ _ rfl
 | false =>
  cases decide ((s.size : Int) < 27) with
  | true => exact .spc _ _ _ rfl
  | false =>
   cases sumAt s != ((crcN (preS s).data.toList : Nat) : Int) with
   | true => exact .spc _ _ _ rfl
   | false => exact .nil
theorem endE_good {t : ByteArray} {x : RS} (h : GoodE x.2) : GoodE (endE t x) := by
 unfold endE
 cases x.2.isNil with
 | false => exact h
 | true =>
  cases decide ((t.size : Int) - x.1 > 0) with
  | true => exact .spc _ _ _ rfl
  | false => exact .nil
theorem headE_good (s : ByteArray) : GoodE (headE s) := by
 unfold headE
 cases (iH s).2.isNil with
 | true => exact frE_good _ _
 | false => exact hx11_good (x := (0, .nil)) GoodE.nil
theorem decE_good (s : ByteArray) : GoodE (decE s) := by
 unfold decE
 cases (headE s).isNil with
 | true => exact endE_good (acsX_good _ _ (prsX_good _ _ (schsX_good _ _ (ptsX_good _ _ GoodE.nil))))
 | false => exact headE_good s
theorem img_small {ep fi : Int} {ps : List Prt} {ss : List Sch} {rs : List Pr} {ac : List Act3} (ce : (imgE (ep, fi, ps, ss, rs, ac)).isNil = true) :
 (ps.length < 100000 /\ ss.length < 100000 /\ rs.length < 100000 /\ ac.length < 100000) /\ (∀ x, x ∈ ps -> x.2.2.2.length < 100000) /\ (∀ x, x ∈ ss -> x.2.2.1.length < 100000 /\ x.2.2.2.length < 100000) := by
 obtain ⟨c1, c2, c3, c4⟩ := img_counts ce
 obtain ⟨p1, p2, p3, p4, p5⟩ := img_parts ce
 simp only at c1 c2 c3 c4
 refine ⟨⟨by omega, by omega, by omega, by omega⟩, fun x hx => ?_, fun x hx => ?_⟩
 ·have := (prtsE_ok _ _ _ p2 x hx).2.2; omega
 ·obtain ⟨_, _, o3, _, o5, _⟩ := schsE_ok _ _ _ p3 x hx
  exact ⟨by omega, by omega⟩
theorem mk_self (s : ByteArray) : (⟨s.data.toList.toArray⟩ : ByteArray) = s := by rw [Array.toArray_toList]
theorem ok_ID : FunS B 4 lawIDS := by
 refine funS_of (N := 62) (f := ff_ImageDecodes) env_LD0 mixed fn_ImageDecodes (by kernel_rfl) (by kernel_rfl) (by kernel_rfl) lawIDS_mono ?_
 intro A k ys hA hF
 obtain ⟨s, b, rfl, hk⟩ := lawIDS_inv hF; clear hF
 refine ⟨by kernel_rfl, (hA.nf (nf_decodes_a A k s b) ?_)⟩
 have bne : ∀ v w : Int, (v != w) = !(v == w) := fun _ _ => rfl
 have core : ∀ t : ByteArray, t.size <= 1500 -> A (tdr Tryz.f4 7) (envAt 62 [(0, .str t)]) [] := by
  intro t ht
  refine (hA.nf (nf_decodes_7 A k t) ?_)
  refine ⟨by omega, by omega, ?_⟩
  have hg := decE_good t
  obtain ⟨ep, fi, ps, ss, rs, ac, hM⟩ : ∃ (ep fi : Int) (ps : List Prt) (ss : List Sch) (rs : List Pr) (ac : List Act3), decM t = (ep, fi, ps, ss, rs, ac) := ⟨_, _, _, _, _, _, rfl⟩
  rw [hM]
  refine (hA.nf (nf_decodes_9 A k t _ _ _ _ ep fi ps ss rs ac) ?_)
  simp only [beq_self_eq_true, Bool.and_self, Bool.not_true, cond_false]
  cases c : (decE t).isNil with
  | false =>
   have h0 : decM t = (0, 0, [], [], [], []) := by unfold decM; rw [c]; rfl
   rw [hM] at h0
   simp only [Prod.mk.injEq] at h0
   obtain ⟨rfl, rfl, rfl, rfl, rfl, rfl⟩ := h0
   refine ⟨0, 0, [], [], [], [], rfl, rfl, ⟨⟨by decide, by decide, by decide, by decide⟩, (fun x hx => by cases hx), fun x hx => by cases hx⟩, ?_⟩
   refine (hA.nf (nf_decodes_11 A k t _ _ _ 0 0 [] [] [] []) ?_)
   rw [bne, hg.nil_iff, c]
   exact hk
  | true =>
   obtain ⟨hw, he, hl⟩ := dec_same c
   rw [hM] at hw he hl
   obtain ⟨⟨s1, s2, s3, s4⟩, s5, s6⟩ := img_small he
   refine ⟨ep, fi, ps, ss, rs, ac, rfl, rfl, ⟨⟨by omega, by omega, by omega, by omega⟩, (fun x hx => by have := s5 x hx; omega), fun x hx => by have := s6 x hx; omega⟩, ?_⟩
   refine (hA.nf (nf_decodes_11 A k t _ _ _ ep fi ps ss rs ac) ?_)
   rw [bne, hg.nil_iff, c, Bool.not_true, cond_false]
   refine (hA.nf (nf_decodes_13 A k t ep fi ps ss rs ac) ?_)
   refine ⟨ep, fi, ps, ss, rs, ac, rfl, ⟨hw.1, ⟨s1, s2, s3, s4⟩, hw.2, fun x hx => by have := s6 x hx; omega⟩, ?_⟩
   rw [he, cond_true, cond_true, hl, mk_self, beq_self_eq_true, cond_true]
   exact hk
 cases c1 : decide ((s.size : Int) > 1500) with
 | true => exact hk
 | false =>
  rw [decide_eq_false_iff_not] at c1
  rw [cond_false]
  cases b with
  | false => exact core s (by omega)
  | true =>
   have hz := sealB_size s
   rw [cond_true, beq_self_eq_true, Bool.not_true, cond_false]
   exact ⟨by omega, by omega, by omega, core (sealB s) (by omega)⟩
theorem pre_ImageDecodes (s : ByteArray) (b : Bool) (_ : g_o9 s) (_ : g_o4 b) : lawIDS [a_o9 s, a_o4 b] fun rs => rs = [.bool true] := (rfl : ([.bool true] : List PV) = [.bool true])
end Go.Ab.T
