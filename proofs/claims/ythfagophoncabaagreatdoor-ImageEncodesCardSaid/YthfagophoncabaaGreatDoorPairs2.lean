import Derived.Test.YthfagophoncabaaGreatDoorPairs1
import Derived.Test.YthfagophoncabaaGreatDoorRef01T
set_option linter.unusedVariables false
set_option linter.unusedSimpArgs false
set_option linter.unusedSectionVars false
namespace Go.Ab.T
open Go Go.Ab Go.Proofs
variable [DMode]
set_option maxRecDepth 100000
set_option maxHeartbeats 4000000
noncomputable def PF0 := base (fun g => match g with | 117 => some (lift 0 cloneS) | 49 => some (eitherOwn (lift 1 putIS) (lift 0 putS)) | _ => none) (fun g => match g with | 111 => some newS | 110 => some atS | 109 => some inS | 135 => some idS | 82 => some ltPS | 106 => some ltPS | 31 => some r01TS | _ => none) (fun _ => none)
theorem env_PF0 : EnvOk PF0 := env_of (by
 intro g F h
 split at h
 ·cases h; exact ok_New
 ·cases h; exact ok_At
 ·cases h; exact ok_In
 ·cases h; exact ok_prRight
 ·cases h; exact ok_rLess10
 ·cases h; exact ok_less10
 ·cases h; exact ok_r01T
 ·cases h) (by
 intro g F h
 split at h
 ·cases h; exact (lift_ok ok_clone)
 ·cases h; exact (eitherOwn_ok (lift_ok ok_putI) (lift_ok ok_put))
 ·cases h) (fun g F h => (by cases h))
theorem fn_prPut : FnOk Tryz.prog 66 Tryz.f66 (bodyOf Tryz.f66) := ⟨by kernel_rfl, by kernel_rfl, by kernel_rfl⟩
noncomputable def ff_prPut : Fun := ⟨Tryz.f66.ntmps, 0, Tryz.f66.results.toList, fun i => match i with | 3 => some [0, 1, 6, 12, 13, 14] | _ => none, fun _ => false, fun _ => []⟩
theorem nf_prPut_a (A : KA Kd) (k : List PV -> Heap Kd -> Prop) (b : List UInt8) (l : List Pr) : evT PF0 ff_prPut A k 400 false [.code (bodyOf Tryz.f66)] (startEnv 70 [.sl _ e_uint8 b, .sl _ e_api_Pair l]) [] = (∃ (l_1 : List UInt8), PV.sl UInt8 e_uint8 b = PV.sl UInt8 e_uint8 l_1 /\ l_1.length < 1099511627776 /\ A (td Tryz.f66 3) (envAt 70 [(0, .sl UInt8 e_uint8 b), (1, .sl (Int × Int) e_api_Pair l), (6, .own 0), (12, .sl (Int × Int) e_api_Pair l), (13, .int .i64 (↑l.length : Int)), (14, .int .i64 0)]) [.row 5 l_1]) := by kernel_rfl
theorem nf_prPut_b (A : KA Kd) (k : List PV -> Heap Kd -> Prop) (b out : List UInt8) (l : List Pr) (n i : Int) : evT PF0 ff_prPut A k 400 true (td Tryz.f66 3) (envAt 70 [(0, .sl _ e_uint8 b), (1, .sl _ e_api_Pair l), (6, .own 0), (12, .sl _ e_api_Pair l), (13, .int .i64 n), (14, .int .i64 i)]) [.row 5 out] = (bif decide (i < n) then (0 <= i /\ i < (↑l.length : Int)) /\ ∀ (y : Int × Int), l[i.toNat]? = some y -> bif !idOk y.fst then ∃ (l : List UInt8), PV.sl UInt8 e_uint8 b = PV.sl UInt8 e_uint8 l /\ l.length < 1099511627776 /\ k [.own 0, .err (inE (4 : Int) (atE i (newE (18 : Int))))] [.row 5 l] else bif !idOk y.snd then ∃ (l : List UInt8), PV.sl UInt8 e_uint8 b = PV.sl UInt8 e_uint8 l /\ l.length < 1099511627776 /\ k [.own 0, .err (inE (4 : Int) (atE i (newE (18 : Int))))] [.row 5 l] else bif decide (i > 0) then (0 <= IntKind.i64.wrap (i - 1) /\ IntKind.i64.wrap (i - 1) < (↑l.length : Int)) /\ ∀ (y_1 : Int × Int), l[(IntKind.i64.wrap (i - 1)).toNat]? = some y_1 -> bif !ltP (y_1.fst, y_1.snd) (y.fst, y.snd) then ∃ (l : List UInt8), PV.sl UInt8 e_uint8 b = PV.sl UInt8 e_uint8 l /\ l.length < 1099511627776 /\ k [.own 0, .err (inE (4 : Int) (atE i (newE (9 : Int))))] [.row 5 l] else (0 <= IntKind.u64.wrap y.fst /\ IntKind.u64.wrap y.fst < 18446744073709551616 /\ out.length < 1099511627776) /\ (0 <= IntKind.u64.wrap y.snd /\ IntKind.u64.wrap y.snd < 18446744073709551616 /\ (putV out (IntKind.u64.wrap y.fst) 1).length < 1099511627776) /\ A (td Tryz.f66 3) (envAt 70 [(0, .sl UInt8 e_uint8 b), (1, .sl (Int × Int) e_api_Pair l), (6, .own 0), (12, .sl (Int × Int) e_api_Pair l), (13, .int .i64 n), (14, .int .i64 (IntKind.i64.wrap (i + 1)))]) [.row 5 (putV (putV out (IntKind.u64.wrap y.fst) 1) (IntKind.u64.wrap y.snd) 1)] else (0 <= IntKind.u64.wrap y.fst /\ IntKind.u64.wrap y.fst < 18446744073709551616 /\ out.length < 1099511627776) /\ (0 <= IntKind.u64.wrap y.snd /\ IntKind.u64.wrap y.snd < 18446744073709551616 /\ (putV out (IntKind.u64.wrap y.fst) 1).length < 1099511627776) /\ A (td Tryz.f66 3) (envAt 70 [(0, .sl UInt8 e_uint8 b), (1, .sl (Int × Int) e_api_Pair l), (6, .own 0), (12, .sl (Int × Int) e_api_Pair l), (13, .int .i64 n), (14, .int .i64 (IntKind.i64.wrap (i + 1)))]) [.row 5 (putV (putV out (IntKind.u64.wrap y.fst) 1) (IntKind.u64.wrap y.snd) 1)]
else k [PV.own (0 : Nat), PV.err Err.nil] [AObj.row (5 : Nat) out]) := by kernel_rfl
def prPutS : List PV -> Heap Kd -> (List PV -> Heap Kd -> Prop) -> Prop := fun ys L k => match ys, L with
 | [x_0, x_1], [] => ∃ (b : List UInt8), ∃ (l : List Pr), x_0 = .sl _ e_uint8 b /\ x_1 = .sl _ e_api_Pair l /\ (b.length < 1000000 /\ l.length < 100000) /\ k [.own 0, .err (prsE none 0 l)] [.row 5 (outP b (prsE none 0 l) b (pairsB l))]
 | _, _ => False
theorem prPutS_inv {ys : List PV} {L : Heap Kd} {k : List PV -> Heap Kd -> Prop} (h : prPutS ys L k) : ∃ (b : List UInt8) (l : List Pr), ys = [.sl _ e_uint8 b, .sl _ e_api_Pair l] /\ L = [] /\ (b.length < 1000000 /\ l.length < 100000) /\ k [.own 0, .err (prsE none 0 l)] [.row 5 (outP b (prsE none 0 l) b (pairsB l))] := by
 unfold prPutS at h
 split at h
 ·obtain ⟨a0, a1, q0, q1, hz⟩ := h
  subst q0
  subst q1
  exact ⟨a0, a1, rfl, rfl, hz⟩
 ·exact h.elim
theorem prPut_loop (A : KA Kd) (k : List PV -> Heap Kd -> Prop) (hA : Closed PF0 ff_prPut k A) (b : List UInt8) (l : List Pr) (hb : b.length < 1000000) (hl : l.length < 100000) :
 ∀ i, i <= l.length -> ∀ out : List UInt8, out.length + 2 * (l.length - i) < 1000000000 -> k [.own 0, .err (prsE (prevR l i) i (l.drop i))] [.row 5 (outP b (prsE (prevR l i) i (l.drop i)) out (pairsB (l.drop i)))] ->
  A (td Tryz.f66 3) (envAt 70 [(0, .sl _ e_uint8 b), (1, .sl _ e_api_Pair l), (6, .own 0), (12, .sl _ e_api_Pair l), (13, .int .i64 (l.length : Int)), (14, .int .i64 (i : Int))]) [.row 5 out] := by
 refine down_loop l _ ?_ ?_
 ·intro out _ hk
  refine (hA.nf (nf_prPut_b A k b out l _ _) ?_)
  rw [ilt_false (Nat.lt_irrefl _)]
  rw [List.drop_length] at hk
  have e : outP b (prsE (prevR l l.length) l.length []) out (pairsB []) = out := by
   cases prevR l l.length <;> exact List.append_nil _
  have e2 : prsE (prevR l l.length) l.length [] = .nil := by cases prevR l l.length <;> rfl
  rw [e, e2] at hk; exact hk
 ·intro i y hy ih out ho hk
  have hlt := lt_of_get hy
  refine (hA.nf (nf_prPut_b A k b out l _ _) ?_)
  rw [ilt_true hlt, cond_true]
  refine get_at hy ?_
  have hprev : prevR l (i + 1) = some y := hy
  rw [drop_cons' hy, prsE_cons] at hk
  have p1 : ((256 ^ Int.toNat 1 : Nat) : Int) = 256 := by decide
  have e1 : Int.toNat 1 = 1 := rfl
  have eI : ∀ c : Int, isCls c = true -> inE 4 (atE (i : Int) (newE c)) = .sec 4 (.plc (i : Int) (.cls c)) := fun c h => by unfold newE; rw [h]; rfl
  have bad : ∀ {p : Prop} {c : Int}, pw1 (prevR l i) y = c -> isCls c = true -> (∃ (m : List UInt8), PV.sl UInt8 e_uint8 b = PV.sl UInt8 e_uint8 m /\ m.length < 1099511627776 /\ k [PV.own 0, PV.err (inE 4 (atE (i : Int) (newE c)))] [.row 5 m]) := by
   intro p c h hc
   rw [h] at hk
   have : (c == 0) = false := isCls_ne hc
   rw [this] at hk
   exact ⟨b, rfl, by omega, by rw [eI c hc]; exact hk⟩
  cases c1 : idOk y.1 with
  | false =>
   have hp : pw1 (prevR l i) y = 18 := by unfold pw1 inP; rw [c1]; rfl
   exact bad (p := True) hp rfl
  | true =>
  cases c2 : idOk y.2 with
  | false =>
   have hp : pw1 (prevR l i) y = 18 := by unfold pw1 inP; rw [c1, c2]; rfl
   exact bad (p := True) hp rfl
  | true =>
  rw [Bool.not_true, cond_false, cond_false]
  have hin : inP y = true := by unfold inP; rw [c1, c2]; rfl
  obtain ⟨i1, i2⟩ := idOk_iff.1 c1
  obtain ⟨j1, j2⟩ := idOk_iff.1 c2
  have go : pw1 (prevR l i) y = 0 -> (0 <= IntKind.u64.wrap y.1 /\ IntKind.u64.wrap y.1 < 18446744073709551616 /\ out.length < 1099511627776) /\ (0 <= IntKind.u64.wrap y.2 /\ IntKind.u64.wrap y.2 < 18446744073709551616 /\ (putV out (IntKind.u64.wrap y.1) 1).length < 1099511627776) /\
   A (td Tryz.f66 3) (envAt 70 [(0, .sl _ e_uint8 b), (1, .sl _ e_api_Pair l), (6, .own 0), (12, .sl _ e_api_Pair l), (13, .int .i64 (l.length : Int)), (14, .int .i64 (IntKind.i64.wrap ((i : Int) + 1)))]) [.row 5 (putV (putV out (IntKind.u64.wrap y.1) 1) (IntKind.u64.wrap y.2) 1)] := by
   intro h0
   rw [h0] at hk
   rw [u64_id y.1 i1 (by omega), u64_id y.2 j1 (by omega), putV_ok out (v := y.1) rfl (by rw [p1]; omega), putV_ok _ (v := y.2) rfl (by rw [p1]; omega), e1]
   refine ⟨⟨by omega, by omega, by omega⟩, ⟨by omega, by omega, by rw [List.length_append, beL_len]; omega⟩, ?_⟩
   rw [wrap_succ (by omega)]
   have e : out ++ beL 1 y.1.toNat ++ beL 1 y.2.toNat = addB out y := by unfold addB pairB; rw [List.append_assoc]
   rw [e]
   refine ih _ (by unfold addB; rw [List.length_append, pairB_len]; omega) ?_
   rw [hprev, pair_bytes]; exact hk
  rcases i with _ | i
  ·have d0 : decide (((0 : Nat) : Int) > 0) = false := rfl
   rw [d0, cond_false]
   exact go (by unfold pw1 prevR; rw [hin]; rfl)
  ·obtain ⟨z, hz⟩ : ∃ z, l[i]? = some z := ⟨l[i]'(by omega), List.getElem?_eq_getElem (by omega)⟩
   have hp : prevR l (i + 1) = some z := hz
   have d0 : decide (((i + 1 : Nat) : Int) > 0) = true := decide_eq_true (by omega)
   rw [d0, cond_true]
   refine get_at' (i := i) (by rw [wrap_id _ (by omega) (by omega)]; omega) hz ?_
   have e2 : ltP (z.1, z.2) (y.1, y.2) = ltP z y := rfl
   rw [e2]
   cases c3 : ltP z y with
   | false =>
    have h9 : pw1 (prevR l (i + 1)) y = 9 := by unfold pw1; rw [hp, hin]; show (bif ltP z y then (0 : Int) else 9) = 9; rw [c3]; rfl
    exact bad (p := True) h9 rfl
   | true =>
    rw [Bool.not_true, cond_false]
    exact go (by unfold pw1; rw [hp, hin]; show (bif ltP z y then (0 : Int) else 9) = 0; rw [c3]; rfl)
theorem ok_prPut : FunF B 66 0 prPutS := by
 refine funF_of (N := 70) (f := ff_prPut) env_PF0 mixed fn_prPut (by kernel_rfl) (by kernel_rfl) ?_
 intro A k ys L hA hF
 obtain ⟨b, l, rfl, rfl, ⟨hb, hl⟩, hk⟩ := prPutS_inv hF; clear hF
 refine ⟨by kernel_rfl, (hA.nf (nf_prPut_a A k b l) ?_)⟩
 exact ⟨b, rfl, by omega, prPut_loop A k hA b l hb hl 0 (Nat.zero_le _) b (by omega) hk⟩
def rWrong10S : SpecS := fun ys Φ => match ys with
 | [x_0] => ∃ (l : List Pr), x_0 = .sl _ e_api_Pair l /\ (l.length < 100000) /\ Φ [.agg [.int .i64 (ofE (prsE none 0 l)).1, .int .i64 (ofE (prsE none 0 l)).2.1, .int .i64 (ofE (prsE none 0 l)).2.2]]
 | _ => False
theorem rWrong10S_mono : MonoS rWrong10S := by
 intro ys Φ Ψ h hF
 unfold rWrong10S at hF ⊢
 split at hF
 ·obtain ⟨a0, q0, hp, hk⟩ := hF; exact ⟨a0, q0, hp, h _ hk⟩
 ·exact hF.elim
theorem rWrong10S_inv {ys : List PV} {Φ : List PV -> Prop} (h : rWrong10S ys Φ) : ∃ (l : List Pr), ys = [.sl _ e_api_Pair l] /\ (l.length < 100000) /\ Φ [.agg [.int .i64 (ofE (prsE none 0 l)).1, .int .i64 (ofE (prsE none 0 l)).2.1, .int .i64 (ofE (prsE none 0 l)).2.2]] := by
 unfold rWrong10S at h
 split at h
 ·obtain ⟨a0, q0, hz⟩ := h
  subst q0
  exact ⟨a0, rfl, hz⟩
 ·exact h.elim
theorem fn_rWrong10 : FnOk Tryz.prog 24 Tryz.f24 (bodyOf Tryz.f24) := ⟨by kernel_rfl, by kernel_rfl, by kernel_rfl⟩
noncomputable def ff_rWrong10 : Fun := ⟨Tryz.f24.ntmps, 0, Tryz.f24.results.toList, fun i => match i with | 2 => some [0, 2, 3] | _ => none, fun _ => false, fun _ => []⟩
theorem nf_rWrong10_a (A : KA Kd) (k : List PV -> Heap Kd -> Prop) (l : List Pr) : evT PF0 ff_rWrong10 A k 400 false [.code (bodyOf Tryz.f24)] (startEnv 50 [.sl _ e_api_Pair l]) [] = (A (td Tryz.f24 2) (envAt 50 [(0, .sl (Int × Int) e_api_Pair l), (2, .ptr 0 0), (3, .int .i64 0)]) [.box [.int .i64 0, .int .i64 0, .int .i64 0]]) := by kernel_rfl
theorem nf_rWrong10_b (A : KA Kd) (k : List PV -> Heap Kd -> Prop) (l : List Pr) (i : Int) : evT PF0 ff_rWrong10 A k 400 true (td Tryz.f24 2) (envAt 50 [(0, .sl _ e_api_Pair l), (2, .ptr 0 0), (3, .int .i64 i)]) [.box [.int .i64 0, .int .i64 0, .int .i64 0]] = (bif decide (i < (↑l.length : Int)) then (0 <= i /\ i < (↑l.length : Int)) /\ ∀ (y : Int × Int), l[i.toNat]? = some y -> bif decide (y.fst < 0) then k [.agg [.int .i64 18, .int .i64 4, .int .i64 i]] [] else bif decide (y.fst > 255) then k [.agg [.int .i64 18, .int .i64 4, .int .i64 i]] [] else bif decide (y.snd < 0) then k [.agg [.int .i64 18, .int .i64 4, .int .i64 i]] [] else bif decide (y.snd > 255) then k [.agg [.int .i64 18, .int .i64 4, .int .i64 i]] [] else bif decide (i > 0) then (0 <= IntKind.i64.wrap (i - 1) /\ IntKind.i64.wrap (i - 1) < (↑l.length : Int)) /\ ∀ (y_1 : Int × Int), l[(IntKind.i64.wrap (i - 1)).toNat]? = some y_1 -> bif !ltP (y_1.fst, y_1.snd) (y.fst, y.snd) then k [.agg [.int .i64 9, .int .i64 4, .int .i64 i]] [] else A (td Tryz.f24 2) (envAt 50 [(0, .sl (Int × Int) e_api_Pair l), (2, .ptr 0 0), (3, .int .i64 (IntKind.i64.wrap (i + 1)))]) [.box [.int .i64 0, .int .i64 0, .int .i64 0]] else A (td Tryz.f24 2) (envAt 50 [(0, .sl (Int × Int) e_api_Pair l), (2, .ptr 0 0), (3, .int .i64 (IntKind.i64.wrap (i + 1)))]) [.box [.int .i64 0, .int .i64 0, .int .i64 0]]
else k [PV.agg [PV.int IntKind.i64 (0 : Int), PV.int IntKind.i64 (0 : Int), PV.int IntKind.i64 (0 : Int)]] []) := by kernel_rfl
theorem ok_rWrong10 : FunS B 24 rWrong10S := by
 refine funS_of (N := 50) (f := ff_rWrong10) env_PF0 mixed fn_rWrong10 (by kernel_rfl) (by kernel_rfl) (by kernel_rfl) rWrong10S_mono ?_
 intro A k ys hA hF
 obtain ⟨l, rfl, hl, hk⟩ := rWrong10S_inv hF; clear hF
 refine ⟨by kernel_rfl, (hA.nf (nf_rWrong10_a A k l) ?_)⟩
 refine down_loop l (fun i => k [.agg [.int .i64 (ofE (prsE (prevR l i) i (l.drop i))).1, .int .i64 (ofE (prsE (prevR l i) i (l.drop i))).2.1, .int .i64 (ofE (prsE (prevR l i) i (l.drop i))).2.2]] [] -> A (td Tryz.f24 2) (envAt 50 [(0, .sl _ e_api_Pair l), (2, .ptr 0 0), (3, .int .i64 (i : Int))]) [.box [.int .i64 0, .int .i64 0, .int .i64 0]]) ?_ ?_ 0 (Nat.zero_le _) hk
 ·intro hk
  refine (hA.nf (nf_rWrong10_b A k l _) ?_)
  rw [ilt_false (Nat.lt_irrefl _)]
  rw [List.drop_length] at hk
  have e2 : prsE (prevR l l.length) l.length [] = .nil := by cases prevR l l.length <;> rfl
  rw [e2] at hk; exact hk
 ·intro i y hy ih hk
  have hlt := lt_of_get hy
  refine (hA.nf (nf_rWrong10_b A k l _) ?_)
  rw [ilt_true hlt, cond_true]
  refine get_at hy ?_
  have hprev : prevR l (i + 1) = some y := hy
  rw [drop_cons' hy, prsE_cons] at hk
  have bad : inP y = false -> k [.agg [.int .i64 18, .int .i64 4, .int .i64 (i : Int)]] [] := by
   intro h
   have h0 : pw1 (prevR l i) y = 18 := by unfold pw1; rw [h]; rfl
   rw [h0] at hk; exact hk
  have nin : ∀ {p : Prop}, p -> inP y = true -> p := fun h _ => h
  cases c1 : decide (y.1 < 0) with
  | true => refine bad ?_; rw [decide_eq_true_eq] at c1; rw [Bool.eq_false_iff, Ne, inP_iff]; omega
  | false =>
  cases c2 : decide (y.1 > 255) with
  | true => refine bad ?_; rw [decide_eq_true_eq] at c2; rw [Bool.eq_false_iff, Ne, inP_iff]; omega
  | false =>
  cases c3 : decide (y.2 < 0) with
  | true => refine bad ?_; rw [decide_eq_true_eq] at c3; rw [Bool.eq_false_iff, Ne, inP_iff]; omega
  | false =>
  cases c4 : decide (y.2 > 255) with
  | true => refine bad ?_; rw [decide_eq_true_eq] at c4; rw [Bool.eq_false_iff, Ne, inP_iff]; omega
  | false =>
  rw [decide_eq_false_iff_not] at c1 c2 c3 c4
  have hin : inP y = true := inP_iff.2 (by omega)
  simp only [cond_false]
  have go : pw1 (prevR l i) y = 0 -> A (td Tryz.f24 2) (envAt 50 [(0, .sl _ e_api_Pair l), (2, .ptr 0 0), (3, .int .i64 (IntKind.i64.wrap ((i : Int) + 1)))]) [.box [.int .i64 0, .int .i64 0, .int .i64 0]] := by
   intro h0
   rw [h0] at hk
   rw [wrap_succ (by omega)]
   refine ih ?_
   rw [hprev]; exact hk
  rcases i with _ | i
  ·have d0 : decide (((0 : Nat) : Int) > 0) = false := rfl
   rw [d0, cond_false]
   exact go (by unfold pw1 prevR; rw [hin]; rfl)
  ·obtain ⟨z, hz⟩ : ∃ z, l[i]? = some z := ⟨l[i]'(by omega), List.getElem?_eq_getElem (by omega)⟩
   have hp : prevR l (i + 1) = some z := hz
   have d0 : decide (((i + 1 : Nat) : Int) > 0) = true := decide_eq_true (by omega)
   rw [d0, cond_true]
   refine get_at' (i := i) (by rw [wrap_id _ (by omega) (by omega)]; omega) hz ?_
   have e2 : ltP (z.1, z.2) (y.1, y.2) = ltP z y := rfl
   rw [e2]
   cases c3 : ltP z y with
   | false =>
    have h9 : pw1 (prevR l (i + 1)) y = 9 := by unfold pw1; rw [hp, hin]; show (bif ltP z y then (0 : Int) else 9) = 9; rw [c3]; rfl
    rw [h9] at hk; exact hk
   | true =>
    rw [Bool.not_true, cond_false]
    exact go (by unfold pw1; rw [hp, hin]; show (bif ltP z y then (0 : Int) else 9) = 0; rw [c3]; rfl)
def rText10S : SpecS := fun ys Φ => match ys with
 | [x_0] => ∃ (l : List Pr), x_0 = .sl _ e_api_Pair l /\ (l.length < 100000 /\ ∀ x, x ∈ l -> inP x = true) /\ Φ [.str ⟨(pairsB l).toArray⟩]
 | _ => False
theorem rText10S_mono : MonoS rText10S := by
 intro ys Φ Ψ h hF
 unfold rText10S at hF ⊢
 split at hF
 ·obtain ⟨a0, q0, hp, hk⟩ := hF; exact ⟨a0, q0, hp, h _ hk⟩
 ·exact hF.elim
theorem rText10S_inv {ys : List PV} {Φ : List PV -> Prop} (h : rText10S ys Φ) : ∃ (l : List Pr), ys = [.sl _ e_api_Pair l] /\ (l.length < 100000 /\ ∀ x, x ∈ l -> inP x = true) /\ Φ [.str ⟨(pairsB l).toArray⟩] := by
 unfold rText10S at h
 split at h
 ·obtain ⟨a0, q0, hz⟩ := h
  subst q0
  exact ⟨a0, rfl, hz⟩
 ·exact h.elim
theorem fn_rText10 : FnOk Tryz.prog 28 Tryz.f28 (bodyOf Tryz.f28) := ⟨by kernel_rfl, by kernel_rfl, by kernel_rfl⟩
noncomputable def ff_rText10 : Fun := ⟨Tryz.f28.ntmps, 0, Tryz.f28.results.toList, fun i => match i with | 3 => some [0, 3, 4] | _ => none, fun _ => false, fun _ => []⟩
theorem nf_rText10_a (A : KA Kd) (k : List PV -> Heap Kd -> Prop) (l : List Pr) : evT PF0 ff_rText10 A k 400 false [.code (bodyOf Tryz.f28)] (startEnv 29 [.sl _ e_api_Pair l]) [] = (A (td Tryz.f28 3) (envAt 29 [(0, .sl (Int × Int) e_api_Pair l), (3, .str ⟨#[]⟩), (4, .int .i64 0)]) []) := by kernel_rfl
theorem nf_rText10_b (A : KA Kd) (k : List PV -> Heap Kd -> Prop) (l : List Pr) (s : ByteArray) (i : Int) : evT PF0 ff_rText10 A k 400 true (td Tryz.f28 3) (envAt 29 [(0, .sl _ e_api_Pair l), (3, .str s), (4, .int .i64 i)]) [] = (bif decide (i < (↑l.length : Int)) then (0 <= i /\ i < (↑l.length : Int)) /\ ∀ (y : Int × Int), l[i.toNat]? = some y -> (0 <= i /\ i < (↑l.length : Int)) /\ ∀ (y_1 : Int × Int), l[i.toNat]? = some y_1 -> ((0 <= IntKind.u64.wrap y.fst /\ IntKind.u64.wrap y.fst < 18446744073709551616) /\ (0 : Int) <= (1 : Int) /\ (1 : Int) <= (100 : Int)) /\ ((0 <= IntKind.u64.wrap y_1.snd /\ IntKind.u64.wrap y_1.snd < 18446744073709551616) /\ (0 : Int) <= (1 : Int) /\ (1 : Int) <= (100 : Int)) /\ (ByteArray.mk (beL (Int.toNat (1 : Int)) (IntKind.u64.wrap y.fst).toNat).toArray).size + (ByteArray.mk (beL (Int.toNat (1 : Int)) (IntKind.u64.wrap y_1.snd).toNat).toArray).size <= 9223372036854775807 /\ s.size + (ByteArray.mk (beL (Int.toNat (1 : Int)) (IntKind.u64.wrap y.fst).toNat).toArray ++ ByteArray.mk (beL (Int.toNat (1 : Int)) (IntKind.u64.wrap y_1.snd).toNat).toArray).size <= 9223372036854775807 /\ A (td Tryz.f28 3) (envAt 29 [(0, .sl (Int × Int) e_api_Pair l), (3, .str (s ++ (ByteArray.mk (beL (Int.toNat (1 : Int)) (IntKind.u64.wrap y.fst).toNat).toArray ++ ByteArray.mk (beL (Int.toNat (1 : Int)) (IntKind.u64.wrap y_1.snd).toNat).toArray))), (4, .int .i64 (IntKind.i64.wrap (i + 1)))]) []
else k [PV.str s] []) := by kernel_rfl
theorem ok_rText10 : FunS B 28 rText10S := by
 refine funS_of (N := 29) (f := ff_rText10) env_PF0 mixed fn_rText10 (by kernel_rfl) (by kernel_rfl) (by kernel_rfl) rText10S_mono ?_
 intro A k ys hA hF
 obtain ⟨l, rfl, ⟨hl, hw⟩, hk⟩ := rText10S_inv hF; clear hF
 refine ⟨by kernel_rfl, (hA.nf (nf_rText10_a A k l) ?_)⟩
 have key := down_loop l (fun i => ∀ t : List UInt8, t.length + 2 * (l.length - i) <= 1000000 -> k [.str ⟨(t ++ pairsB (l.drop i)).toArray⟩] [] -> A (td Tryz.f28 3) (envAt 29 [(0, .sl _ e_api_Pair l), (3, .str ⟨t.toArray⟩), (4, .int .i64 (i : Int))]) []) ?_ ?_ 0 (Nat.zero_le _)
 ·exact key [] (by show 0 + 2 * (l.length - 0) <= 1000000; omega) hk
 ·intro t _ hk
  refine (hA.nf (nf_rText10_b A k l _ _) ?_)
  rw [ilt_false (Nat.lt_irrefl _)]
  rw [List.drop_length, pairsB, List.append_nil] at hk; exact hk
 ·intro i y hy ih t ht hk
  have hlt := lt_of_get hy
  refine (hA.nf (nf_rText10_b A k l _ _) ?_)
  rw [ilt_true hlt, cond_true]
  obtain ⟨⟨i1, i2⟩, j1, j2⟩ := inP_iff.1 (hw y (List.mem_of_getElem? hy))
  have e1 : Int.toNat 1 = 1 := rfl
  have ms : ∀ l : List UInt8, (ByteArray.mk l.toArray).size = l.length := mk_size
  have ap : ∀ l m : List UInt8, ByteArray.mk l.toArray ++ ByteArray.mk m.toArray = ByteArray.mk (l ++ m).toArray := fun l m => by
   apply ByteArray.ext; apply Array.ext'; simp
  refine get_at hy (get_at hy ?_)
  rw [u64_id y.1 i1 (by omega), u64_id y.2 j1 (by omega)]
  refine ⟨⟨⟨i1, by omega⟩, by decide, by decide⟩, ⟨⟨j1, by omega⟩, by decide, by decide⟩, ?_⟩
  rw [e1, ap, ap, ms, ms, ms, ms, List.length_append, beL_len, beL_len, wrap_succ (by omega)]
  refine ⟨by omega, by omega, ih _ ?_ ?_⟩
  ·rw [List.length_append, List.length_append, beL_len, beL_len]; omega
  ·have e : t ++ (beL 1 y.1.toNat ++ beL 1 y.2.toNat) ++ pairsB (l.drop (i + 1)) = t ++ pairsB (l.drop i) := by
    rw [drop_cons' hy, pairsB, pairB]; simp only [List.append_assoc]
   rw [e]; exact hk
def rSame10S : SpecS := fun ys Φ => match ys with
 | [x_0, x_1] => ∃ (l : List Pr), ∃ (m : List Pr), x_0 = .sl _ e_api_Pair l /\ x_1 = .sl _ e_api_Pair m /\ (l.length < 4611686018427387904) /\ Φ [.bool (decide (l = m))]
 | _ => False
theorem rSame10S_mono : MonoS rSame10S := by
 intro ys Φ Ψ h hF
 unfold rSame10S at hF ⊢
 split at hF
 ·obtain ⟨a0, a1, q0, q1, hp, hk⟩ := hF; exact ⟨a0, a1, q0, q1, hp, h _ hk⟩
 ·exact hF.elim
theorem rSame10S_inv {ys : List PV} {Φ : List PV -> Prop} (h : rSame10S ys Φ) : ∃ (l : List Pr) (m : List Pr), ys = [.sl _ e_api_Pair l, .sl _ e_api_Pair m] /\ (l.length < 4611686018427387904) /\ Φ [.bool (decide (l = m))] := by
 unfold rSame10S at h
 split at h
 ·obtain ⟨a0, a1, q0, q1, hz⟩ := h
  subst q0
  subst q1
  exact ⟨a0, a1, rfl, hz⟩
 ·exact h.elim
theorem fn_rSame10 : FnOk Tryz.prog 46 Tryz.f46 (bodyOf Tryz.f46) := ⟨by kernel_rfl, by kernel_rfl, by kernel_rfl⟩
noncomputable def ff_rSame10 : Fun := ⟨Tryz.f46.ntmps, 0, Tryz.f46.results.toList, fun i => match i with | 4 => some [0, 1, 5] | _ => none, fun _ => false, fun _ => []⟩
theorem nf_rSame10_a (A : KA Kd) (k : List PV -> Heap Kd -> Prop) (l m : List Pr) : evT PF0 ff_rSame10 A k 400 false [.code (bodyOf Tryz.f46)] (startEnv 26 [.sl _ e_api_Pair l, .sl _ e_api_Pair m]) [] = (bif (↑l.length : Int) != (↑m.length : Int) then k [.bool false] []
else A (td Tryz.f46 (4 : Nat)) (envAt (26 : Nat) [((0 : Nat), PV.sl (Int × Int) e_api_Pair l), ((1 : Nat), PV.sl (Int × Int) e_api_Pair m), ((5 : Nat), PV.int IntKind.i64 (0 : Int))]) []) := by kernel_rfl
theorem nf_rSame10_b (A : KA Kd) (k : List PV -> Heap Kd -> Prop) (l m : List Pr) (i : Int) : evT PF0 ff_rSame10 A k 400 true (td Tryz.f46 4) (envAt 26 [(0, .sl _ e_api_Pair l), (1, .sl _ e_api_Pair m), (5, .int .i64 i)]) [] = (bif decide (i < (↑l.length : Int)) then (0 <= i /\ i < (↑l.length : Int)) /\ ∀ (y : Int × Int), l[i.toNat]? = some y -> (0 <= i /\ i < (↑m.length : Int)) /\ ∀ (y_1 : Int × Int), m[i.toNat]? = some y_1 -> bif !(y.fst == y_1.fst && (y.snd == y_1.snd && true)) then k [.bool false] [] else A (td Tryz.f46 4) (envAt 26 [(0, .sl (Int × Int) e_api_Pair l), (1, .sl (Int × Int) e_api_Pair m), (5, .int .i64 (IntKind.i64.wrap (i + 1)))]) []
else k [PV.bool true] []) := by kernel_rfl
theorem ok_rSame10 : FunS B 46 rSame10S := by
 refine funS_of (N := 26) (f := ff_rSame10) env_PF0 mixed fn_rSame10 (by kernel_rfl) (by kernel_rfl) (by kernel_rfl) rSame10S_mono ?_
 intro A k ys hA hF
 obtain ⟨l, m, rfl, hl, hk⟩ := rSame10S_inv hF; clear hF
 refine ⟨by kernel_rfl, (hA.nf (nf_rSame10_a A k l m) ?_)⟩
 cases c : ((l.length : Int) != (m.length : Int)) with
 | true =>
  have : decide (l = m) = false := decide_eq_false fun h => by rw [h, bne_self_eq_false] at c; cases c
  rw [this] at hk; exact hk
 | false =>
 have hlm : l.length = m.length := by
  have : ((l.length : Int) == (m.length : Int)) = true := by rw [<- Bool.not_eq_false']; exact c
  rw [beq_iff_eq] at this; omega
 rw [cond_false]
 refine down_loop l (fun i => k [.bool (decide (l.drop i = m.drop i))] [] -> A (td Tryz.f46 4) (envAt 26 [(0, .sl _ e_api_Pair l), (1, .sl _ e_api_Pair m), (5, .int .i64 (i : Int))]) []) ?_ ?_ 0 (Nat.zero_le _) hk
 ·intro hk
  refine (hA.nf (nf_rSame10_b A k l m _) ?_)
  rw [ilt_false (Nat.lt_irrefl _)]
  have : decide (l.drop l.length = m.drop l.length) = true := decide_eq_true (by rw [List.drop_length, hlm, List.drop_length])
  rw [this] at hk; exact hk
 ·intro i y hy ih hk
  have hlt := lt_of_get hy
  obtain ⟨z, hz⟩ : ∃ z, m[i]? = some z := ⟨m[i]'(by omega), List.getElem?_eq_getElem (by omega)⟩
  refine (hA.nf (nf_rSame10_b A k l m _) ?_)
  rw [ilt_true hlt, cond_true]
  refine get_at hy (get_at hz ?_)
  rw [drop_cons' hy, drop_cons' hz] at hk
  rw [wrap_succ (by omega)]
  cases c1 : y.1 == z.1 with
  | false =>
   have : decide (y :: l.drop (i + 1) = z :: m.drop (i + 1)) = false := decide_eq_false fun h => by
    rw [List.cons.injEq] at h; rw [h.1, beq_self_eq_true] at c1; cases c1
   rw [this] at hk; exact hk
  | true =>
  cases c2 : y.2 == z.2 with
  | false =>
   have : decide (y :: l.drop (i + 1) = z :: m.drop (i + 1)) = false := decide_eq_false fun h => by
    rw [List.cons.injEq] at h; rw [h.1, beq_self_eq_true] at c2; cases c2
   rw [this] at hk; exact hk
  | true =>
   have hyz : y = z := Prod.ext (eq_of_beq c1) (eq_of_beq c2)
   refine ih ?_
   have : decide (y :: l.drop (i + 1) = z :: m.drop (i + 1)) = decide (l.drop (i + 1) = m.drop (i + 1)) := by rw [hyz]; simp
   rw [this] at hk; exact hk
end Go.Ab.T
