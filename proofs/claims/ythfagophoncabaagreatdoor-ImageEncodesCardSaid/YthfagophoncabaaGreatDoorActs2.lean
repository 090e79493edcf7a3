import Derived.Test.YthfagophoncabaaGreatDoorActs1
import Derived.Test.YthfagophoncabaaGreatDoorAbC
set_option linter.unusedVariables false
set_option linter.unusedSimpArgs false
set_option linter.unusedSectionVars false
namespace Go.Ab.T
open Go Go.Ab Go.Proofs
variable [DMode]
set_option maxRecDepth 100000
set_option maxHeartbeats 4000000
noncomputable def AD0 := base (fun _ => none) (fun g => match g with | 107 => some doesS | 167 => some idAS | 108 => some ltAS | _ => none) (fun _ => none)
theorem env_AD0 : EnvOk AD0 := env_of (by
 intro g F h
 split at h
 ·cases h; exact ok_doesF
 ·cases h; exact ok_acRight
 ·cases h; exact ok_less11
 ·cases h) (fun g F h => (by cases h)) (fun g F h => (by cases h))
theorem fn_acWrong : FnOk Tryz.prog 136 Tryz.f136 (bodyOf Tryz.f136) := ⟨by kernel_rfl, by kernel_rfl, by kernel_rfl⟩
noncomputable def ff_acWrong : Fun := ⟨Tryz.f136.ntmps, 0, Tryz.f136.results.toList, fun _ => none, fun _ => false, fun _ => []⟩
theorem nf_acWrong (A : KA Kd) (k : List PV -> Heap Kd -> Prop) (l : List Act3) (i : Int) : evT AD0 ff_acWrong A k 400 false [.code (bodyOf Tryz.f136)] (startEnv 39 [.sl _ e_api_Act l, .int .i64 i]) [] = ((0 <= i /\ i < (↑l.length : Int)) /\ ∀ (y : Int × Int × Int), l[i.toNat]? = some y -> bif !idOk y.fst then k [.int .i64 18] [] else bif !idOk y.snd.fst then k [.int .i64 18] [] else bif !doesA y.snd.snd then k [.int .i64 6] [] else bif decide (i > 0) then (0 <= IntKind.i64.wrap (i - 1) /\ IntKind.i64.wrap (i - 1) < (↑l.length : Int)) /\ ∀ (y_1 : Int × Int × Int), l[(IntKind.i64.wrap (i - 1)).toNat]? = some y_1 -> bif !ltA (y_1.fst, y_1.snd.fst, y_1.snd.snd) (y.fst, y.snd.fst, y.snd.snd) then k [.int .i64 9] [] else k [.int .i64 0] [] else k [.int .i64 0] []) := by kernel_rfl
def acWrongS : SpecS := fun ys Φ => match ys with
 | [x_0, .int .i64 i] => ∃ (l : List Act3), ∃ (n : Nat), ∃ (y : Act3), x_0 = .sl _ e_api_Act l /\ (l.length < 100000 /\ i = (n : Int) /\ l[n]? = some y) /\ Φ [.int .i64 (aw1 (prevA l n) y)]
 | _ => False
theorem acWrongS_mono : MonoS acWrongS := by
 intro ys Φ Ψ h hF
 unfold acWrongS at hF ⊢
 split at hF
 ·obtain ⟨a0, a1, a2, q0, hp, hk⟩ := hF; exact ⟨a0, a1, a2, q0, hp, h _ hk⟩
 ·exact hF.elim
theorem acWrongS_inv {ys : List PV} {Φ : List PV -> Prop} (h : acWrongS ys Φ) : ∃ (l : List Act3) (i : Int) (n : Nat) (y : Act3), ys = [.sl _ e_api_Act l, .int .i64 i] /\ (l.length < 100000 /\ i = (n : Int) /\ l[n]? = some y) /\ Φ [.int .i64 (aw1 (prevA l n) y)] := by
 unfold acWrongS at h
 split at h
 ·obtain ⟨a0, a1, a2, q0, hz⟩ := h
  subst q0
  exact ⟨a0, _, a1, a2, rfl, hz⟩
 ·exact h.elim
theorem ok_acWrong : FunS B 136 acWrongS := by
 refine funS_of (N := 39) (f := ff_acWrong) env_AD0 mixed fn_acWrong (by kernel_rfl) (by kernel_rfl) (by kernel_rfl) acWrongS_mono ?_
 intro A k ys hA hF
 obtain ⟨l, i, n, y, rfl, ⟨hl, rfl, hy⟩, hk⟩ := acWrongS_inv hF; clear hF
 refine ⟨by kernel_rfl, (hA.nf (nf_acWrong A k l n) ?_)⟩
 have hlt := lt_of_get hy
 refine get_at hy ?_
 unfold aw1 at hk
 cases c1 : idOk y.1 with
 | false =>
  have : inA y = false := by unfold inA; rw [c1]; rfl
  rw [this] at hk; exact hk
 | true =>
 cases c2 : idOk y.2.1 with
 | false =>
  have : inA y = false := by unfold inA; rw [c1, c2]; rfl
  rw [this] at hk; exact hk
 | true =>
 have hin : inA y = true := by unfold inA; rw [c1, c2]; rfl
 rw [hin] at hk
 cases c3 : doesA y.2.2 with
 | false => rw [c3] at hk; exact hk
 | true =>
 rw [c3] at hk
 rcases n with _ | n
 ·exact hk
 ·obtain ⟨z, hz⟩ : ∃ z, l[n]? = some z := ⟨l[n]'(by omega), List.getElem?_eq_getElem (by omega)⟩
  have hp : prevA l (n + 1) = some z := hz
  have d0 : decide (((n + 1 : Nat) : Int) > 0) = true := decide_eq_true (by omega)
  rw [d0]
  refine get_at' (i := n) (by rw [wrap_id _ (by omega) (by omega)]; omega) hz ?_
  have e2 : ltA (z.1, z.2.1, z.2.2) (y.1, y.2.1, y.2.2) = ordA (prevA l (n + 1)) y := by rw [hp]; rfl
  rw [e2]
  cases c4 : ordA (prevA l (n + 1)) y with
  | false => rw [c4] at hk; exact hk
  | true => rw [c4] at hk; exact hk
noncomputable def AD1 := base (fun g => match g with | 117 => some (lift 0 cloneS) | 49 => some (eitherOwn (lift 1 putIS) (lift 0 putS)) | _ => none) (fun g => match g with | 111 => some newS | 110 => some atS | 109 => some inS | 136 => some acWrongS | _ => none) (fun _ => none)
theorem env_AD1 : EnvOk AD1 := env_of (by
 intro g F h
 split at h
 ·cases h; exact ok_New
 ·cases h; exact ok_At
 ·cases h; exact ok_In
 ·cases h; exact ok_acWrong
 ·cases h) (by
 intro g F h
 split at h
 ·cases h; exact (lift_ok ok_clone)
 ·cases h; exact (eitherOwn_ok (lift_ok ok_putI) (lift_ok ok_put))
 ·cases h) (fun g F h => (by cases h))
theorem fn_acPut : FnOk Tryz.prog 68 Tryz.f68 (bodyOf Tryz.f68) := ⟨by kernel_rfl, by kernel_rfl, by kernel_rfl⟩
noncomputable def ff_acPut : Fun := ⟨Tryz.f68.ntmps, 0, Tryz.f68.results.toList, fun i => match i with | 9 => some [0, 1, 6, 14, 15, 16, 39, 40] | 3 => some [0, 1, 6, 14, 15, 16] | _ => none, fun _ => false, fun _ => []⟩
theorem nf_acPut_a (A : KA Kd) (k : List PV -> Heap Kd -> Prop) (b : List UInt8) (l : List Act3) : evT AD1 ff_acPut A k 400 false [.code (bodyOf Tryz.f68)] (startEnv 53 [.sl _ e_uint8 b, .sl _ e_api_Act l]) [] = (∃ (l_1 : List UInt8), PV.sl UInt8 e_uint8 b = PV.sl UInt8 e_uint8 l_1 /\ l_1.length < 1099511627776 /\ A (td Tryz.f68 3) (envAt 53 [(0, .sl UInt8 e_uint8 b), (1, .sl (Int × Int × Int) e_api_Act l), (6, .own 0), (14, .sl (Int × Int × Int) e_api_Act l), (15, .int .i64 (↑l.length : Int)), (16, .int .i64 0)]) [.row 5 l_1]) := by kernel_rfl
theorem nf_acPut_b (A : KA Kd) (k : List PV -> Heap Kd -> Prop) (b out : List UInt8) (l : List Act3) (n i : Int) : evT AD1 ff_acPut A k 400 true (td Tryz.f68 3) (envAt 53 [(0, .sl _ e_uint8 b), (1, .sl _ e_api_Act l), (6, .own 0), (14, .sl _ e_api_Act l), (15, .int .i64 n), (16, .int .i64 i)]) [.row 5 out] = (bif decide (i < n) then (0 <= i /\ i < (↑l.length : Int)) /\ ∀ (y : Int × Int × Int), l[i.toNat]? = some y -> ∃ (l_1 : List Act3), ∃ (n_1 : Nat), ∃ (y_1 : Act3), PV.sl (Int × Int × Int) e_api_Act l = PV.sl (Int × Int × Int) e_api_Act l_1 /\ (l_1.length < 100000 /\ i = (↑n_1 : Int) /\ l_1[n_1]? = some y_1) /\ bif aw1 (prevA l_1 n_1) y_1 != 0 then ∃ (l : List UInt8), PV.sl UInt8 e_uint8 b = PV.sl UInt8 e_uint8 l /\ l.length < 1099511627776 /\ k [.own 0, .err (inE (5 : Int) (atE i (newE (aw1 (prevA l_1 n_1) y_1))))] [.row 5 l] else A (td Tryz.f68 9) (envAt 53 [(0, .sl UInt8 e_uint8 b), (1, .sl (Int × Int × Int) e_api_Act l), (6, .own 0), (14, .sl (Int × Int × Int) e_api_Act l), (15, .int .i64 n), (16, .int .i64 i), (39, .agg [.int .i64 y.fst, .int .i64 y.snd.fst, .int .i64 y.snd.snd]), (40, .int .i64 0)]) [.row 5 out]
else k [PV.own (0 : Nat), PV.err Err.nil] [AObj.row (5 : Nat) out]) := by kernel_rfl
theorem nf_acPut_0 (A : KA Kd) (k : List PV -> Heap Kd -> Prop) (b out : List UInt8) (l : List Act3) (n i x y z : Int) : evT AD1 ff_acPut A k 400 true (td Tryz.f68 9) (envAt 53 [(0, .sl _ e_uint8 b), (1, .sl _ e_api_Act l), (6, .own 0), (14, .sl _ e_api_Act l), (15, .int .i64 n), (16, .int .i64 i), (39, .agg [.int .i64 x, .int .i64 y, .int .i64 z]), (40, .int .i64 0)]) [.row 5 out] = ((0 <= IntKind.u64.wrap x /\ IntKind.u64.wrap x < 18446744073709551616 /\ out.length < 1099511627776) /\ A (td Tryz.f68 9) (envAt 53 [(0, .sl UInt8 e_uint8 b), (1, .sl (Int × Int × Int) e_api_Act l), (6, .own 0), (14, .sl (Int × Int × Int) e_api_Act l), (15, .int .i64 n), (16, .int .i64 i), (39, .agg [.int .i64 x, .int .i64 y, .int .i64 z]), (40, .int .i64 (IntKind.i64.wrap ((0 : Int) + (1 : Int))))]) [.row 5 (putV out (IntKind.u64.wrap x) 1)]) := by kernel_rfl
theorem nf_acPut_1 (A : KA Kd) (k : List PV -> Heap Kd -> Prop) (b out : List UInt8) (l : List Act3) (n i x y z : Int) : evT AD1 ff_acPut A k 400 true (td Tryz.f68 9) (envAt 53 [(0, .sl _ e_uint8 b), (1, .sl _ e_api_Act l), (6, .own 0), (14, .sl _ e_api_Act l), (15, .int .i64 n), (16, .int .i64 i), (39, .agg [.int .i64 x, .int .i64 y, .int .i64 z]), (40, .int .i64 1)]) [.row 5 out] = ((0 <= IntKind.u64.wrap y /\ IntKind.u64.wrap y < 18446744073709551616 /\ out.length < 1099511627776) /\ A (td Tryz.f68 9) (envAt 53 [(0, .sl UInt8 e_uint8 b), (1, .sl (Int × Int × Int) e_api_Act l), (6, .own 0), (14, .sl (Int × Int × Int) e_api_Act l), (15, .int .i64 n), (16, .int .i64 i), (39, .agg [.int .i64 x, .int .i64 y, .int .i64 z]), (40, .int .i64 (IntKind.i64.wrap ((1 : Int) + (1 : Int))))]) [.row 5 (putV out (IntKind.u64.wrap y) 1)]) := by kernel_rfl
theorem nf_acPut_2 (A : KA Kd) (k : List PV -> Heap Kd -> Prop) (b out : List UInt8) (l : List Act3) (n i x y z : Int) : evT AD1 ff_acPut A k 400 true (td Tryz.f68 9) (envAt 53 [(0, .sl _ e_uint8 b), (1, .sl _ e_api_Act l), (6, .own 0), (14, .sl _ e_api_Act l), (15, .int .i64 n), (16, .int .i64 i), (39, .agg [.int .i64 x, .int .i64 y, .int .i64 z]), (40, .int .i64 2)]) [.row 5 out] = ((0 <= IntKind.u64.wrap z /\ IntKind.u64.wrap z < 18446744073709551616 /\ out.length < 1099511627776) /\ A (td Tryz.f68 9) (envAt 53 [(0, .sl UInt8 e_uint8 b), (1, .sl (Int × Int × Int) e_api_Act l), (6, .own 0), (14, .sl (Int × Int × Int) e_api_Act l), (15, .int .i64 n), (16, .int .i64 i), (39, .agg [.int .i64 x, .int .i64 y, .int .i64 z]), (40, .int .i64 (IntKind.i64.wrap ((2 : Int) + (1 : Int))))]) [.row 5 (putV out (IntKind.u64.wrap z) 1)]) := by kernel_rfl
theorem nf_acPut_3 (A : KA Kd) (k : List PV -> Heap Kd -> Prop) (b out : List UInt8) (l : List Act3) (n i x y z : Int) : evT AD1 ff_acPut A k 400 true (td Tryz.f68 9) (envAt 53 [(0, .sl _ e_uint8 b), (1, .sl _ e_api_Act l), (6, .own 0), (14, .sl _ e_api_Act l), (15, .int .i64 n), (16, .int .i64 i), (39, .agg [.int .i64 x, .int .i64 y, .int .i64 z]), (40, .int .i64 3)]) [.row 5 out] = (A (td Tryz.f68 3) (envAt 53 [(0, .sl UInt8 e_uint8 b), (1, .sl (Int × Int × Int) e_api_Act l), (6, .own 0), (14, .sl (Int × Int × Int) e_api_Act l), (15, .int .i64 n), (16, .int .i64 (IntKind.i64.wrap (i + 1)))]) [.row 5 out]) := by kernel_rfl
def acPutS : List PV -> Heap Kd -> (List PV -> Heap Kd -> Prop) -> Prop := fun ys L k => match ys, L with
 | [x_0, x_1], [] => ∃ (b : List UInt8), ∃ (l : List Act3), x_0 = .sl _ e_uint8 b /\ x_1 = .sl _ e_api_Act l /\ (b.length < 1000000 /\ l.length < 100000) /\ k [.own 0, .err (actsE none 0 l)] [.row 5 (outP b (actsE none 0 l) b (actsB l))]
 | _, _ => False
theorem acPutS_inv {ys : List PV} {L : Heap Kd} {k : List PV -> Heap Kd -> Prop} (h : acPutS ys L k) : ∃ (b : List UInt8) (l : List Act3), ys = [.sl _ e_uint8 b, .sl _ e_api_Act l] /\ L = [] /\ (b.length < 1000000 /\ l.length < 100000) /\ k [.own 0, .err (actsE none 0 l)] [.row 5 (outP b (actsE none 0 l) b (actsB l))] := by
 unfold acPutS at h
 split at h
 ·obtain ⟨a0, a1, q0, q1, hz⟩ := h
  subst q0
  subst q1
  exact ⟨a0, a1, rfl, rfl, hz⟩
 ·exact h.elim
theorem acPut_loop (A : KA Kd) (k : List PV -> Heap Kd -> Prop) (hA : Closed AD1 ff_acPut k A) (b : List UInt8) (l : List Act3) (hb : b.length < 1000000) (hl : l.length < 100000) :
 ∀ i, i <= l.length -> ∀ out : List UInt8, out.length + 3 * (l.length - i) < 1000000000 -> k [.own 0, .err (actsE (prevA l i) i (l.drop i))] [.row 5 (outP b (actsE (prevA l i) i (l.drop i)) out (actsB (l.drop i)))] ->
  A (td Tryz.f68 3) (envAt 53 [(0, .sl _ e_uint8 b), (1, .sl _ e_api_Act l), (6, .own 0), (14, .sl _ e_api_Act l), (15, .int .i64 (l.length : Int)), (16, .int .i64 (i : Int))]) [.row 5 out] := by
 refine down_loop l _ ?_ ?_
 ·intro out _ hk
  refine (hA.nf (nf_acPut_b A k b out l _ _) ?_)
  rw [ilt_false (Nat.lt_irrefl _)]
  rw [List.drop_length] at hk
  have e : outP b (actsE (prevA l l.length) l.length []) out (actsB []) = out := by
   cases prevA l l.length <;> exact List.append_nil _
  have e2 : actsE (prevA l l.length) l.length [] = .nil := by cases prevA l l.length <;> rfl
  rw [e, e2] at hk; exact hk
 ·intro i y hy ih out ho hk
  have hlt := lt_of_get hy
  refine (hA.nf (nf_acPut_b A k b out l _ _) ?_)
  rw [ilt_true hlt, cond_true]
  refine get_at hy ⟨l, i, y, rfl, ⟨hl, rfl, hy⟩, ?_⟩
  have hprev : prevA l (i + 1) = some y := hy
  rw [drop_cons' hy, actsE_cons] at hk
  have p1 : ((256 ^ Int.toNat 1 : Nat) : Int) = 256 := by decide
  have e1 : Int.toNat 1 = 1 := rfl
  have w1 : IntKind.i64.wrap (0 + 1) = 1 := by decide
  have w2 : IntKind.i64.wrap (1 + 1) = 2 := by decide
  have w3 : IntKind.i64.wrap (2 + 1) = 3 := by decide
  cases c : aw1 (prevA l i) y == 0 with
  | false =>
   have hne : (aw1 (prevA l i) y != 0) = true := by show (!(aw1 (prevA l i) y == 0)) = true; rw [c]; rfl
   rw [hne, cond_true]
   rw [c] at hk
   have hc : isCls (aw1 (prevA l i) y) = true := by
    rw [beq_eq_false_iff_ne] at c
    rcases aw1_cases (prevA l i) y with h | h | h | h
    ·exact absurd h c
    ·rw [h]; rfl
    ·rw [h]; rfl
    ·rw [h]; rfl
   have eI : inE 5 (atE (i : Int) (newE (aw1 (prevA l i) y))) = .sec 5 (.plc (i : Int) (.cls (aw1 (prevA l i) y))) := by unfold newE; rw [hc]; rfl
   exact ⟨b, rfl, by omega, by rw [eI]; exact hk⟩
  | true =>
   have h0 := eq_of_beq c
   have hne : (aw1 (prevA l i) y != 0) = false := by show (!(aw1 (prevA l i) y == 0)) = false; rw [c]; rfl
   rw [hne, cond_false]
   rw [c] at hk
   obtain ⟨z1, z2, z3⟩ := aw1_zero h0
   obtain ⟨⟨i1, i2⟩, j1, j2⟩ := inA_iff.1 z1
   have hd := doesA_iff.1 z2
   refine (hA.nf (nf_acPut_0 A k b out l _ _ _ _ _) ?_)
   rw [u64_id y.1 i1 (by omega), putV_ok out (v := y.1) rfl (by rw [p1]; omega), e1, w1]
   refine ⟨⟨i1, by omega, by omega⟩, ?_⟩
   refine (hA.nf (nf_acPut_1 A k b _ l _ _ _ _ _) ?_)
   rw [u64_id y.2.1 j1 (by omega), putV_ok _ (v := y.2.1) rfl (by rw [p1]; omega), e1, w2]
   refine ⟨⟨j1, by omega, by rw [List.length_append, beL_len]; omega⟩, ?_⟩
   refine (hA.nf (nf_acPut_2 A k b _ l _ _ _ _ _) ?_)
   rw [u64_id y.2.2 (by omega) (by omega), putV_ok _ (v := y.2.2) rfl (by rw [p1]; omega), e1, w3]
   refine ⟨⟨by omega, by omega, by rw [List.length_append, List.length_append, beL_len, beL_len]; omega⟩, ?_⟩
   refine (hA.nf (nf_acPut_3 A k b _ l _ _ _ _ _) ?_)
   rw [wrap_succ (by omega)]
   have e : out ++ beL 1 y.1.toNat ++ beL 1 y.2.1.toNat ++ beL 1 y.2.2.toNat = addAc out y := by unfold addAc actB; simp only [List.append_assoc]
   rw [e]
   refine ih _ (by unfold addAc; rw [List.length_append, actB_len]; omega) ?_
   rw [hprev, act_bytes]; exact hk
theorem ok_acPut : FunF B 68 0 acPutS := by
 refine funF_of (N := 53) (f := ff_acPut) env_AD1 mixed fn_acPut (by kernel_rfl) (by kernel_rfl) ?_
 intro A k ys L hA hF
 obtain ⟨b, l, rfl, rfl, ⟨hb, hl⟩, hk⟩ := acPutS_inv hF; clear hF
 refine ⟨by kernel_rfl, (hA.nf (nf_acPut_a A k b l) ?_)⟩
 exact ⟨b, rfl, by omega, acPut_loop A k hA b l hb hl 0 (Nat.zero_le _) b (by omega) hk⟩
end Go.Ab.T
