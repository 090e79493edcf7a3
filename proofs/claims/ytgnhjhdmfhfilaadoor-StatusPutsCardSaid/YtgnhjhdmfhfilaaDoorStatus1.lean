import Derived.Test.YtgnhjhdmfhfilaaDoorPut2
import Derived.Test.YtgnhjhdmfhfilaaDoorMaB
import Derived.Test.YtgnhjhdmfhfilaaDoorRef01T
import Derived.Test.YtgnhjhdmfhfilaaDoorAs2
import Derived.Test.YtgnhjhdmfhfilaaDoorSh
import Derived.Test.YtgnhjhdmfhfilaaDoorAbC
set_option linter.unusedVariables false
set_option linter.unusedSimpArgs false
namespace Go.Ab.T
open Go Go.Ab Go.Proofs
set_option maxRecDepth 100000
set_option maxHeartbeats 4000000
noncomputable def SA1 := base (fun g => match g with | 133 => some (lift 0 namesF) | 106 => some (lift 0 namesF) | 62 => some (lift 0 cloneS) | 63 => some (eitherOwn (lift 1 putIS) (lift 0 putS)) | _ => none) (fun g => match g with | 83 => some nameS | 103 => some nameS | 48 => some newS | 50 => some atS | 71 => some inS | 89 => some sizeS | 132 => some rSizeS | 58 => some getS | 102 => some getS | 61 => some fitsS | 60 => some r01TS | 23 => some ofS | _ => none) (fun _ => none)
theorem env_SA1 : EnvOk SA1 := env_of (by
    intro g F h
    split at h
    · cases h; exact ok_Name
    · cases h; exact ok_rName
    · cases h; exact ok_New
    · cases h; exact ok_At
    · cases h; exact ok_In
    · cases h; exact ok_size
    · cases h; exact ok_rSize
    · cases h; exact ok_Get
    · cases h; exact ok_rGet
    · cases h; exact ok_fits
    · cases h; exact ok_r01T
    · cases h; exact of_ok
    · cases h) (by
    intro g F h
    split at h
    · cases h; exact (lift_ok ok_rnames)
    · cases h; exact (lift_ok ok_names)
    · cases h; exact (lift_ok ok_clone)
    · cases h; exact (eitherOwn_ok (lift_ok ok_putI) (lift_ok ok_put))
    · cases h) (fun g F h => (by cases h))
def stWS : SpecS := fun ys Φ => match ys with
  | [.int .i64 e, .int .i64 a] => Φ [.err (atE a (newE e))]
  | _ => False
theorem stWS_mono : MonoS stWS := by
  intro ys Φ Ψ h hF
  unfold stWS at hF ⊢
  split at hF
  · exact h _ hF
  · exact hF.elim
theorem stWS_inv {ys : List PV} {Φ : List PV → Prop} (h : stWS ys Φ) : ∃ (e : Int) (a : Int), ys = [.int .i64 e, .int .i64 a] ∧ Φ [.err (atE a (newE e))] := by
  unfold stWS at h
  split at h
  · exact ⟨_, _, rfl, h⟩
  · exact h.elim
theorem fn_stWrong : FnOk Tryd.prog 57 Tryd.f57 (bodyOf Tryd.f57) := ⟨by kernel_rfl, by kernel_rfl, by kernel_rfl⟩
noncomputable def ff_stWrong : Fun := ⟨Tryd.f57.ntmps, 0, Tryd.f57.results.toList, fun _ => none, fun _ => false, fun _ => []⟩
theorem nf_stWrong (A : KA Kd) (k : List PV → Heap Kd → Prop) (e a : Int) : evT SA1 ff_stWrong A k 400 false [.code (bodyOf Tryd.f57)] (startEnv 9 [.int .i64 e, .int .i64 a]) [] = (k [PV.err (atE a (newE e))] []) := by kernel_rfl
theorem ok_stWrong : FunS B 57 stWS := by
  refine funS_of (N := 9) (f := ff_stWrong) env_SA1 mixed fn_stWrong (by kernel_rfl) (by kernel_rfl) (by kernel_rfl) stWS_mono ?_
  intro A k ys hA hF
  obtain ⟨e, a, rfl, hk⟩ := stWS_inv hF; clear hF
  exact ⟨by kernel_rfl, (hA.nf (nf_stWrong A k e a) hk)⟩
noncomputable def SA2 := base (fun g => match g with | 133 => some (lift 0 namesF) | 106 => some (lift 0 namesF) | 62 => some (lift 0 cloneS) | 63 => some (eitherOwn (lift 1 putIS) (lift 0 putS)) | _ => none) (fun g => match g with | 83 => some nameS | 103 => some nameS | 48 => some newS | 50 => some atS | 71 => some inS | 89 => some sizeS | 132 => some rSizeS | 58 => some getS | 102 => some getS | 61 => some fitsS | 60 => some r01TS | 23 => some ofS | 57 => some stWS | _ => none) (fun _ => none)
theorem env_SA2 : EnvOk SA2 := env_of (by
    intro g F h
    split at h
    · cases h; exact ok_Name
    · cases h; exact ok_rName
    · cases h; exact ok_New
    · cases h; exact ok_At
    · cases h; exact ok_In
    · cases h; exact ok_size
    · cases h; exact ok_rSize
    · cases h; exact ok_Get
    · cases h; exact ok_rGet
    · cases h; exact ok_fits
    · cases h; exact ok_r01T
    · cases h; exact of_ok
    · cases h; exact ok_stWrong
    · cases h) (by
    intro g F h
    split at h
    · cases h; exact (lift_ok ok_rnames)
    · cases h; exact (lift_ok ok_names)
    · cases h; exact (lift_ok ok_clone)
    · cases h; exact (eitherOwn_ok (lift_ok ok_putI) (lift_ok ok_put))
    · cases h) (fun g F h => (by cases h))
def stGS : SpecS := fun ys Φ => match ys with
  | [.str s] => (s.size < 4611686018427387904) ∧ Φ [.agg [.int .u64 (gL s), .int .i64 (gC s), .int .i64 (gN s)], .err (gE s)]
  | _ => False
theorem stGS_mono : MonoS stGS := by
  intro ys Φ Ψ h hF
  unfold stGS at hF ⊢
  split at hF
  · obtain ⟨hp, hk⟩ := hF; exact ⟨hp, h _ hk⟩
  · exact hF.elim
theorem stGS_inv {ys : List PV} {Φ : List PV → Prop} (h : stGS ys Φ) : ∃ (s : ByteArray), ys = [.str s] ∧ (s.size < 4611686018427387904) ∧ Φ [.agg [.int .u64 (gL s), .int .i64 (gC s), .int .i64 (gN s)], .err (gE s)] := by
  unfold stGS at h
  split at h
  · exact ⟨_, rfl, h⟩
  · exact h.elim
theorem fn_stGet : FnOk Tryd.prog 22 Tryd.f22 (bodyOf Tryd.f22) := ⟨by kernel_rfl, by kernel_rfl, by kernel_rfl⟩
noncomputable def ff_stGet : Fun := ⟨Tryd.f22.ntmps, 0, Tryd.f22.results.toList, fun _ => none, fun _ => false, fun _ => []⟩
theorem nf_stGet (A : KA Kd) (k : List PV → Heap Kd → Prop) (s : ByteArray) : evT SA2 ff_stGet A k 400 false [.code (bodyOf Tryd.f22)] (startEnv 45 [.str s]) [] = (bif decide ((↑s.size : Int) < (16 : Int)) then k [PV.agg [PV.int IntKind.u64 (0 : Int), PV.int IntKind.i64 (0 : Int), PV.int IntKind.i64 (0 : Int)], PV.err (atE (↑s.size : Int) (newE (2 : Int)))] []
else bif decide ((↑s.size : Int) > (16 : Int)) then k [PV.agg [PV.int IntKind.u64 (0 : Int), PV.int IntKind.i64 (0 : Int), PV.int IntKind.i64 (0 : Int)], PV.err (atE (16 : Int) (newE (4 : Int)))] [] else s.size < (4611686018427387904 : Nat) ∧ s.size < (4611686018427387904 : Nat) ∧ s.size < (4611686018427387904 : Nat) ∧ k [PV.agg [PV.int IntKind.u64 (getV s (0 : Int) (8 : Int)), PV.int IntKind.i64 (IntKind.i64.wrap (getV s (8 : Int) (4 : Int))), PV.int IntKind.i64 (IntKind.i64.wrap (getV s (12 : Int) (4 : Int)))], PV.err Err.nil] []) := by kernel_rfl
theorem ok_stGet : FunS B 22 stGS := by
  refine funS_of (N := 45) (f := ff_stGet) env_SA2 mixed fn_stGet (by kernel_rfl) (by kernel_rfl) (by kernel_rfl) stGS_mono ?_
  intro A k ys hA hF
  obtain ⟨s, rfl, hs, hk⟩ := stGS_inv hF; clear hF
  refine ⟨by kernel_rfl, (hA.nf (nf_stGet A k s) ?_)⟩
  unfold gL gC gN gE at hk
  have p4 : 256 ^ 4 = 4294967296 := by decide
  obtain ⟨a1, a2⟩ := getV_lt s 8 4
  obtain ⟨b1, b2⟩ := getV_lt s 12 4
  rw [p4] at a2 b2
  have a2 : getV s 8 4 < 4294967296 := a2
  have b2 : getV s 12 4 < 4294967296 := b2
  have a1 : 0 ≤ getV s 8 4 := a1
  have b1 : 0 ≤ getV s 12 4 := b1
  cases c1 : decide ((s.size : Int) < 16) with
  | true => rw [c1] at hk; exact hk
  | false =>
  cases c2 : decide ((s.size : Int) > 16) with
  | true => rw [c1, c2] at hk; exact hk
  | false =>
  rw [c1, c2] at hk
  rw [cond_false, cond_false, wrap_id (getV s 8 4) (by omega) (by omega), wrap_id (getV s 12 4) (by omega) (by omega)]
  exact ⟨hs, hs, hs, hk⟩
def stPS : List PV → Heap Kd → (List PV → Heap Kd → Prop) → Prop := fun ys L k => match ys, L with
  | [x_0, x_1], [] => ∃ (b : List UInt8), ∃ (l : Int), ∃ (c : Int), ∃ (n : Int), x_0 = .sl _ e_uint8 b ∧ x_1 = .agg [.int .u64 l, .int .i64 c, .int .i64 n] ∧ ((0 ≤ l ∧ l < 18446744073709551616) ∧ (c < 9223372036854775808 ∧ n < 9223372036854775808) ∧ b.length < 1000000) ∧ k [.own 0, .err (stE c n)] [.row 5 (outT b l c n)]
  | _, _ => False
theorem stPS_inv {ys : List PV} {L : Heap Kd} {k : List PV → Heap Kd → Prop} (h : stPS ys L k) : ∃ (b : List UInt8) (l : Int) (c : Int) (n : Int), ys = [.sl _ e_uint8 b, .agg [.int .u64 l, .int .i64 c, .int .i64 n]] ∧ L = [] ∧ ((0 ≤ l ∧ l < 18446744073709551616) ∧ (c < 9223372036854775808 ∧ n < 9223372036854775808) ∧ b.length < 1000000) ∧ k [.own 0, .err (stE c n)] [.row 5 (outT b l c n)] := by
  unfold stPS at h
  split at h
  · obtain ⟨a0, a1, a2, a3, q0, q1, hz⟩ := h
    subst q0
    subst q1
    exact ⟨a0, a1, a2, a3, rfl, rfl, hz⟩
  · exact h.elim
theorem fn_stPut : FnOk Tryd.prog 25 Tryd.f25 (bodyOf Tryd.f25) := ⟨by kernel_rfl, by kernel_rfl, by kernel_rfl⟩
noncomputable def ff_stPut : Fun := ⟨Tryd.f25.ntmps, 0, Tryd.f25.results.toList, fun i => match i with | 2 => some [0, 3, 14, 15] | _ => none, fun _ => false, fun _ => []⟩
theorem nf_stPut_a (A : KA Kd) (k : List PV → Heap Kd → Prop) (b : List UInt8) (l c n : Int) : evT SA2 ff_stPut A k 400 false [.code (bodyOf Tryd.f25)] (startEnv 56 [.sl _ e_uint8 b, .agg [.int .u64 l, .int .i64 c, .int .i64 n]]) [] = (A (td Tryd.f25 (2 : Nat)) (envAt (56 : Nat) [((0 : Nat), PV.sl UInt8 e_uint8 b), ((3 : Nat), PV.ptr (0 : Nat) (0 : Nat)), ((14 : Nat), PV.agg [PV.int IntKind.i64 c, PV.int IntKind.i64 n]), ((15 : Nat), PV.int IntKind.i64 (0 : Int))]) [AObj.box [PV.int IntKind.u64 l, PV.int IntKind.i64 c, PV.int IntKind.i64 n]]) := by kernel_rfl
theorem nf_stPut_0 (A : KA Kd) (k : List PV → Heap Kd → Prop) (b : List UInt8) (l c n : Int) : evT SA2 ff_stPut A k 400 true (td Tryd.f25 2) (envAt 56 [(0, .sl _ e_uint8 b), (3, .ptr 0 0), (14, .agg [.int .i64 c, .int .i64 n]), (15, .int .i64 0)]) [.box [.int .u64 l, .int .i64 c, .int .i64 n]] = (bif decide (c < (0 : Int)) then ∃ (l : List UInt8), PV.sl UInt8 e_uint8 b = PV.sl UInt8 e_uint8 l ∧ l.length < (1099511627776 : Nat) ∧ k [PV.own (0 : Nat), PV.err (atE (0 : Int) (newE (18 : Int)))] [AObj.row (5 : Nat) l]
else ((0 : Int) ≤ IntKind.u64.wrap c ∧ IntKind.u64.wrap c < (18446744073709551616 : Int)) ∧ bif !fitsV (IntKind.u64.wrap c) (4 : Int) then ∃ (l : List UInt8), PV.sl UInt8 e_uint8 b = PV.sl UInt8 e_uint8 l ∧ l.length < (1099511627776 : Nat) ∧ k [PV.own (0 : Nat), PV.err (atE (0 : Int) (newE (18 : Int)))] [AObj.row (5 : Nat) l] else A (td Tryd.f25 (2 : Nat)) (envAt (56 : Nat) [((0 : Nat), PV.sl UInt8 e_uint8 b), ((3 : Nat), PV.ptr (0 : Nat) (0 : Nat)), ((14 : Nat), PV.agg [PV.int IntKind.i64 c, PV.int IntKind.i64 n]), ((15 : Nat), PV.int IntKind.i64 (IntKind.i64.wrap ((0 : Int) + (1 : Int))))]) [AObj.box [PV.int IntKind.u64 l, PV.int IntKind.i64 c, PV.int IntKind.i64 n]]) := by kernel_rfl
theorem nf_stPut_1 (A : KA Kd) (k : List PV → Heap Kd → Prop) (b : List UInt8) (l c n : Int) : evT SA2 ff_stPut A k 400 true (td Tryd.f25 2) (envAt 56 [(0, .sl _ e_uint8 b), (3, .ptr 0 0), (14, .agg [.int .i64 c, .int .i64 n]), (15, .int .i64 1)]) [.box [.int .u64 l, .int .i64 c, .int .i64 n]] = (bif decide (n < (0 : Int)) then ∃ (l : List UInt8), PV.sl UInt8 e_uint8 b = PV.sl UInt8 e_uint8 l ∧ l.length < (1099511627776 : Nat) ∧ k [PV.own (0 : Nat), PV.err (atE (1 : Int) (newE (18 : Int)))] [AObj.row (5 : Nat) l]
else ((0 : Int) ≤ IntKind.u64.wrap n ∧ IntKind.u64.wrap n < (18446744073709551616 : Int)) ∧ bif !fitsV (IntKind.u64.wrap n) (4 : Int) then ∃ (l : List UInt8), PV.sl UInt8 e_uint8 b = PV.sl UInt8 e_uint8 l ∧ l.length < (1099511627776 : Nat) ∧ k [PV.own (0 : Nat), PV.err (atE (1 : Int) (newE (18 : Int)))] [AObj.row (5 : Nat) l] else A (td Tryd.f25 (2 : Nat)) (envAt (56 : Nat) [((0 : Nat), PV.sl UInt8 e_uint8 b), ((3 : Nat), PV.ptr (0 : Nat) (0 : Nat)), ((14 : Nat), PV.agg [PV.int IntKind.i64 c, PV.int IntKind.i64 n]), ((15 : Nat), PV.int IntKind.i64 (IntKind.i64.wrap ((1 : Int) + (1 : Int))))]) [AObj.box [PV.int IntKind.u64 l, PV.int IntKind.i64 c, PV.int IntKind.i64 n]]) := by kernel_rfl
theorem nf_stPut_2 (A : KA Kd) (k : List PV → Heap Kd → Prop) (b : List UInt8) (l c n : Int) : evT SA2 ff_stPut A k 400 true (td Tryd.f25 2) (envAt 56 [(0, .sl _ e_uint8 b), (3, .ptr 0 0), (14, .agg [.int .i64 c, .int .i64 n]), (15, .int .i64 2)]) [.box [.int .u64 l, .int .i64 c, .int .i64 n]] = (∃ (l_1 : List UInt8), PV.sl UInt8 e_uint8 b = PV.sl UInt8 e_uint8 l_1 ∧ ((0 : Int) ≤ l ∧ l < (18446744073709551616 : Int) ∧ l_1.length < (1099511627776 : Nat)) ∧ ((0 : Int) ≤ IntKind.u64.wrap c ∧ IntKind.u64.wrap c < (18446744073709551616 : Int) ∧ (putV l_1 l (8 : Int)).length < (1099511627776 : Nat)) ∧ ((0 : Int) ≤ IntKind.u64.wrap n ∧ IntKind.u64.wrap n < (18446744073709551616 : Int) ∧ (putV (putV l_1 l (8 : Int)) (IntKind.u64.wrap c) (4 : Int)).length < (1099511627776 : Nat)) ∧ k [PV.own (0 : Nat), PV.err Err.nil] [AObj.row (5 : Nat) (putV (putV (putV l_1 l (8 : Int)) (IntKind.u64.wrap c) (4 : Int)) (IntKind.u64.wrap n) (4 : Int))]) := by kernel_rfl
theorem fits4 {c : Int} (h0 : 0 ≤ c) (h1 : c < 9223372036854775808) : fitsV (IntKind.u64.wrap c) 4 = idU c := by
  rw [u64_id c h0 (by omega)]
  have p4 : ((256 ^ Int.toNat 4 : Nat) : Int) = 4294967296 := by decide
  unfold fitsV idU
  rw [p4, decide_eq_true h0, Bool.true_and]
  show (true && decide (c < 4294967296)) = _
  rw [Bool.true_and, Bool.eq_iff_iff, decide_eq_true_eq, decide_eq_true_eq]; omega
theorem ok_stPut : FunF B 25 0 stPS := by
  refine funF_of (N := 56) (f := ff_stPut) env_SA2 mixed fn_stPut (by kernel_rfl) (by kernel_rfl) ?_
  intro A k ys L hA hF
  obtain ⟨b, l, c, n, rfl, rfl, ⟨hl, ⟨hc, hn⟩, hb⟩, hk⟩ := stPS_inv hF; clear hF
  refine ⟨by kernel_rfl, (hA.nf (nf_stPut_a A k b l c n) ?_)⟩
  refine (hA.nf (nf_stPut_0 A k b l c n) ?_)
  have e18 : ∀ a, atE a (newE 18) = .plc a (.cls 18) := fun _ => rfl
  have bad0 : idU c = false → ∃ (m : List UInt8), PV.sl UInt8 e_uint8 b = PV.sl UInt8 e_uint8 m ∧ m.length < 1099511627776 ∧ k [PV.own 0, PV.err (atE 0 (newE 18))] [.row 5 m] := fun h => by
    have e1 : stE c n = .plc 0 (.cls 18) := by unfold stE; rw [h]; rfl
    have e2 : outT b l c n = b := by unfold outT; rw [e1]; rfl
    rw [e1, e2] at hk
    exact ⟨b, rfl, by omega, hk⟩
  have w1 : IntKind.i64.wrap (0 + 1) = 1 := by decide
  have w2 : IntKind.i64.wrap (1 + 1) = 2 := by decide
  cases c1 : decide (c < 0) with
  | true => rw [decide_eq_true_eq] at c1; exact bad0 (by unfold idU; rw [decide_eq_false (by omega)]; rfl)
  | false =>
  rw [decide_eq_false_iff_not] at c1
  rw [cond_false, fits4 (by omega) hc, w1]
  refine ⟨by rw [u64_id c (by omega) (by omega)]; omega, ?_⟩
  cases c2 : idU c with
  | false => exact bad0 c2
  | true =>
  rw [Bool.not_true, cond_false]
  refine (hA.nf (nf_stPut_1 A k b l c n) ?_)
  have bad1 : idU n = false → ∃ (m : List UInt8), PV.sl UInt8 e_uint8 b = PV.sl UInt8 e_uint8 m ∧ m.length < 1099511627776 ∧ k [PV.own 0, PV.err (atE 1 (newE 18))] [.row 5 m] := fun h => by
    have e1 : stE c n = .plc 1 (.cls 18) := by unfold stE; rw [c2, h]; rfl
    have e2 : outT b l c n = b := by unfold outT; rw [e1]; rfl
    rw [e1, e2] at hk
    exact ⟨b, rfl, by omega, hk⟩
  cases c3 : decide (n < 0) with
  | true => rw [decide_eq_true_eq] at c3; exact bad1 (by unfold idU; rw [decide_eq_false (by omega)]; rfl)
  | false =>
  rw [decide_eq_false_iff_not] at c3
  rw [cond_false, fits4 (by omega) hn, w2]
  refine ⟨by rw [u64_id n (by omega) (by omega)]; omega, ?_⟩
  cases c4 : idU n with
  | false => exact bad1 c4
  | true =>
  rw [Bool.not_true, cond_false]
  refine (hA.nf (nf_stPut_2 A k b l c n) ?_)
  obtain ⟨_, c2'⟩ := idU_iff.1 c2
  obtain ⟨_, c4'⟩ := idU_iff.1 c4
  have p4 : ((256 ^ Int.toNat 4 : Nat) : Int) = 4294967296 := by decide
  have p8 : ((256 ^ Int.toNat 8 : Nat) : Int) = 18446744073709551616 := by decide
  have e4 : Int.toNat 4 = 4 := rfl
  have e8 : Int.toNat 8 = 8 := rfl
  have hE : stE c n = .nil := by unfold stE; rw [c2, c4]; rfl
  have hO : outT b l c n = b ++ beL 8 l.toNat ++ beL 4 c.toNat ++ beL 4 n.toNat := by unfold outT; rw [hE]; unfold stB; simp only [List.append_assoc]; rfl
  rw [hE, hO] at hk
  refine ⟨b, rfl, ⟨hl.1, hl.2, by omega⟩, ?_⟩
  rw [u64_id c (by omega) (by omega), u64_id n (by omega) (by omega), putV_ok b (v := l) rfl (by rw [p8]; omega), putV_ok _ (v := c) rfl (by rw [p4]; omega), putV_ok _ (v := n) rfl (by rw [p4]; omega), e4, e8]
  refine ⟨⟨by omega, by omega, ?_⟩, ⟨by omega, by omega, ?_⟩, hk⟩
  · rw [List.length_append, beL_len]; omega
  · rw [List.length_append, List.length_append, beL_len, beL_len]; omega
def rBS : SpecS := fun ys Φ => match ys with
  | [x_0] => ∃ (l : Int), ∃ (c : Int), ∃ (n : Int), x_0 = .agg [.int .u64 l, .int .i64 c, .int .i64 n] ∧ ((0 ≤ l ∧ l < 18446744073709551616) ∧ idU c = true ∧ idU n = true) ∧ Φ [.str ⟨(stB l c n).toArray⟩]
  | _ => False
theorem rBS_mono : MonoS rBS := by
  intro ys Φ Ψ h hF
  unfold rBS at hF ⊢
  split at hF
  · obtain ⟨a0, a1, a2, q0, hp, hk⟩ := hF; exact ⟨a0, a1, a2, q0, hp, h _ hk⟩
  · exact hF.elim
theorem rBS_inv {ys : List PV} {Φ : List PV → Prop} (h : rBS ys Φ) : ∃ (l : Int) (c : Int) (n : Int), ys = [.agg [.int .u64 l, .int .i64 c, .int .i64 n]] ∧ ((0 ≤ l ∧ l < 18446744073709551616) ∧ idU c = true ∧ idU n = true) ∧ Φ [.str ⟨(stB l c n).toArray⟩] := by
  unfold rBS at h
  split at h
  · obtain ⟨a0, a1, a2, q0, hz⟩ := h
    subst q0
    exact ⟨a0, a1, a2, rfl, hz⟩
  · exact h.elim
theorem fn_rBytes : FnOk Tryd.prog 24 Tryd.f24 (bodyOf Tryd.f24) := ⟨by kernel_rfl, by kernel_rfl, by kernel_rfl⟩
noncomputable def ff_rBytes : Fun := ⟨Tryd.f24.ntmps, 0, Tryd.f24.results.toList, fun _ => none, fun _ => false, fun _ => []⟩
theorem nf_rBytes (A : KA Kd) (k : List PV → Heap Kd → Prop) (l c n : Int) : evT SA2 ff_rBytes A k 400 false [.code (bodyOf Tryd.f24)] (startEnv 16 [.agg [.int .u64 l, .int .i64 c, .int .i64 n]]) [] = ((((0 : Int) ≤ l ∧ l < (18446744073709551616 : Int)) ∧ (0 : Int) ≤ (8 : Int) ∧ (8 : Int) ≤ (100 : Int)) ∧ (((0 : Int) ≤ IntKind.u64.wrap c ∧ IntKind.u64.wrap c < (18446744073709551616 : Int)) ∧ (0 : Int) ≤ (4 : Int) ∧ (4 : Int) ≤ (100 : Int)) ∧ (ByteArray.mk (beL (Int.toNat (8 : Int)) l.toNat).toArray).size + (ByteArray.mk (beL (Int.toNat (4 : Int)) (IntKind.u64.wrap c).toNat).toArray).size ≤ (9223372036854775807 : Nat) ∧ (((0 : Int) ≤ IntKind.u64.wrap n ∧ IntKind.u64.wrap n < (18446744073709551616 : Int)) ∧ (0 : Int) ≤ (4 : Int) ∧ (4 : Int) ≤ (100 : Int)) ∧ (ByteArray.mk (beL (Int.toNat (8 : Int)) l.toNat).toArray ++ ByteArray.mk (beL (Int.toNat (4 : Int)) (IntKind.u64.wrap c).toNat).toArray).size + (ByteArray.mk (beL (Int.toNat (4 : Int)) (IntKind.u64.wrap n).toNat).toArray).size ≤ (9223372036854775807 : Nat) ∧ k [PV.str (ByteArray.mk (beL (Int.toNat (8 : Int)) l.toNat).toArray ++ ByteArray.mk (beL (Int.toNat (4 : Int)) (IntKind.u64.wrap c).toNat).toArray ++ ByteArray.mk (beL (Int.toNat (4 : Int)) (IntKind.u64.wrap n).toNat).toArray)] []) := by kernel_rfl
theorem ok_rBytes : FunS B 24 rBS := by
  refine funS_of (N := 16) (f := ff_rBytes) env_SA2 mixed fn_rBytes (by kernel_rfl) (by kernel_rfl) (by kernel_rfl) rBS_mono ?_
  intro A k ys hA hF
  obtain ⟨l, c, n, rfl, ⟨hl, hc, hn⟩, hk⟩ := rBS_inv hF; clear hF
  refine ⟨by kernel_rfl, (hA.nf (nf_rBytes A k l c n) ?_)⟩
  obtain ⟨c1, c2⟩ := idU_iff.1 hc
  obtain ⟨n1, n2⟩ := idU_iff.1 hn
  have e4 : Int.toNat 4 = 4 := rfl
  have e8 : Int.toNat 8 = 8 := rfl
  have ap : ∀ l m : List UInt8, ByteArray.mk l.toArray ++ ByteArray.mk m.toArray = ByteArray.mk (l ++ m).toArray := fun l m => by
    apply ByteArray.ext; apply Array.ext'; simp
  rw [u64_id c (by omega) (by omega), u64_id n (by omega) (by omega), e4, e8, ap, ap, mk_size, mk_size, mk_size, mk_size, List.length_append, beL_len, beL_len, beL_len, List.append_assoc]
  exact ⟨⟨hl, by omega, by omega⟩, ⟨⟨by omega, by omega⟩, by omega, by omega⟩, by omega, ⟨⟨by omega, by omega⟩, by omega, by omega⟩, by omega, hk⟩
def stNS : SpecS := fun ys Φ => match ys with
  | [x_0] => ∃ (l : Int), ∃ (c : Int), ∃ (n : Int), x_0 = .agg [.int .u64 l, .int .i64 c, .int .i64 n] ∧ Φ [.bool (n != c)]
  | _ => False
theorem stNS_mono : MonoS stNS := by
  intro ys Φ Ψ h hF
  unfold stNS at hF ⊢
  split at hF
  · obtain ⟨a0, a1, a2, q0, hk⟩ := hF; exact ⟨a0, a1, a2, q0, h _ hk⟩
  · exact hF.elim
theorem stNS_inv {ys : List PV} {Φ : List PV → Prop} (h : stNS ys Φ) : ∃ (l : Int) (c : Int) (n : Int), ys = [.agg [.int .u64 l, .int .i64 c, .int .i64 n]] ∧ Φ [.bool (n != c)] := by
  unfold stNS at h
  split at h
  · obtain ⟨a0, a1, a2, q0, hz⟩ := h
    subst q0
    exact ⟨a0, a1, a2, rfl, hz⟩
  · exact h.elim
theorem fn_stPend : FnOk Tryd.prog 26 Tryd.f26 (bodyOf Tryd.f26) := ⟨by kernel_rfl, by kernel_rfl, by kernel_rfl⟩
noncomputable def ff_stPend : Fun := ⟨Tryd.f26.ntmps, 0, Tryd.f26.results.toList, fun _ => none, fun _ => false, fun _ => []⟩
theorem nf_stPend (A : KA Kd) (k : List PV → Heap Kd → Prop) (l c n : Int) : evT SA2 ff_stPend A k 400 false [.code (bodyOf Tryd.f26)] (startEnv 8 [.agg [.int .u64 l, .int .i64 c, .int .i64 n]]) [] = (k [PV.bool (n != c)] []) := by kernel_rfl
theorem ok_stPend : FunS B 26 stNS := by
  refine funS_of (N := 8) (f := ff_stPend) env_SA2 mixed fn_stPend (by kernel_rfl) (by kernel_rfl) (by kernel_rfl) stNS_mono ?_
  intro A k ys hA hF
  obtain ⟨l, c, n, rfl, hk⟩ := stNS_inv hF; clear hF
  exact ⟨by kernel_rfl, (hA.nf (nf_stPend A k l c n) hk)⟩
def smallS : SpecS := fun ys Φ => match ys with
  | [.int .i64 i] => (i = 0) ∧ Φ [.str ⟨#[48]⟩]
  | _ => False
theorem smallS_mono : MonoS smallS := by
  intro ys Φ Ψ h hF
  unfold smallS at hF ⊢
  split at hF
  · obtain ⟨hp, hk⟩ := hF; exact ⟨hp, h _ hk⟩
  · exact hF.elim
theorem smallS_inv {ys : List PV} {Φ : List PV → Prop} (h : smallS ys Φ) : ∃ (i : Int), ys = [.int .i64 i] ∧ (i = 0) ∧ Φ [.str ⟨#[48]⟩] := by
  unfold smallS at h
  split at h
  · exact ⟨_, rfl, h⟩
  · exact h.elim
theorem fn_smallF : FnOk Tryd.prog 134 Tryd.f134 (bodyOf Tryd.f134) := ⟨by kernel_rfl, by kernel_rfl, by kernel_rfl⟩
noncomputable def ff_smallF : Fun := ⟨Tryd.f134.ntmps, 0, Tryd.f134.results.toList, fun _ => none, fun _ => false, fun _ => []⟩
theorem nf_smallF (A : KA Kd) (k : List PV → Heap Kd → Prop) (i : Int) : evT SA2 ff_smallF A k 400 false [.code (bodyOf Tryd.f134)] (startEnv 15 [.int .i64 i]) [] = (bif decide (i < (10 : Int)) then ((0 : Int) ≤ i ∧ i ≤ IntKind.i64.wrap (i + (1 : Int)) ∧ IntKind.i64.wrap (i + (1 : Int)) ≤ (↑(ByteArray.mk #[(48 : UInt8), (49 : UInt8), (50 : UInt8), (51 : UInt8), (52 : UInt8), (53 : UInt8), (54 : UInt8), (55 : UInt8), (56 : UInt8), (57 : UInt8), (97 : UInt8), (98 : UInt8), (99 : UInt8), (100 : UInt8), (101 : UInt8), (102 : UInt8), (103 : UInt8), (104 : UInt8), (105 : UInt8), (106 : UInt8), (107 : UInt8), (108 : UInt8), (109 : UInt8), (110 : UInt8), (111 : UInt8), (112 : UInt8), (113 : UInt8), (114 : UInt8), (115 : UInt8), (116 : UInt8), (117 : UInt8), (118 : UInt8), (119 : UInt8), (120 : UInt8), (121 : UInt8), (122 : UInt8)]).size : Int)) ∧ k [PV.str ((ByteArray.mk #[(48 : UInt8), (49 : UInt8), (50 : UInt8), (51 : UInt8), (52 : UInt8), (53 : UInt8), (54 : UInt8), (55 : UInt8), (56 : UInt8), (57 : UInt8), (97 : UInt8), (98 : UInt8), (99 : UInt8), (100 : UInt8), (101 : UInt8), (102 : UInt8), (103 : UInt8), (104 : UInt8), (105 : UInt8), (106 : UInt8), (107 : UInt8), (108 : UInt8), (109 : UInt8), (110 : UInt8), (111 : UInt8), (112 : UInt8), (113 : UInt8), (114 : UInt8), (115 : UInt8), (116 : UInt8), (117 : UInt8), (118 : UInt8), (119 : UInt8), (120 : UInt8), (121 : UInt8), (122 : UInt8)]).extract i.toNat (IntKind.i64.wrap (i + (1 : Int))).toNat)] []
else ((0 : Int) ≤ IntKind.i64.wrap (i * (2 : Int)) ∧ IntKind.i64.wrap (i * (2 : Int)) ≤ IntKind.i64.wrap (IntKind.i64.wrap (i * (2 : Int)) + (2 : Int)) ∧ IntKind.i64.wrap (IntKind.i64.wrap (i * (2 : Int)) + (2 : Int)) ≤ (↑(ByteArray.mk (([(48 : UInt8), (48 : UInt8), (48 : UInt8), (49 : UInt8), (48 : UInt8), (50 : UInt8), (48 : UInt8), (51 : UInt8), (48 : UInt8), (52 : UInt8), (48 : UInt8), (53 : UInt8), (48 : UInt8), (54 : UInt8), (48 : UInt8), (55 : UInt8), (48 : UInt8), (56 : UInt8), (48 : UInt8), (57 : UInt8), (49 : UInt8), (48 : UInt8), (49 : UInt8), (49 : UInt8), (49 : UInt8), (50 : UInt8), (49 : UInt8), (51 : UInt8), (49 : UInt8), (52 : UInt8), (49 : UInt8), (53 : UInt8), (49 : UInt8), (54 : UInt8), (49 : UInt8), (55 : UInt8), (49 : UInt8), (56 : UInt8), (49 : UInt8), (57 : UInt8), (50 : UInt8), (48 : UInt8), (50 : UInt8), (49 : UInt8), (50 : UInt8), (50 : UInt8), (50 : UInt8), (51 : UInt8), (50 : UInt8), (52 : UInt8)].append [(50 : UInt8), (53 : UInt8), (50 : UInt8), (54 : UInt8), (50 : UInt8), (55 : UInt8), (50 : UInt8), (56 : UInt8), (50 : UInt8), (57 : UInt8), (51 : UInt8), (48 : UInt8), (51 : UInt8), (49 : UInt8), (51 : UInt8), (50 : UInt8), (51 : UInt8), (51 : UInt8), (51 : UInt8), (52 : UInt8), (51 : UInt8), (53 : UInt8), (51 : UInt8), (54 : UInt8), (51 : UInt8), (55 : UInt8), (51 : UInt8), (56 : UInt8), (51 : UInt8), (57 : UInt8), (52 : UInt8), (48 : UInt8), (52 : UInt8), (49 : UInt8), (52 : UInt8), (50 : UInt8), (52 : UInt8), (51 : UInt8), (52 : UInt8), (52 : UInt8), (52 : UInt8), (53 : UInt8), (52 : UInt8), (54 : UInt8), (52 : UInt8), (55 : UInt8), (52 : UInt8), (56 : UInt8), (52 : UInt8), (57 : UInt8)]).append ([(53 : UInt8), (48 : UInt8), (53 : UInt8), (49 : UInt8), (53 : UInt8), (50 : UInt8), (53 : UInt8), (51 : UInt8), (53 : UInt8), (52 : UInt8), (53 : UInt8), (53 : UInt8), (53 : UInt8), (54 : UInt8), (53 : UInt8), (55 : UInt8), (53 : UInt8), (56 : UInt8), (53 : UInt8), (57 : UInt8), (54 : UInt8), (48 : UInt8), (54 : UInt8), (49 : UInt8), (54 : UInt8), (50 : UInt8), (54 : UInt8), (51 : UInt8), (54 : UInt8), (52 : UInt8), (54 : UInt8), (53 : UInt8), (54 : UInt8), (54 : UInt8), (54 : UInt8), (55 : UInt8), (54 : UInt8), (56 : UInt8), (54 : UInt8), (57 : UInt8), (55 : UInt8), (48 : UInt8), (55 : UInt8), (49 : UInt8), (55 : UInt8), (50 : UInt8), (55 : UInt8), (51 : UInt8), (55 : UInt8), (52 : UInt8)].append [(55 : UInt8), (53 : UInt8), (55 : UInt8), (54 : UInt8), (55 : UInt8), (55 : UInt8), (55 : UInt8), (56 : UInt8), (55 : UInt8), (57 : UInt8), (56 : UInt8), (48 : UInt8), (56 : UInt8), (49 : UInt8), (56 : UInt8), (50 : UInt8), (56 : UInt8), (51 : UInt8), (56 : UInt8), (52 : UInt8), (56 : UInt8), (53 : UInt8), (56 : UInt8), (54 : UInt8), (56 : UInt8), (55 : UInt8), (56 : UInt8), (56 : UInt8), (56 : UInt8), (57 : UInt8), (57 : UInt8), (48 : UInt8), (57 : UInt8), (49 : UInt8), (57 : UInt8), (50 : UInt8), (57 : UInt8), (51 : UInt8), (57 : UInt8), (52 : UInt8), (57 : UInt8), (53 : UInt8), (57 : UInt8), (54 : UInt8), (57 : UInt8), (55 : UInt8), (57 : UInt8), (56 : UInt8), (57 : UInt8), (57 : UInt8)])).toArray).size : Int)) ∧ k [PV.str ((ByteArray.mk (([(48 : UInt8), (48 : UInt8), (48 : UInt8), (49 : UInt8), (48 : UInt8), (50 : UInt8), (48 : UInt8), (51 : UInt8), (48 : UInt8), (52 : UInt8), (48 : UInt8), (53 : UInt8), (48 : UInt8), (54 : UInt8), (48 : UInt8), (55 : UInt8), (48 : UInt8), (56 : UInt8), (48 : UInt8), (57 : UInt8), (49 : UInt8), (48 : UInt8), (49 : UInt8), (49 : UInt8), (49 : UInt8), (50 : UInt8), (49 : UInt8), (51 : UInt8), (49 : UInt8), (52 : UInt8), (49 : UInt8), (53 : UInt8), (49 : UInt8), (54 : UInt8), (49 : UInt8), (55 : UInt8), (49 : UInt8), (56 : UInt8), (49 : UInt8), (57 : UInt8), (50 : UInt8), (48 : UInt8), (50 : UInt8), (49 : UInt8), (50 : UInt8), (50 : UInt8), (50 : UInt8), (51 : UInt8), (50 : UInt8), (52 : UInt8)].append [(50 : UInt8), (53 : UInt8), (50 : UInt8), (54 : UInt8), (50 : UInt8), (55 : UInt8), (50 : UInt8), (56 : UInt8), (50 : UInt8), (57 : UInt8), (51 : UInt8), (48 : UInt8), (51 : UInt8), (49 : UInt8), (51 : UInt8), (50 : UInt8), (51 : UInt8), (51 : UInt8), (51 : UInt8), (52 : UInt8), (51 : UInt8), (53 : UInt8), (51 : UInt8), (54 : UInt8), (51 : UInt8), (55 : UInt8), (51 : UInt8), (56 : UInt8), (51 : UInt8), (57 : UInt8), (52 : UInt8), (48 : UInt8), (52 : UInt8), (49 : UInt8), (52 : UInt8), (50 : UInt8), (52 : UInt8), (51 : UInt8), (52 : UInt8), (52 : UInt8), (52 : UInt8), (53 : UInt8), (52 : UInt8), (54 : UInt8), (52 : UInt8), (55 : UInt8), (52 : UInt8), (56 : UInt8), (52 : UInt8), (57 : UInt8)]).append ([(53 : UInt8), (48 : UInt8), (53 : UInt8), (49 : UInt8), (53 : UInt8), (50 : UInt8), (53 : UInt8), (51 : UInt8), (53 : UInt8), (52 : UInt8), (53 : UInt8), (53 : UInt8), (53 : UInt8), (54 : UInt8), (53 : UInt8), (55 : UInt8), (53 : UInt8), (56 : UInt8), (53 : UInt8), (57 : UInt8), (54 : UInt8), (48 : UInt8), (54 : UInt8), (49 : UInt8), (54 : UInt8), (50 : UInt8), (54 : UInt8), (51 : UInt8), (54 : UInt8), (52 : UInt8), (54 : UInt8), (53 : UInt8), (54 : UInt8), (54 : UInt8), (54 : UInt8), (55 : UInt8), (54 : UInt8), (56 : UInt8), (54 : UInt8), (57 : UInt8), (55 : UInt8), (48 : UInt8), (55 : UInt8), (49 : UInt8), (55 : UInt8), (50 : UInt8), (55 : UInt8), (51 : UInt8), (55 : UInt8), (52 : UInt8)].append [(55 : UInt8), (53 : UInt8), (55 : UInt8), (54 : UInt8), (55 : UInt8), (55 : UInt8), (55 : UInt8), (56 : UInt8), (55 : UInt8), (57 : UInt8), (56 : UInt8), (48 : UInt8), (56 : UInt8), (49 : UInt8), (56 : UInt8), (50 : UInt8), (56 : UInt8), (51 : UInt8), (56 : UInt8), (52 : UInt8), (56 : UInt8), (53 : UInt8), (56 : UInt8), (54 : UInt8), (56 : UInt8), (55 : UInt8), (56 : UInt8), (56 : UInt8), (56 : UInt8), (57 : UInt8), (57 : UInt8), (48 : UInt8), (57 : UInt8), (49 : UInt8), (57 : UInt8), (50 : UInt8), (57 : UInt8), (51 : UInt8), (57 : UInt8), (52 : UInt8), (57 : UInt8), (53 : UInt8), (57 : UInt8), (54 : UInt8), (57 : UInt8), (55 : UInt8), (57 : UInt8), (56 : UInt8), (57 : UInt8), (57 : UInt8)])).toArray).extract (IntKind.i64.wrap (i * (2 : Int))).toNat (IntKind.i64.wrap (IntKind.i64.wrap (i * (2 : Int)) + (2 : Int))).toNat)] []) := by kernel_rfl
theorem ok_smallF : FunS B 134 smallS := by
  refine funS_of (N := 15) (f := ff_smallF) env_SA2 mixed fn_smallF (by kernel_rfl) (by kernel_rfl) (by kernel_rfl) smallS_mono ?_
  intro A k ys hA hF
  obtain ⟨i, rfl, rfl, hk⟩ := smallS_inv hF; clear hF
  refine ⟨by kernel_rfl, (hA.nf (nf_smallF A k 0) ?_)⟩
  rw [show decide ((0 : Int) < 10) = true from rfl, cond_true]
  exact ⟨by decide, hk⟩
noncomputable def SA3 := base (fun g => match g with | 133 => some (lift 0 namesF) | 106 => some (lift 0 namesF) | 62 => some (lift 0 cloneS) | 63 => some (eitherOwn (lift 1 putIS) (lift 0 putS)) | 25 => some (frzAll B (lift 0 stPS)) | _ => none) (fun g => match g with | 83 => some nameS | 103 => some nameS | 48 => some newS | 50 => some atS | 71 => some inS | 89 => some sizeS | 132 => some rSizeS | 58 => some getS | 102 => some getS | 61 => some fitsS | 60 => some r01TS | 23 => some ofS | 57 => some stWS | 22 => some stGS | 24 => some rBS | 26 => some stNS | 134 => some smallS | _ => none) (fun _ => none)
theorem env_SA3 : EnvOk SA3 := env_of (by
    intro g F h
    split at h
    · cases h; exact ok_Name
    · cases h; exact ok_rName
    · cases h; exact ok_New
    · cases h; exact ok_At
    · cases h; exact ok_In
    · cases h; exact ok_size
    · cases h; exact ok_rSize
    · cases h; exact ok_Get
    · cases h; exact ok_rGet
    · cases h; exact ok_fits
    · cases h; exact ok_r01T
    · cases h; exact of_ok
    · cases h; exact ok_stWrong
    · cases h; exact ok_stGet
    · cases h; exact ok_rBytes
    · cases h; exact ok_stPend
    · cases h; exact ok_smallF
    · cases h) (by
    intro g F h
    split at h
    · cases h; exact (lift_ok ok_rnames)
    · cases h; exact (lift_ok ok_names)
    · cases h; exact (lift_ok ok_clone)
    · cases h; exact (eitherOwn_ok (lift_ok ok_putI) (lift_ok ok_put))
    · cases h; exact (frzAll_ok (lift_ok ok_stPut))
    · cases h) (fun g F h => (by cases h))
def fmtS : SpecS := fun ys Φ => match ys with
  | [.int .u64 v, .int .i64 10] => (v = 0) ∧ Φ [.str ⟨#[48]⟩]
  | _ => False
theorem fmtS_mono : MonoS fmtS := by
  intro ys Φ Ψ h hF
  unfold fmtS at hF ⊢
  split at hF
  · obtain ⟨hp, hk⟩ := hF; exact ⟨hp, h _ hk⟩
  · exact hF.elim
theorem fmtS_inv {ys : List PV} {Φ : List PV → Prop} (h : fmtS ys Φ) : ∃ (v : Int), ys = [.int .u64 v, .int .i64 10] ∧ (v = 0) ∧ Φ [.str ⟨#[48]⟩] := by
  unfold fmtS at h
  split at h
  · exact ⟨_, rfl, h⟩
  · exact h.elim
theorem fn_fmt1 : FnOk Tryd.prog 112 Tryd.f112 (bodyOf Tryd.f112) := ⟨by kernel_rfl, by kernel_rfl, by kernel_rfl⟩
noncomputable def ff_fmt1 : Fun := ⟨Tryd.f112.ntmps, 0, Tryd.f112.results.toList, fun _ => none, fun _ => false, fun _ => []⟩
theorem nf_fmt1 (A : KA Kd) (k : List PV → Heap Kd → Prop) (v : Int) : evT SA3 ff_fmt1 A k 400 false [.code (bodyOf Tryd.f112)] (startEnv 32 [.int .u64 v, .int .i64 10]) [] = (bif decide (v < (100 : Int)) then IntKind.i64.wrap v = (0 : Int) ∧ k [PV.str (ByteArray.mk #[(48 : UInt8)])] []
else False) := by kernel_rfl
theorem ok_fmt1 : FunS B 112 fmtS := by
  refine funS_of (N := 32) (f := ff_fmt1) env_SA3 mixed fn_fmt1 (by kernel_rfl) (by kernel_rfl) (by kernel_rfl) fmtS_mono ?_
  intro A k ys hA hF
  obtain ⟨v, rfl, rfl, hk⟩ := fmtS_inv hF; clear hF
  refine ⟨by kernel_rfl, (hA.nf (nf_fmt1 A k 0) ?_)⟩
  exact ⟨by decide, hk⟩
noncomputable def SA4 := base (fun g => match g with | 133 => some (lift 0 namesF) | 106 => some (lift 0 namesF) | 62 => some (lift 0 cloneS) | 63 => some (eitherOwn (lift 1 putIS) (lift 0 putS)) | 25 => some (frzAll B (lift 0 stPS)) | _ => none) (fun g => match g with | 83 => some nameS | 103 => some nameS | 48 => some newS | 50 => some atS | 71 => some inS | 89 => some sizeS | 132 => some rSizeS | 58 => some getS | 102 => some getS | 61 => some fitsS | 60 => some r01TS | 23 => some ofS | 57 => some stWS | 22 => some stGS | 24 => some rBS | 26 => some stNS | 134 => some smallS | 112 => some fmtS | _ => none) (fun _ => none)
theorem env_SA4 : EnvOk SA4 := env_of (by
    intro g F h
    split at h
    · cases h; exact ok_Name
    · cases h; exact ok_rName
    · cases h; exact ok_New
    · cases h; exact ok_At
    · cases h; exact ok_In
    · cases h; exact ok_size
    · cases h; exact ok_rSize
    · cases h; exact ok_Get
    · cases h; exact ok_rGet
    · cases h; exact ok_fits
    · cases h; exact ok_r01T
    · cases h; exact of_ok
    · cases h; exact ok_stWrong
    · cases h; exact ok_stGet
    · cases h; exact ok_rBytes
    · cases h; exact ok_stPend
    · cases h; exact ok_smallF
    · cases h; exact ok_fmt1
    · cases h) (by
    intro g F h
    split at h
    · cases h; exact (lift_ok ok_rnames)
    · cases h; exact (lift_ok ok_names)
    · cases h; exact (lift_ok ok_clone)
    · cases h; exact (eitherOwn_ok (lift_ok ok_putI) (lift_ok ok_put))
    · cases h; exact (frzAll_ok (lift_ok ok_stPut))
    · cases h) (fun g F h => (by cases h))
theorem fn_fmt2 : FnOk Tryd.prog 88 Tryd.f88 (bodyOf Tryd.f88) := ⟨by kernel_rfl, by kernel_rfl, by kernel_rfl⟩
noncomputable def ff_fmt2 : Fun := ⟨Tryd.f88.ntmps, 0, Tryd.f88.results.toList, fun _ => none, fun _ => false, fun _ => []⟩
theorem nf_fmt2 (A : KA Kd) (k : List PV → Heap Kd → Prop) (v : Int) : evT SA4 ff_fmt2 A k 400 false [.code (bodyOf Tryd.f88)] (startEnv 8 [.int .u64 v, .int .i64 10]) [] = (v = (0 : Int) ∧ k [PV.str (ByteArray.mk #[(48 : UInt8)])] []) := by kernel_rfl
theorem ok_fmt2 : FunS B 88 fmtS := by
  refine funS_of (N := 8) (f := ff_fmt2) env_SA4 mixed fn_fmt2 (by kernel_rfl) (by kernel_rfl) (by kernel_rfl) fmtS_mono ?_
  intro A k ys hA hF
  obtain ⟨v, rfl, rfl, hk⟩ := fmtS_inv hF; clear hF
  exact ⟨by kernel_rfl, (hA.nf (nf_fmt2 A k 0) ⟨rfl, hk⟩)⟩
def itoaS : SpecS := fun ys Φ => match ys with
  | [.int .i64 n] => (n = 0) ∧ Φ [.str ⟨#[48]⟩]
  | _ => False
theorem itoaS_mono : MonoS itoaS := by
  intro ys Φ Ψ h hF
  unfold itoaS at hF ⊢
  split at hF
  · obtain ⟨hp, hk⟩ := hF; exact ⟨hp, h _ hk⟩
  · exact hF.elim
theorem itoaS_inv {ys : List PV} {Φ : List PV → Prop} (h : itoaS ys Φ) : ∃ (n : Int), ys = [.int .i64 n] ∧ (n = 0) ∧ Φ [.str ⟨#[48]⟩] := by
  unfold itoaS at h
  split at h
  · exact ⟨_, rfl, h⟩
  · exact h.elim
theorem fn_itoa : FnOk Tryd.prog 45 Tryd.f45 (bodyOf Tryd.f45) := ⟨by kernel_rfl, by kernel_rfl, by kernel_rfl⟩
noncomputable def ff_itoa : Fun := ⟨Tryd.f45.ntmps, 0, Tryd.f45.results.toList, fun _ => none, fun _ => false, fun _ => []⟩
theorem ok_itoa : FunS B 45 itoaS := by
  refine funS_ofCalls fn_itoa ?_
  intro Z ys Φ hF w vs hZ hg hv
  obtain ⟨n, rfl, rfl, hk⟩ := itoaS_inv hF; clear hF
  obtain ⟨v, r, rfl, hv1, hv2⟩ := hv
  simp only [RepFs] at hv2; subst hv2
  have e : v = .int .i64 ((0 : Nat) : Int) := by
    obtain ⟨h1, h2⟩ := hv1
    cases v <;> simp [RepF, Value.cells] at h1 <;> first | exact (by obtain ⟨rfl, rfl⟩ := h1; rfl) | (cases h2)
  subst e
  refine (Tryd.strconv_Itoa_small 0 (by decide) w).mono ?_
  rintro e w' ⟨rfl, rfl⟩
  have hd : Lib.decDigits 0 = [48] := by rw [Lib.decDigits_one (by decide)]; rfl
  rw [hd]
  exact ⟨_, _, rfl, hk, .inr ⟨rfl, rfl⟩, More.refl _⟩
def joinB (l : List ByteArray) (sep : ByteArray) : ByteArray := ⟨(Lib.join (l.map (·.data.toList)) sep.data.toList).toArray⟩
def joinS : SpecS := fun ys Φ => match ys with
  | [x_0, .str sep] => ∃ (l : List ByteArray), x_0 = .sl _ e_string l ∧ (l ≠ [] ∧ (Lib.join (l.map (·.data.toList)) sep.data.toList).length ≤ 140737488355328 ∧ l.length ≤ 140737488355328) ∧ Φ [.str (joinB l sep)]
  | _ => False
theorem joinS_mono : MonoS joinS := by
  intro ys Φ Ψ h hF
  unfold joinS at hF ⊢
  split at hF
  · obtain ⟨a0, q0, hp, hk⟩ := hF; exact ⟨a0, q0, hp, h _ hk⟩
  · exact hF.elim
theorem joinS_inv {ys : List PV} {Φ : List PV → Prop} (h : joinS ys Φ) : ∃ (l : List ByteArray) (sep : ByteArray), ys = [.sl _ e_string l, .str sep] ∧ (l ≠ [] ∧ (Lib.join (l.map (·.data.toList)) sep.data.toList).length ≤ 140737488355328 ∧ l.length ≤ 140737488355328) ∧ Φ [.str (joinB l sep)] := by
  unfold joinS at h
  split at h
  · obtain ⟨a0, q0, hz⟩ := h
    subst q0
    exact ⟨a0, _, rfl, hz⟩
  · exact h.elim
theorem fn_joinF : FnOk Tryd.prog 87 Tryd.f87 (bodyOf Tryd.f87) := ⟨by kernel_rfl, by kernel_rfl, by kernel_rfl⟩
noncomputable def ff_joinF : Fun := ⟨Tryd.f87.ntmps, 0, Tryd.f87.results.toList, fun i => match i with | 22 => some [1, 8, 63, 64, 65] | 12 => some [0, 1, 5, 39, 40, 41] | _ => none, fun _ => false, fun _ => []⟩
theorem ok_joinF : FunS B 87 joinS := by
  refine funS_ofCalls fn_joinF ?_
  intro Z ys Φ hF w vs hZ hg hv
  obtain ⟨l, sep, rfl, ⟨h1, h2, h3⟩, hk⟩ := joinS_inv hF; clear hF
  obtain ⟨v, r, rfl, ⟨hv1, hv1'⟩, u, r', rfl, ⟨hu1, hu1'⟩, hv2⟩ := hv
  simp only [RepFs] at hv2; subst hv2
  have e : u = .string sep := by
    cases u <;> simp [RepF, Value.cells] at hu1 <;> first | exact (by subst hu1; rfl) | (cases hu1')
  subst e
  obtain ⟨b, off, cap, rfl, hc, hb, hcell⟩ := strs_cells h1 hv1 hv1'
  refine (Tryd.strings_Join b off cap l sep w hcell hb h3 hc h2).mono ?_
  rintro e w' ⟨rfl, hbel⟩
  exact ⟨_, _, rfl, hk, .inr ⟨rfl, rfl⟩, More.below hbel (Nat.le_refl _)⟩
noncomputable def SA5 := base (fun g => match g with | 133 => some (lift 0 namesF) | 106 => some (lift 0 namesF) | 62 => some (lift 0 cloneS) | 63 => some (eitherOwn (lift 1 putIS) (lift 0 putS)) | 25 => some (frzAll B (lift 0 stPS)) | _ => none) (fun g => match g with | 83 => some nameS | 103 => some nameS | 48 => some newS | 50 => some atS | 71 => some inS | 89 => some sizeS | 132 => some rSizeS | 58 => some getS | 102 => some getS | 61 => some fitsS | 60 => some r01TS | 23 => some ofS | 57 => some stWS | 22 => some stGS | 24 => some rBS | 26 => some stNS | 134 => some smallS | 112 => some fmtS | 88 => some fmtS | 45 => some itoaS | 87 => some joinS | _ => none) (fun _ => none)
theorem env_SA5 : EnvOk SA5 := env_of (by
    intro g F h
    split at h
    · cases h; exact ok_Name
    · cases h; exact ok_rName
    · cases h; exact ok_New
    · cases h; exact ok_At
    · cases h; exact ok_In
    · cases h; exact ok_size
    · cases h; exact ok_rSize
    · cases h; exact ok_Get
    · cases h; exact ok_rGet
    · cases h; exact ok_fits
    · cases h; exact ok_r01T
    · cases h; exact of_ok
    · cases h; exact ok_stWrong
    · cases h; exact ok_stGet
    · cases h; exact ok_rBytes
    · cases h; exact ok_stPend
    · cases h; exact ok_smallF
    · cases h; exact ok_fmt1
    · cases h; exact ok_fmt2
    · cases h; exact ok_itoa
    · cases h; exact ok_joinF
    · cases h) (by
    intro g F h
    split at h
    · cases h; exact (lift_ok ok_rnames)
    · cases h; exact (lift_ok ok_names)
    · cases h; exact (lift_ok ok_clone)
    · cases h; exact (eitherOwn_ok (lift_ok ok_putI) (lift_ok ok_put))
    · cases h; exact (frzAll_ok (lift_ok ok_stPut))
    · cases h) (fun g F h => (by cases h))
def stTS : SpecS := fun ys Φ => match ys with
  | [x_0] => ∃ (l : Int), ∃ (c : Int), ∃ (n : Int), x_0 = .agg [.int .u64 l, .int .i64 c, .int .i64 n] ∧ (l = 0 ∧ c = 0 ∧ n = 0) ∧ Φ [.str ⟨#[108, 97, 115, 116, 32, 48, 32, 99, 117, 114, 114, 101, 110, 116, 32, 48, 32, 110, 101, 120, 116, 32, 48]⟩]
  | _ => False
theorem stTS_mono : MonoS stTS := by
  intro ys Φ Ψ h hF
  unfold stTS at hF ⊢
  split at hF
  · obtain ⟨a0, a1, a2, q0, hp, hk⟩ := hF; exact ⟨a0, a1, a2, q0, hp, h _ hk⟩
  · exact hF.elim
theorem stTS_inv {ys : List PV} {Φ : List PV → Prop} (h : stTS ys Φ) : ∃ (l : Int) (c : Int) (n : Int), ys = [.agg [.int .u64 l, .int .i64 c, .int .i64 n]] ∧ (l = 0 ∧ c = 0 ∧ n = 0) ∧ Φ [.str ⟨#[108, 97, 115, 116, 32, 48, 32, 99, 117, 114, 114, 101, 110, 116, 32, 48, 32, 110, 101, 120, 116, 32, 48]⟩] := by
  unfold stTS at h
  split at h
  · obtain ⟨a0, a1, a2, q0, hz⟩ := h
    subst q0
    exact ⟨a0, a1, a2, rfl, hz⟩
  · exact h.elim
theorem fn_stText : FnOk Tryd.prog 56 Tryd.f56 (bodyOf Tryd.f56) := ⟨by kernel_rfl, by kernel_rfl, by kernel_rfl⟩
noncomputable def ff_stText : Fun := ⟨Tryd.f56.ntmps, 0, Tryd.f56.results.toList, fun _ => none, fun _ => false, fun _ => []⟩
theorem nf_stText (A : KA Kd) (k : List PV → Heap Kd → Prop) (l c n : Int) : evT SA5 ff_stText A k 400 false [.code (bodyOf Tryd.f56)] (startEnv 14 [.agg [.int .u64 l, .int .i64 c, .int .i64 n]]) [] = (l = (0 : Int) ∧ c = (0 : Int) ∧ n = (0 : Int) ∧ ∃ (zs : List ByteArray), List.map e_string zs = [PV.str (ByteArray.mk #[(108 : UInt8), (97 : UInt8), (115 : UInt8), (116 : UInt8)]), PV.str (ByteArray.mk #[(48 : UInt8)]), PV.str (ByteArray.mk #[(99 : UInt8), (117 : UInt8), (114 : UInt8), (114 : UInt8), (101 : UInt8), (110 : UInt8), (116 : UInt8)]), PV.str (ByteArray.mk #[(48 : UInt8)]), PV.str (ByteArray.mk #[(110 : UInt8), (101 : UInt8), (120 : UInt8), (116 : UInt8)]), PV.str (ByteArray.mk #[(48 : UInt8)])] ∧ ∃ (l : List ByteArray), PV.sl ByteArray e_string zs = PV.sl ByteArray e_string l ∧ (l ≠ [] ∧ (Lib.join (List.map (fun (x : ByteArray) => x.data.toList) l) (ByteArray.mk #[(32 : UInt8)]).data.toList).length ≤ (140737488355328 : Nat) ∧ l.length ≤ (140737488355328 : Nat)) ∧ k [PV.str (joinB l (ByteArray.mk #[(32 : UInt8)]))] []) := by kernel_rfl
theorem ok_stText : FunS B 56 stTS := by
  refine funS_of (N := 14) (f := ff_stText) env_SA5 mixed fn_stText (by kernel_rfl) (by kernel_rfl) (by kernel_rfl) stTS_mono ?_
  intro A k ys hA hF
  obtain ⟨l, c, n, rfl, ⟨rfl, rfl, rfl⟩, hk⟩ := stTS_inv hF; clear hF
  refine ⟨by kernel_rfl, (hA.nf (nf_stText A k 0 0 0) ?_)⟩
  refine ⟨rfl, rfl, rfl, [⟨#[108, 97, 115, 116]⟩, ⟨#[48]⟩, ⟨#[99, 117, 114, 114, 101, 110, 116]⟩, ⟨#[48]⟩, ⟨#[110, 101, 120, 116]⟩, ⟨#[48]⟩], rfl, _, rfl, ⟨by simp, by decide, by decide⟩, ?_⟩
  have e : joinB [⟨#[108, 97, 115, 116]⟩, ⟨#[48]⟩, ⟨#[99, 117, 114, 114, 101, 110, 116]⟩, ⟨#[48]⟩, ⟨#[110, 101, 120, 116]⟩, ⟨#[48]⟩] ⟨#[32]⟩ = ⟨#[108, 97, 115, 116, 32, 48, 32, 99, 117, 114, 114, 101, 110, 116, 32, 48, 32, 110, 101, 120, 116, 32, 48]⟩ := by
    apply ByteArray.ext; apply Array.ext'; decide
  rw [e]; exact hk
noncomputable def SA6 := base (fun g => match g with | 133 => some (lift 0 namesF) | 106 => some (lift 0 namesF) | 62 => some (lift 0 cloneS) | 63 => some (eitherOwn (lift 1 putIS) (lift 0 putS)) | 25 => some (frzAll B (lift 0 stPS)) | _ => none) (fun g => match g with | 83 => some nameS | 103 => some nameS | 48 => some newS | 50 => some atS | 71 => some inS | 89 => some sizeS | 132 => some rSizeS | 58 => some getS | 102 => some getS | 61 => some fitsS | 60 => some r01TS | 23 => some ofS | 57 => some stWS | 22 => some stGS | 24 => some rBS | 26 => some stNS | 134 => some smallS | 112 => some fmtS | 88 => some fmtS | 45 => some itoaS | 87 => some joinS | 56 => some stTS | _ => none) (fun _ => none)
theorem env_SA6 : EnvOk SA6 := env_of (by
    intro g F h
    split at h
    · cases h; exact ok_Name
    · cases h; exact ok_rName
    · cases h; exact ok_New
    · cases h; exact ok_At
    · cases h; exact ok_In
    · cases h; exact ok_size
    · cases h; exact ok_rSize
    · cases h; exact ok_Get
    · cases h; exact ok_rGet
    · cases h; exact ok_fits
    · cases h; exact ok_r01T
    · cases h; exact of_ok
    · cases h; exact ok_stWrong
    · cases h; exact ok_stGet
    · cases h; exact ok_rBytes
    · cases h; exact ok_stPend
    · cases h; exact ok_smallF
    · cases h; exact ok_fmt1
    · cases h; exact ok_fmt2
    · cases h; exact ok_itoa
    · cases h; exact ok_joinF
    · cases h; exact ok_stText
    · cases h) (by
    intro g F h
    split at h
    · cases h; exact (lift_ok ok_rnames)
    · cases h; exact (lift_ok ok_names)
    · cases h; exact (lift_ok ok_clone)
    · cases h; exact (eitherOwn_ok (lift_ok ok_putI) (lift_ok ok_put))
    · cases h; exact (frzAll_ok (lift_ok ok_stPut))
    · cases h) (fun g F h => (by cases h))
def trueS23 : SpecS := fun ys Φ => match ys with
  | [] => Φ [.bool true]
  | _ => False
theorem trueS23_mono : MonoS trueS23 := by
  intro ys Φ Ψ h hF
  unfold trueS23 at hF ⊢
  split at hF
  · exact h _ hF
  · exact hF.elim
theorem trueS23_inv {ys : List PV} {Φ : List PV → Prop} (h : trueS23 ys Φ) : ys = [] ∧ Φ [.bool true] := by
  unfold trueS23 at h
  split at h
  · exact ⟨rfl, h⟩
  · exact h.elim
theorem fn_awake23 : FnOk Tryd.prog 21 Tryd.f21 (bodyOf Tryd.f21) := ⟨by kernel_rfl, by kernel_rfl, by kernel_rfl⟩
noncomputable def ff_awake23 : Fun := ⟨Tryd.f21.ntmps, 0, Tryd.f21.results.toList, fun _ => none, fun _ => false, fun _ => []⟩
theorem nf_awake23 (A : KA Kd) (k : List PV → Heap Kd → Prop)  : evT SA6 ff_awake23 A k 400 false [.code (bodyOf Tryd.f21)] (startEnv 6 []) [] = (∃ (l : Int), ∃ (c : Int), ∃ (n : Int), PV.agg [PV.int IntKind.u64 (0 : Int), PV.int IntKind.i64 (0 : Int), PV.int IntKind.i64 (0 : Int)] = PV.agg [PV.int IntKind.u64 l, PV.int IntKind.i64 c, PV.int IntKind.i64 n] ∧ (l = (0 : Int) ∧ c = (0 : Int) ∧ n = (0 : Int)) ∧ k [PV.bool true] []) := by kernel_rfl
theorem ok_awake23 : FunS B 21 trueS23 := by
  refine funS_of (N := 6) (f := ff_awake23) env_SA6 mixed fn_awake23 (by kernel_rfl) (by kernel_rfl) (by kernel_rfl) trueS23_mono ?_
  intro A k ys hA hF
  obtain ⟨rfl, hk⟩ := trueS23_inv hF; clear hF
  refine ⟨by kernel_rfl, (hA.nf (nf_awake23 A k) ?_)⟩
  exact ⟨0, 0, 0, rfl, ⟨rfl, rfl, rfl⟩, hk⟩
end Go.Ab.T
