import Derived.Test.YtgnhjhdmfhfilaaDoorStatus1
import Derived.Test.YtgnhjhdmfhfilaaDoorOp
set_option linter.unusedVariables false
set_option linter.unusedSimpArgs false
namespace Go.Ab.T
open Go Go.Ab Go.Proofs
set_option maxRecDepth 100000
set_option maxHeartbeats 4000000
noncomputable def SA7 := base (fun g => match g with | 133 => some (lift 0 namesF) | 106 => some (lift 0 namesF) | 62 => some (lift 0 cloneS) | 63 => some (eitherOwn (lift 1 putIS) (lift 0 putS)) | 25 => some (frzAll B (lift 0 stPS)) | _ => none) (fun g => match g with | 83 => some nameS | 103 => some nameS | 48 => some newS | 50 => some atS | 71 => some inS | 89 => some sizeS | 132 => some rSizeS | 58 => some getS | 102 => some getS | 61 => some fitsS | 60 => some r01TS | 23 => some ofS | 57 => some stWS | 22 => some stGS | 24 => some rBS | 26 => some stNS | 134 => some smallS | 112 => some fmtS | 88 => some fmtS | 45 => some itoaS | 87 => some joinS | 56 => some stTS | 21 => some trueS23 | _ => none) (fun _ => none)
theorem env_SA7 : EnvOk SA7 := env_of (by
    intro g F h
    split at h
    · cases h; exact ok_Name
    · cases h; exact ok_rName
    · cases h; exact ok_New
    · cases h; exact ok_At
    · cases h; exact ok_In
    · cases h; exact ok_size
    · cases h; exact ok_rSize
    · cases h; exact ok_Get
    · cases h; exact ok_rGet
    · cases h; exact ok_fits
    · cases h; exact ok_r01T
    · cases h; exact of_ok
    · cases h; exact ok_stWrong
    · cases h; exact ok_stGet
    · cases h; exact ok_rBytes
    · cases h; exact ok_stPend
    · cases h; exact ok_smallF
    · cases h; exact ok_fmt1
    · cases h; exact ok_fmt2
    · cases h; exact ok_itoa
    · cases h; exact ok_joinF
    · cases h; exact ok_stText
    · cases h; exact ok_awake23
    · cases h) (by
    intro g F h
    split at h
    · cases h; exact (lift_ok ok_rnames)
    · cases h; exact (lift_ok ok_names)
    · cases h; exact (lift_ok ok_clone)
    · cases h; exact (eitherOwn_ok (lift_ok ok_putI) (lift_ok ok_put))
    · cases h; exact (frzAll_ok (lift_ok ok_stPut))
    · cases h) (fun g F h => (by cases h))
def lawSG : SpecS := fun ys Φ => match ys with
  | [.str s] => Φ [.bool true]
  | _ => False
theorem lawSG_mono : MonoS lawSG := by
  intro ys Φ Ψ h hF
  unfold lawSG at hF ⊢
  split at hF
  · exact h _ hF
  · exact hF.elim
theorem lawSG_inv {ys : List PV} {Φ : List PV → Prop} (h : lawSG ys Φ) : ∃ (s : ByteArray), ys = [.str s] ∧ Φ [.bool true] := by
  unfold lawSG at h
  split at h
  · exact ⟨_, rfl, h⟩
  · exact h.elim
theorem fn_StatusGets : FnOk Tryd.prog 5 Tryd.f5 (bodyOf Tryd.f5) := ⟨by kernel_rfl, by kernel_rfl, by kernel_rfl⟩
noncomputable def ff_StatusGets : Fun := ⟨Tryd.f5.ntmps, 0, Tryd.f5.results.toList, fun _ => none, fun _ => false, fun _ => []⟩
theorem nf_StatusGets (A : KA Kd) (k : List PV → Heap Kd → Prop) (s : ByteArray) : evT SA7 ff_StatusGets A k 400 false [.code (bodyOf Tryd.f5)] (startEnv 59 [.str s]) [] = (bif decide ((↑s.size : Int) > (100 : Int)) then k [PV.bool true] []
else s.size < (4611686018427387904 : Nat) ∧ bif decide ((↑s.size : Int) < (16 : Int)) then bif gL s == (0 : Int) && (gC s == (0 : Int) && (gN s == (0 : Int) && true)) then bif (ofE (gE s)).fst == (2 : Int) && ((ofE (gE s)).snd.fst == (0 : Int) && ((ofE (gE s)).snd.snd == (↑s.size : Int) && true)) then k [PV.bool true] [] else k [PV.bool false] [] else k [PV.bool false] [] else bif decide ((↑s.size : Int) > (16 : Int)) then bif gL s == (0 : Int) && (gC s == (0 : Int) && (gN s == (0 : Int) && true)) then bif (ofE (gE s)).fst == (4 : Int) && ((ofE (gE s)).snd.fst == (0 : Int) && ((ofE (gE s)).snd.snd == (16 : Int) && true)) then k [PV.bool true] [] else k [PV.bool false] [] else k [PV.bool false] [] else bif (gE s).isNil then ∃ (l : Int), ∃ (c : Int), ∃ (n : Int), PV.agg [PV.int IntKind.u64 (gL s), PV.int IntKind.i64 (gC s), PV.int IntKind.i64 (gN s)] = PV.agg [PV.int IntKind.u64 l, PV.int IntKind.i64 c, PV.int IntKind.i64 n] ∧ (((0 : Int) ≤ l ∧ l < (18446744073709551616 : Int)) ∧ idU c = true ∧ idU n = true) ∧ bif (ByteArray.mk (stB l c n).toArray).toList == s.toList then k [PV.bool true] [] else k [PV.bool false] [] else k [PV.bool false] []) := by kernel_rfl
theorem ok_SG : FunS B 5 lawSG := by
  refine funS_of (N := 59) (f := ff_StatusGets) env_SA7 mixed fn_StatusGets (by kernel_rfl) (by kernel_rfl) (by kernel_rfl) lawSG_mono ?_
  intro A k ys hA hF
  obtain ⟨s, rfl, hk⟩ := lawSG_inv hF; clear hF
  refine ⟨by kernel_rfl, (hA.nf (nf_StatusGets A k s) ?_)⟩
  cases hl : decide ((s.size : Int) > 100) with
  | true => exact hk
  | false =>
  rw [decide_eq_false_iff_not] at hl
  rw [cond_false]
  refine ⟨by omega, ?_⟩
  cases c1 : decide ((s.size : Int) < 16) with
  | true =>
    have hE : gE s = .plc (s.size : Int) (.cls 2) := by unfold gE; rw [c1]; rfl
    unfold gL gC gN
    rw [hE]
    simp only [show ofE (.plc (s.size : Int) (.cls 2)) = (2, 0, (s.size : Int)) from rfl, show (Err.plc (s.size : Int) (.cls 2)).isNil = false from rfl, beq_self_eq_true, Bool.and_self, cond_true, cond_false]
    exact hk
  | false =>
  cases c2 : decide ((s.size : Int) > 16) with
  | true =>
    have hE : gE s = .plc 16 (.cls 4) := by unfold gE; rw [c1, c2]; rfl
    unfold gL gC gN
    rw [hE]
    simp only [show ofE (.plc 16 (.cls 4)) = (4, 0, 16) from rfl, show (Err.plc 16 (.cls 4)).isNil = false from rfl, beq_self_eq_true, Bool.and_self, cond_true, cond_false]
    exact hk
  | false =>
    rw [decide_eq_false_iff_not] at c1 c2
    have hz : s.size = 16 := by omega
    have hE := gE_nil hz
    have g1 : gL s = getV s 0 8 := by unfold gL; rw [hE]; rfl
    have g2 : gC s = getV s 8 4 := by unfold gC; rw [hE]; rfl
    have g3 : gN s = getV s 12 4 := by unfold gN; rw [hE]; rfl
    have p4 : 256 ^ 4 = 4294967296 := by decide
    have p8 : 256 ^ 8 = 18446744073709551616 := by decide
    obtain ⟨a1, a2⟩ := getV_lt s 8 4
    obtain ⟨b1, b2⟩ := getV_lt s 12 4
    obtain ⟨l1, l2⟩ := getV_lt s 0 8
    rw [p4] at a2 b2
    rw [p8] at l2
    have a2 : getV s 8 4 < 4294967296 := a2
    have b2 : getV s 12 4 < 4294967296 := b2
    have l2 : getV s 0 8 < 18446744073709551616 := l2
    have a1 : 0 ≤ getV s 8 4 := a1
    have b1 : 0 ≤ getV s 12 4 := b1
    have l1 : 0 ≤ getV s 0 8 := l1
    rw [cond_false, cond_false, hE, g1, g2, g3]
    refine ⟨_, _, _, rfl, ⟨⟨l1, l2⟩, idU_iff.2 (by omega), idU_iff.2 (by omega)⟩, ?_⟩
    rw [st_text hz, beq_self_eq_true]; exact hk
theorem pre_StatusGets (s : ByteArray) (_ : g_o9 s) : lawSG [a_o9 s] fun rs => rs = [.bool true] := rfl
def lawSP : SpecS := fun ys Φ => match ys with
  | [x_0, x_1] => ∃ (b : List UInt8), ∃ (l : Int), ∃ (c : Int), ∃ (n : Int), x_0 = .sl _ e_uint8 b ∧ x_1 = .agg [.int .u64 l, .int .i64 c, .int .i64 n] ∧ ((0 ≤ l ∧ l < 18446744073709551616) ∧ c < 9223372036854775808 ∧ n < 9223372036854775808) ∧ Φ [.bool true]
  | _ => False
theorem lawSP_mono : MonoS lawSP := by
  intro ys Φ Ψ h hF
  unfold lawSP at hF ⊢
  split at hF
  · obtain ⟨a0, a1, a2, a3, q0, q1, hp, hk⟩ := hF; exact ⟨a0, a1, a2, a3, q0, q1, hp, h _ hk⟩
  · exact hF.elim
theorem lawSP_inv {ys : List PV} {Φ : List PV → Prop} (h : lawSP ys Φ) : ∃ (b : List UInt8) (l : Int) (c : Int) (n : Int), ys = [.sl _ e_uint8 b, .agg [.int .u64 l, .int .i64 c, .int .i64 n]] ∧ ((0 ≤ l ∧ l < 18446744073709551616) ∧ c < 9223372036854775808 ∧ n < 9223372036854775808) ∧ Φ [.bool true] := by
  unfold lawSP at h
  split at h
  · obtain ⟨a0, a1, a2, a3, q0, q1, hz⟩ := h
    subst q0
    subst q1
    exact ⟨a0, a1, a2, a3, rfl, hz⟩
  · exact h.elim
theorem fn_StatusPuts : FnOk Tryd.prog 6 Tryd.f6 (bodyOf Tryd.f6) := ⟨by kernel_rfl, by kernel_rfl, by kernel_rfl⟩
noncomputable def ff_StatusPuts : Fun := ⟨Tryd.f6.ntmps, 0, Tryd.f6.results.toList, fun _ => none, fun _ => false, fun _ => []⟩
theorem nf_StatusPuts (A : KA Kd) (k : List PV → Heap Kd → Prop) (b : List UInt8) (l c n : Int) : evT SA7 ff_StatusPuts A k 400 false [.code (bodyOf Tryd.f6)] (startEnv 102 [.sl _ e_uint8 b, .agg [.int .u64 l, .int .i64 c, .int .i64 n]]) [] = (bif decide ((↑b.length : Int) > (50 : Int)) then k [PV.bool true] []
else (∀ (y : UInt8), y ∈ b → isU8 (e_uint8 y) = true) ∧ ∃ (b_1 : List UInt8), ∃ (l_1 : Int), ∃ (c_1 : Int), ∃ (n_1 : Int), PV.sl UInt8 e_uint8 b = PV.sl UInt8 e_uint8 b_1 ∧ PV.agg [PV.int IntKind.u64 l, PV.int IntKind.i64 c, PV.int IntKind.i64 n] = PV.agg [PV.int IntKind.u64 l_1, PV.int IntKind.i64 c_1, PV.int IntKind.i64 n_1] ∧ (((0 : Int) ≤ l_1 ∧ l_1 < (18446744073709551616 : Int)) ∧ (c_1 < (9223372036854775808 : Int) ∧ n_1 < (9223372036854775808 : Int)) ∧ b_1.length < (1000000 : Nat)) ∧ bif decide (c < (0 : Int)) then bif !((ofE (stE c_1 n_1)).fst == (18 : Int) && ((ofE (stE c_1 n_1)).snd.fst == (0 : Int) && ((ofE (stE c_1 n_1)).snd.snd == (0 : Int) && true))) then k [PV.bool false] [] else (∀ (y : UInt8), y ∈ b → isU8 (e_uint8 y) = true) ∧ bif !(strPV (List.map e_uint8 b)).toList == (strPV (List.map e_uint8 b)).toList then k [PV.bool false] [] else bif !(stE c_1 n_1).isNil then (∀ (y : UInt8), y ∈ outT b_1 l_1 c_1 n_1 → isU8 (e_uint8 y) = true) ∧ bif (strPV (List.map e_uint8 (outT b_1 l_1 c_1 n_1))).toList == (strPV (List.map e_uint8 b)).toList then k [PV.bool true] [] else k [PV.bool false] [] else ((∀ (y : UInt8), y ∈ outT b_1 l_1 c_1 n_1 → isU8 (e_uint8 y) = true) ∧ ∃ (l_2 : Int), ∃ (c_2 : Int), ∃ (n_2 : Int), PV.agg [PV.int IntKind.u64 l, PV.int IntKind.i64 c, PV.int IntKind.i64 n] = PV.agg [PV.int IntKind.u64 l_2, PV.int IntKind.i64 c_2, PV.int IntKind.i64 n_2] ∧ (((0 : Int) ≤ l_2 ∧ l_2 < (18446744073709551616 : Int)) ∧ idU c_2 = true ∧ idU n_2 = true) ∧ (strPV (List.map e_uint8 b)).size + (ByteArray.mk (stB l_2 c_2 n_2).toArray).size ≤ (9223372036854775807 : Nat) ∧ bif !(strPV (List.map e_uint8 (outT b_1 l_1 c_1 n_1))).toList == (strPV (List.map e_uint8 b) ++ ByteArray.mk (stB l_2 c_2 n_2).toArray).toList then k [PV.bool false] [] else bif decide ((↑(outT b_1 l_1 c_1 n_1).length : Int) < (↑b.length : Int)) then k [PV.bool false] [] else (∀ (y : UInt8), y ∈ outT b_1 l_1 c_1 n_1 → (e_uint8 y).cells.length = (TInfo.mk (TD.int IntKind.u8) (1 : Nat) (1 : Nat) [PV.int IntKind.u8 (0 : Int)] false []).size) ∧ ((0 : Int) ≤ (↑b.length : Int) ∧ (↑b.length : Int) ≤ (↑(outT b_1 l_1 c_1 n_1).length : Int) ∧ (↑(outT b_1 l_1 c_1 n_1).length : Int) ≤ (↑(outT b_1 l_1 c_1 n_1).length : Int)) ∧ (∀ (y : UInt8), y ∈ List.drop (↑b.length : Int).toNat (List.take (↑(outT b_1 l_1 c_1 n_1).length : Int).toNat (outT b_1 l_1 c_1 n_1)) → isU8 (e_uint8 y) = true) ∧ (strPV (List.map e_uint8 (List.drop (↑b.length : Int).toNat (List.take (↑(outT b_1 l_1 c_1 n_1).length : Int).toNat (outT b_1 l_1 c_1 n_1))))).size < (4611686018427387904 : Nat) ∧ bif (gE (strPV (List.map e_uint8 (List.drop (↑b.length : Int).toNat (List.take (↑(outT b_1 l_1 c_1 n_1).length : Int).toNat (outT b_1 l_1 c_1 n_1)))))).isNil then bif gL (strPV (List.map e_uint8 (List.drop (↑b.length : Int).toNat (List.take (↑(outT b_1 l_1 c_1 n_1).length : Int).toNat (outT b_1 l_1 c_1 n_1))))) == l && (gC (strPV (List.map e_uint8 (List.drop (↑b.length : Int).toNat (List.take (↑(outT b_1 l_1 c_1 n_1).length : Int).toNat (outT b_1 l_1 c_1 n_1))))) == c && (gN (strPV (List.map e_uint8 (List.drop (↑b.length : Int).toNat (List.take (↑(outT b_1 l_1 c_1 n_1).length : Int).toNat (outT b_1 l_1 c_1 n_1))))) == n && true)) then ∃ (l_3 : Int), ∃ (c_3 : Int), ∃ (n_3 : Int), PV.agg [PV.int IntKind.u64 l, PV.int IntKind.i64 c, PV.int IntKind.i64 n] = PV.agg [PV.int IntKind.u64 l_3, PV.int IntKind.i64 c_3, PV.int IntKind.i64 n_3] ∧ bif (n_3 != c_3) == (n != c) then k [PV.bool true] [] else k [PV.bool false] [] else k [PV.bool false] [] else k [PV.bool false] []) ∧ ∃ (l_2 : Int), ∃ (c_2 : Int), ∃ (n_2 : Int), PV.agg [PV.int IntKind.u64 l, PV.int IntKind.i64 c, PV.int IntKind.i64 n] = PV.agg [PV.int IntKind.u64 l_2, PV.int IntKind.i64 c_2, PV.int IntKind.i64 n_2] ∧ (((0 : Int) ≤ l_2 ∧ l_2 < (18446744073709551616 : Int)) ∧ idU c_2 = true ∧ idU n_2 = true) ∧ (strPV (List.map e_uint8 b)).size + (ByteArray.mk (stB l_2 c_2 n_2).toArray).size ≤ (9223372036854775807 : Nat) ∧ (∀ (y : UInt8), y ∈ outT b_1 l_1 c_1 n_1 → isU8 (e_uint8 y) = true) ∧ bif !(strPV (List.map e_uint8 (outT b_1 l_1 c_1 n_1))).toList == (strPV (List.map e_uint8 b) ++ ByteArray.mk (stB l_2 c_2 n_2).toArray).toList then k [PV.bool false] [] else bif decide ((↑(outT b_1 l_1 c_1 n_1).length : Int) < (↑b.length : Int)) then k [PV.bool false] [] else (∀ (y : UInt8), y ∈ outT b_1 l_1 c_1 n_1 → (e_uint8 y).cells.length = (TInfo.mk (TD.int IntKind.u8) (1 : Nat) (1 : Nat) [PV.int IntKind.u8 (0 : Int)] false []).size) ∧ ((0 : Int) ≤ (↑b.length : Int) ∧ (↑b.length : Int) ≤ (↑(outT b_1 l_1 c_1 n_1).length : Int) ∧ (↑(outT b_1 l_1 c_1 n_1).length : Int) ≤ (↑(outT b_1 l_1 c_1 n_1).length : Int)) ∧ (∀ (y : UInt8), y ∈ List.drop (↑b.length : Int).toNat (List.take (↑(outT b_1 l_1 c_1 n_1).length : Int).toNat (outT b_1 l_1 c_1 n_1)) → isU8 (e_uint8 y) = true) ∧ (strPV (List.map e_uint8 (List.drop (↑b.length : Int).toNat (List.take (↑(outT b_1 l_1 c_1 n_1).length : Int).toNat (outT b_1 l_1 c_1 n_1))))).size < (4611686018427387904 : Nat) ∧ bif (gE (strPV (List.map e_uint8 (List.drop (↑b.length : Int).toNat (List.take (↑(outT b_1 l_1 c_1 n_1).length : Int).toNat (outT b_1 l_1 c_1 n_1)))))).isNil then bif gL (strPV (List.map e_uint8 (List.drop (↑b.length : Int).toNat (List.take (↑(outT b_1 l_1 c_1 n_1).length : Int).toNat (outT b_1 l_1 c_1 n_1))))) == l && (gC (strPV (List.map e_uint8 (List.drop (↑b.length : Int).toNat (List.take (↑(outT b_1 l_1 c_1 n_1).length : Int).toNat (outT b_1 l_1 c_1 n_1))))) == c && (gN (strPV (List.map e_uint8 (List.drop (↑b.length : Int).toNat (List.take (↑(outT b_1 l_1 c_1 n_1).length : Int).toNat (outT b_1 l_1 c_1 n_1))))) == n && true)) then ∃ (l_3 : Int), ∃ (c_3 : Int), ∃ (n_3 : Int), PV.agg [PV.int IntKind.u64 l, PV.int IntKind.i64 c, PV.int IntKind.i64 n] = PV.agg [PV.int IntKind.u64 l_3, PV.int IntKind.i64 c_3, PV.int IntKind.i64 n_3] ∧ bif (n_3 != c_3) == (n != c) then k [PV.bool true] [] else k [PV.bool false] [] else k [PV.bool false] [] else k [PV.bool false] [] else bif decide (c > (4294967295 : Int)) then bif !((ofE (stE c_1 n_1)).fst == (18 : Int) && ((ofE (stE c_1 n_1)).snd.fst == (0 : Int) && ((ofE (stE c_1 n_1)).snd.snd == (0 : Int) && true))) then k [PV.bool false] [] else (∀ (y : UInt8), y ∈ b → isU8 (e_uint8 y) = true) ∧ bif !(strPV (List.map e_uint8 b)).toList == (strPV (List.map e_uint8 b)).toList then k [PV.bool false] [] else bif !(stE c_1 n_1).isNil then (∀ (y : UInt8), y ∈ outT b_1 l_1 c_1 n_1 → isU8 (e_uint8 y) = true) ∧ bif (strPV (List.map e_uint8 (outT b_1 l_1 c_1 n_1))).toList == (strPV (List.map e_uint8 b)).toList then k [PV.bool true] [] else k [PV.bool false] [] else ((∀ (y : UInt8), y ∈ outT b_1 l_1 c_1 n_1 → isU8 (e_uint8 y) = true) ∧ ∃ (l_2 : Int), ∃ (c_2 : Int), ∃ (n_2 : Int), PV.agg [PV.int IntKind.u64 l, PV.int IntKind.i64 c, PV.int IntKind.i64 n] = PV.agg [PV.int IntKind.u64 l_2, PV.int IntKind.i64 c_2, PV.int IntKind.i64 n_2] ∧ (((0 : Int) ≤ l_2 ∧ l_2 < (18446744073709551616 : Int)) ∧ idU c_2 = true ∧ idU n_2 = true) ∧ (strPV (List.map e_uint8 b)).size + (ByteArray.mk (stB l_2 c_2 n_2).toArray).size ≤ (9223372036854775807 : Nat) ∧ bif !(strPV (List.map e_uint8 (outT b_1 l_1 c_1 n_1))).toList == (strPV (List.map e_uint8 b) ++ ByteArray.mk (stB l_2 c_2 n_2).toArray).toList then k [PV.bool false] [] else bif decide ((↑(outT b_1 l_1 c_1 n_1).length : Int) < (↑b.length : Int)) then k [PV.bool false] [] else (∀ (y : UInt8), y ∈ outT b_1 l_1 c_1 n_1 → (e_uint8 y).cells.length = (TInfo.mk (TD.int IntKind.u8) (1 : Nat) (1 : Nat) [PV.int IntKind.u8 (0 : Int)] false []).size) ∧ ((0 : Int) ≤ (↑b.length : Int) ∧ (↑b.length : Int) ≤ (↑(outT b_1 l_1 c_1 n_1).length : Int) ∧ (↑(outT b_1 l_1 c_1 n_1).length : Int) ≤ (↑(outT b_1 l_1 c_1 n_1).length : Int)) ∧ (∀ (y : UInt8), y ∈ List.drop (↑b.length : Int).toNat (List.take (↑(outT b_1 l_1 c_1 n_1).length : Int).toNat (outT b_1 l_1 c_1 n_1)) → isU8 (e_uint8 y) = true) ∧ (strPV (List.map e_uint8 (List.drop (↑b.length : Int).toNat (List.take (↑(outT b_1 l_1 c_1 n_1).length : Int).toNat (outT b_1 l_1 c_1 n_1))))).size < (4611686018427387904 : Nat) ∧ bif (gE (strPV (List.map e_uint8 (List.drop (↑b.length : Int).toNat (List.take (↑(outT b_1 l_1 c_1 n_1).length : Int).toNat (outT b_1 l_1 c_1 n_1)))))).isNil then bif gL (strPV (List.map e_uint8 (List.drop (↑b.length : Int).toNat (List.take (↑(outT b_1 l_1 c_1 n_1).length : Int).toNat (outT b_1 l_1 c_1 n_1))))) == l && (gC (strPV (List.map e_uint8 (List.drop (↑b.length : Int).toNat (List.take (↑(outT b_1 l_1 c_1 n_1).length : Int).toNat (outT b_1 l_1 c_1 n_1))))) == c && (gN (strPV (List.map e_uint8 (List.drop (↑b.length : Int).toNat (List.take (↑(outT b_1 l_1 c_1 n_1).length : Int).toNat (outT b_1 l_1 c_1 n_1))))) == n && true)) then ∃ (l_3 : Int), ∃ (c_3 : Int), ∃ (n_3 : Int), PV.agg [PV.int IntKind.u64 l, PV.int IntKind.i64 c, PV.int IntKind.i64 n] = PV.agg [PV.int IntKind.u64 l_3, PV.int IntKind.i64 c_3, PV.int IntKind.i64 n_3] ∧ bif (n_3 != c_3) == (n != c) then k [PV.bool true] [] else k [PV.bool false] [] else k [PV.bool false] [] else k [PV.bool false] []) ∧ ∃ (l_2 : Int), ∃ (c_2 : Int), ∃ (n_2 : Int), PV.agg [PV.int IntKind.u64 l, PV.int IntKind.i64 c, PV.int IntKind.i64 n] = PV.agg [PV.int IntKind.u64 l_2, PV.int IntKind.i64 c_2, PV.int IntKind.i64 n_2] ∧ (((0 : Int) ≤ l_2 ∧ l_2 < (18446744073709551616 : Int)) ∧ idU c_2 = true ∧ idU n_2 = true) ∧ (strPV (List.map e_uint8 b)).size + (ByteArray.mk (stB l_2 c_2 n_2).toArray).size ≤ (9223372036854775807 : Nat) ∧ (∀ (y : UInt8), y ∈ outT b_1 l_1 c_1 n_1 → isU8 (e_uint8 y) = true) ∧ bif !(strPV (List.map e_uint8 (outT b_1 l_1 c_1 n_1))).toList == (strPV (List.map e_uint8 b) ++ ByteArray.mk (stB l_2 c_2 n_2).toArray).toList then k [PV.bool false] [] else bif decide ((↑(outT b_1 l_1 c_1 n_1).length : Int) < (↑b.length : Int)) then k [PV.bool false] [] else (∀ (y : UInt8), y ∈ outT b_1 l_1 c_1 n_1 → (e_uint8 y).cells.length = (TInfo.mk (TD.int IntKind.u8) (1 : Nat) (1 : Nat) [PV.int IntKind.u8 (0 : Int)] false []).size) ∧ ((0 : Int) ≤ (↑b.length : Int) ∧ (↑b.length : Int) ≤ (↑(outT b_1 l_1 c_1 n_1).length : Int) ∧ (↑(outT b_1 l_1 c_1 n_1).length : Int) ≤ (↑(outT b_1 l_1 c_1 n_1).length : Int)) ∧ (∀ (y : UInt8), y ∈ List.drop (↑b.length : Int).toNat (List.take (↑(outT b_1 l_1 c_1 n_1).length : Int).toNat (outT b_1 l_1 c_1 n_1)) → isU8 (e_uint8 y) = true) ∧ (strPV (List.map e_uint8 (List.drop (↑b.length : Int).toNat (List.take (↑(outT b_1 l_1 c_1 n_1).length : Int).toNat (outT b_1 l_1 c_1 n_1))))).size < (4611686018427387904 : Nat) ∧ bif (gE (strPV (List.map e_uint8 (List.drop (↑b.length : Int).toNat (List.take (↑(outT b_1 l_1 c_1 n_1).length : Int).toNat (outT b_1 l_1 c_1 n_1)))))).isNil then bif gL (strPV (List.map e_uint8 (List.drop (↑b.length : Int).toNat (List.take (↑(outT b_1 l_1 c_1 n_1).length : Int).toNat (outT b_1 l_1 c_1 n_1))))) == l && (gC (strPV (List.map e_uint8 (List.drop (↑b.length : Int).toNat (List.take (↑(outT b_1 l_1 c_1 n_1).length : Int).toNat (outT b_1 l_1 c_1 n_1))))) == c && (gN (strPV (List.map e_uint8 (List.drop (↑b.length : Int).toNat (List.take (↑(outT b_1 l_1 c_1 n_1).length : Int).toNat (outT b_1 l_1 c_1 n_1))))) == n && true)) then ∃ (l_3 : Int), ∃ (c_3 : Int), ∃ (n_3 : Int), PV.agg [PV.int IntKind.u64 l, PV.int IntKind.i64 c, PV.int IntKind.i64 n] = PV.agg [PV.int IntKind.u64 l_3, PV.int IntKind.i64 c_3, PV.int IntKind.i64 n_3] ∧ bif (n_3 != c_3) == (n != c) then k [PV.bool true] [] else k [PV.bool false] [] else k [PV.bool false] [] else k [PV.bool false] [] else bif decide (n < (0 : Int)) then bif !((ofE (stE c_1 n_1)).fst == (18 : Int) && ((ofE (stE c_1 n_1)).snd.fst == (0 : Int) && ((ofE (stE c_1 n_1)).snd.snd == (1 : Int) && true))) then k [PV.bool false] [] else (∀ (y : UInt8), y ∈ b → isU8 (e_uint8 y) = true) ∧ bif !(strPV (List.map e_uint8 b)).toList == (strPV (List.map e_uint8 b)).toList then k [PV.bool false] [] else bif !(stE c_1 n_1).isNil then (∀ (y : UInt8), y ∈ outT b_1 l_1 c_1 n_1 → isU8 (e_uint8 y) = true) ∧ bif (strPV (List.map e_uint8 (outT b_1 l_1 c_1 n_1))).toList == (strPV (List.map e_uint8 b)).toList then k [PV.bool true] [] else k [PV.bool false] [] else ((∀ (y : UInt8), y ∈ outT b_1 l_1 c_1 n_1 → isU8 (e_uint8 y) = true) ∧ ∃ (l_2 : Int), ∃ (c_2 : Int), ∃ (n_2 : Int), PV.agg [PV.int IntKind.u64 l, PV.int IntKind.i64 c, PV.int IntKind.i64 n] = PV.agg [PV.int IntKind.u64 l_2, PV.int IntKind.i64 c_2, PV.int IntKind.i64 n_2] ∧ (((0 : Int) ≤ l_2 ∧ l_2 < (18446744073709551616 : Int)) ∧ idU c_2 = true ∧ idU n_2 = true) ∧ (strPV (List.map e_uint8 b)).size + (ByteArray.mk (stB l_2 c_2 n_2).toArray).size ≤ (9223372036854775807 : Nat) ∧ bif !(strPV (List.map e_uint8 (outT b_1 l_1 c_1 n_1))).toList == (strPV (List.map e_uint8 b) ++ ByteArray.mk (stB l_2 c_2 n_2).toArray).toList then k [PV.bool false] [] else bif decide ((↑(outT b_1 l_1 c_1 n_1).length : Int) < (↑b.length : Int)) then k [PV.bool false] [] else (∀ (y : UInt8), y ∈ outT b_1 l_1 c_1 n_1 → (e_uint8 y).cells.length = (TInfo.mk (TD.int IntKind.u8) (1 : Nat) (1 : Nat) [PV.int IntKind.u8 (0 : Int)] false []).size) ∧ ((0 : Int) ≤ (↑b.length : Int) ∧ (↑b.length : Int) ≤ (↑(outT b_1 l_1 c_1 n_1).length : Int) ∧ (↑(outT b_1 l_1 c_1 n_1).length : Int) ≤ (↑(outT b_1 l_1 c_1 n_1).length : Int)) ∧ (∀ (y : UInt8), y ∈ List.drop (↑b.length : Int).toNat (List.take (↑(outT b_1 l_1 c_1 n_1).length : Int).toNat (outT b_1 l_1 c_1 n_1)) → isU8 (e_uint8 y) = true) ∧ (strPV (List.map e_uint8 (List.drop (↑b.length : Int).toNat (List.take (↑(outT b_1 l_1 c_1 n_1).length : Int).toNat (outT b_1 l_1 c_1 n_1))))).size < (4611686018427387904 : Nat) ∧ bif (gE (strPV (List.map e_uint8 (List.drop (↑b.length : Int).toNat (List.take (↑(outT b_1 l_1 c_1 n_1).length : Int).toNat (outT b_1 l_1 c_1 n_1)))))).isNil then bif gL (strPV (List.map e_uint8 (List.drop (↑b.length : Int).toNat (List.take (↑(outT b_1 l_1 c_1 n_1).length : Int).toNat (outT b_1 l_1 c_1 n_1))))) == l && (gC (strPV (List.map e_uint8 (List.drop (↑b.length : Int).toNat (List.take (↑(outT b_1 l_1 c_1 n_1).length : Int).toNat (outT b_1 l_1 c_1 n_1))))) == c && (gN (strPV (List.map e_uint8 (List.drop (↑b.length : Int).toNat (List.take (↑(outT b_1 l_1 c_1 n_1).length : Int).toNat (outT b_1 l_1 c_1 n_1))))) == n && true)) then ∃ (l_3 : Int), ∃ (c_3 : Int), ∃ (n_3 : Int), PV.agg [PV.int IntKind.u64 l, PV.int IntKind.i64 c, PV.int IntKind.i64 n] = PV.agg [PV.int IntKind.u64 l_3, PV.int IntKind.i64 c_3, PV.int IntKind.i64 n_3] ∧ bif (n_3 != c_3) == (n != c) then k [PV.bool true] [] else k [PV.bool false] [] else k [PV.bool false] [] else k [PV.bool false] []) ∧ ∃ (l_2 : Int), ∃ (c_2 : Int), ∃ (n_2 : Int), PV.agg [PV.int IntKind.u64 l, PV.int IntKind.i64 c, PV.int IntKind.i64 n] = PV.agg [PV.int IntKind.u64 l_2, PV.int IntKind.i64 c_2, PV.int IntKind.i64 n_2] ∧ (((0 : Int) ≤ l_2 ∧ l_2 < (18446744073709551616 : Int)) ∧ idU c_2 = true ∧ idU n_2 = true) ∧ (strPV (List.map e_uint8 b)).size + (ByteArray.mk (stB l_2 c_2 n_2).toArray).size ≤ (9223372036854775807 : Nat) ∧ (∀ (y : UInt8), y ∈ outT b_1 l_1 c_1 n_1 → isU8 (e_uint8 y) = true) ∧ bif !(strPV (List.map e_uint8 (outT b_1 l_1 c_1 n_1))).toList == (strPV (List.map e_uint8 b) ++ ByteArray.mk (stB l_2 c_2 n_2).toArray).toList then k [PV.bool false] [] else bif decide ((↑(outT b_1 l_1 c_1 n_1).length : Int) < (↑b.length : Int)) then k [PV.bool false] [] else (∀ (y : UInt8), y ∈ outT b_1 l_1 c_1 n_1 → (e_uint8 y).cells.length = (TInfo.mk (TD.int IntKind.u8) (1 : Nat) (1 : Nat) [PV.int IntKind.u8 (0 : Int)] false []).size) ∧ ((0 : Int) ≤ (↑b.length : Int) ∧ (↑b.length : Int) ≤ (↑(outT b_1 l_1 c_1 n_1).length : Int) ∧ (↑(outT b_1 l_1 c_1 n_1).length : Int) ≤ (↑(outT b_1 l_1 c_1 n_1).length : Int)) ∧ (∀ (y : UInt8), y ∈ List.drop (↑b.length : Int).toNat (List.take (↑(outT b_1 l_1 c_1 n_1).length : Int).toNat (outT b_1 l_1 c_1 n_1)) → isU8 (e_uint8 y) = true) ∧ (strPV (List.map e_uint8 (List.drop (↑b.length : Int).toNat (List.take (↑(outT b_1 l_1 c_1 n_1).length : Int).toNat (outT b_1 l_1 c_1 n_1))))).size < (4611686018427387904 : Nat) ∧ bif (gE (strPV (List.map e_uint8 (List.drop (↑b.length : Int).toNat (List.take (↑(outT b_1 l_1 c_1 n_1).length : Int).toNat (outT b_1 l_1 c_1 n_1)))))).isNil then bif gL (strPV (List.map e_uint8 (List.drop (↑b.length : Int).toNat (List.take (↑(outT b_1 l_1 c_1 n_1).length : Int).toNat (outT b_1 l_1 c_1 n_1))))) == l && (gC (strPV (List.map e_uint8 (List.drop (↑b.length : Int).toNat (List.take (↑(outT b_1 l_1 c_1 n_1).length : Int).toNat (outT b_1 l_1 c_1 n_1))))) == c && (gN (strPV (List.map e_uint8 (List.drop (↑b.length : Int).toNat (List.take (↑(outT b_1 l_1 c_1 n_1).length : Int).toNat (outT b_1 l_1 c_1 n_1))))) == n && true)) then ∃ (l_3 : Int), ∃ (c_3 : Int), ∃ (n_3 : Int), PV.agg [PV.int IntKind.u64 l, PV.int IntKind.i64 c, PV.int IntKind.i64 n] = PV.agg [PV.int IntKind.u64 l_3, PV.int IntKind.i64 c_3, PV.int IntKind.i64 n_3] ∧ bif (n_3 != c_3) == (n != c) then k [PV.bool true] [] else k [PV.bool false] [] else k [PV.bool false] [] else k [PV.bool false] [] else bif decide (n > (4294967295 : Int)) then bif !((ofE (stE c_1 n_1)).fst == (18 : Int) && ((ofE (stE c_1 n_1)).snd.fst == (0 : Int) && ((ofE (stE c_1 n_1)).snd.snd == (1 : Int) && true))) then k [PV.bool false] [] else (∀ (y : UInt8), y ∈ b → isU8 (e_uint8 y) = true) ∧ bif !(strPV (List.map e_uint8 b)).toList == (strPV (List.map e_uint8 b)).toList then k [PV.bool false] [] else bif !(stE c_1 n_1).isNil then (∀ (y : UInt8), y ∈ outT b_1 l_1 c_1 n_1 → isU8 (e_uint8 y) = true) ∧ bif (strPV (List.map e_uint8 (outT b_1 l_1 c_1 n_1))).toList == (strPV (List.map e_uint8 b)).toList then k [PV.bool true] [] else k [PV.bool false] [] else ((∀ (y : UInt8), y ∈ outT b_1 l_1 c_1 n_1 → isU8 (e_uint8 y) = true) ∧ ∃ (l_2 : Int), ∃ (c_2 : Int), ∃ (n_2 : Int), PV.agg [PV.int IntKind.u64 l, PV.int IntKind.i64 c, PV.int IntKind.i64 n] = PV.agg [PV.int IntKind.u64 l_2, PV.int IntKind.i64 c_2, PV.int IntKind.i64 n_2] ∧ (((0 : Int) ≤ l_2 ∧ l_2 < (18446744073709551616 : Int)) ∧ idU c_2 = true ∧ idU n_2 = true) ∧ (strPV (List.map e_uint8 b)).size + (ByteArray.mk (stB l_2 c_2 n_2).toArray).size ≤ (9223372036854775807 : Nat) ∧ bif !(strPV (List.map e_uint8 (outT b_1 l_1 c_1 n_1))).toList == (strPV (List.map e_uint8 b) ++ ByteArray.mk (stB l_2 c_2 n_2).toArray).toList then k [PV.bool false] [] else bif decide ((↑(outT b_1 l_1 c_1 n_1).length : Int) < (↑b.length : Int)) then k [PV.bool false] [] else (∀ (y : UInt8), y ∈ outT b_1 l_1 c_1 n_1 → (e_uint8 y).cells.length = (TInfo.mk (TD.int IntKind.u8) (1 : Nat) (1 : Nat) [PV.int IntKind.u8 (0 : Int)] false []).size) ∧ ((0 : Int) ≤ (↑b.length : Int) ∧ (↑b.length : Int) ≤ (↑(outT b_1 l_1 c_1 n_1).length : Int) ∧ (↑(outT b_1 l_1 c_1 n_1).length : Int) ≤ (↑(outT b_1 l_1 c_1 n_1).length : Int)) ∧ (∀ (y : UInt8), y ∈ List.drop (↑b.length : Int).toNat (List.take (↑(outT b_1 l_1 c_1 n_1).length : Int).toNat (outT b_1 l_1 c_1 n_1)) → isU8 (e_uint8 y) = true) ∧ (strPV (List.map e_uint8 (List.drop (↑b.length : Int).toNat (List.take (↑(outT b_1 l_1 c_1 n_1).length : Int).toNat (outT b_1 l_1 c_1 n_1))))).size < (4611686018427387904 : Nat) ∧ bif (gE (strPV (List.map e_uint8 (List.drop (↑b.length : Int).toNat (List.take (↑(outT b_1 l_1 c_1 n_1).length : Int).toNat (outT b_1 l_1 c_1 n_1)))))).isNil then bif gL (strPV (List.map e_uint8 (List.drop (↑b.length : Int).toNat (List.take (↑(outT b_1 l_1 c_1 n_1).length : Int).toNat (outT b_1 l_1 c_1 n_1))))) == l && (gC (strPV (List.map e_uint8 (List.drop (↑b.length : Int).toNat (List.take (↑(outT b_1 l_1 c_1 n_1).length : Int).toNat (outT b_1 l_1 c_1 n_1))))) == c && (gN (strPV (List.map e_uint8 (List.drop (↑b.length : Int).toNat (List.take (↑(outT b_1 l_1 c_1 n_1).length : Int).toNat (outT b_1 l_1 c_1 n_1))))) == n && true)) then ∃ (l_3 : Int), ∃ (c_3 : Int), ∃ (n_3 : Int), PV.agg [PV.int IntKind.u64 l, PV.int IntKind.i64 c, PV.int IntKind.i64 n] = PV.agg [PV.int IntKind.u64 l_3, PV.int IntKind.i64 c_3, PV.int IntKind.i64 n_3] ∧ bif (n_3 != c_3) == (n != c) then k [PV.bool true] [] else k [PV.bool false] [] else k [PV.bool false] [] else k [PV.bool false] []) ∧ ∃ (l_2 : Int), ∃ (c_2 : Int), ∃ (n_2 : Int), PV.agg [PV.int IntKind.u64 l, PV.int IntKind.i64 c, PV.int IntKind.i64 n] = PV.agg [PV.int IntKind.u64 l_2, PV.int IntKind.i64 c_2, PV.int IntKind.i64 n_2] ∧ (((0 : Int) ≤ l_2 ∧ l_2 < (18446744073709551616 : Int)) ∧ idU c_2 = true ∧ idU n_2 = true) ∧ (strPV (List.map e_uint8 b)).size + (ByteArray.mk (stB l_2 c_2 n_2).toArray).size ≤ (9223372036854775807 : Nat) ∧ (∀ (y : UInt8), y ∈ outT b_1 l_1 c_1 n_1 → isU8 (e_uint8 y) = true) ∧ bif !(strPV (List.map e_uint8 (outT b_1 l_1 c_1 n_1))).toList == (strPV (List.map e_uint8 b) ++ ByteArray.mk (stB l_2 c_2 n_2).toArray).toList then k [PV.bool false] [] else bif decide ((↑(outT b_1 l_1 c_1 n_1).length : Int) < (↑b.length : Int)) then k [PV.bool false] [] else (∀ (y : UInt8), y ∈ outT b_1 l_1 c_1 n_1 → (e_uint8 y).cells.length = (TInfo.mk (TD.int IntKind.u8) (1 : Nat) (1 : Nat) [PV.int IntKind.u8 (0 : Int)] false []).size) ∧ ((0 : Int) ≤ (↑b.length : Int) ∧ (↑b.length : Int) ≤ (↑(outT b_1 l_1 c_1 n_1).length : Int) ∧ (↑(outT b_1 l_1 c_1 n_1).length : Int) ≤ (↑(outT b_1 l_1 c_1 n_1).length : Int)) ∧ (∀ (y : UInt8), y ∈ List.drop (↑b.length : Int).toNat (List.take (↑(outT b_1 l_1 c_1 n_1).length : Int).toNat (outT b_1 l_1 c_1 n_1)) → isU8 (e_uint8 y) = true) ∧ (strPV (List.map e_uint8 (List.drop (↑b.length : Int).toNat (List.take (↑(outT b_1 l_1 c_1 n_1).length : Int).toNat (outT b_1 l_1 c_1 n_1))))).size < (4611686018427387904 : Nat) ∧ bif (gE (strPV (List.map e_uint8 (List.drop (↑b.length : Int).toNat (List.take (↑(outT b_1 l_1 c_1 n_1).length : Int).toNat (outT b_1 l_1 c_1 n_1)))))).isNil then bif gL (strPV (List.map e_uint8 (List.drop (↑b.length : Int).toNat (List.take (↑(outT b_1 l_1 c_1 n_1).length : Int).toNat (outT b_1 l_1 c_1 n_1))))) == l && (gC (strPV (List.map e_uint8 (List.drop (↑b.length : Int).toNat (List.take (↑(outT b_1 l_1 c_1 n_1).length : Int).toNat (outT b_1 l_1 c_1 n_1))))) == c && (gN (strPV (List.map e_uint8 (List.drop (↑b.length : Int).toNat (List.take (↑(outT b_1 l_1 c_1 n_1).length : Int).toNat (outT b_1 l_1 c_1 n_1))))) == n && true)) then ∃ (l_3 : Int), ∃ (c_3 : Int), ∃ (n_3 : Int), PV.agg [PV.int IntKind.u64 l, PV.int IntKind.i64 c, PV.int IntKind.i64 n] = PV.agg [PV.int IntKind.u64 l_3, PV.int IntKind.i64 c_3, PV.int IntKind.i64 n_3] ∧ bif (n_3 != c_3) == (n != c) then k [PV.bool true] [] else k [PV.bool false] [] else k [PV.bool false] [] else k [PV.bool false] [] else bif !((ofE (stE c_1 n_1)).fst == (0 : Int) && ((ofE (stE c_1 n_1)).snd.fst == (0 : Int) && ((ofE (stE c_1 n_1)).snd.snd == (0 : Int) && true))) then k [PV.bool false] [] else (∀ (y : UInt8), y ∈ b → isU8 (e_uint8 y) = true) ∧ bif !(strPV (List.map e_uint8 b)).toList == (strPV (List.map e_uint8 b)).toList then k [PV.bool false] [] else bif !(stE c_1 n_1).isNil then (∀ (y : UInt8), y ∈ outT b_1 l_1 c_1 n_1 → isU8 (e_uint8 y) = true) ∧ bif (strPV (List.map e_uint8 (outT b_1 l_1 c_1 n_1))).toList == (strPV (List.map e_uint8 b)).toList then k [PV.bool true] [] else k [PV.bool false] [] else ((∀ (y : UInt8), y ∈ outT b_1 l_1 c_1 n_1 → isU8 (e_uint8 y) = true) ∧ ∃ (l_2 : Int), ∃ (c_2 : Int), ∃ (n_2 : Int), PV.agg [PV.int IntKind.u64 l, PV.int IntKind.i64 c, PV.int IntKind.i64 n] = PV.agg [PV.int IntKind.u64 l_2, PV.int IntKind.i64 c_2, PV.int IntKind.i64 n_2] ∧ (((0 : Int) ≤ l_2 ∧ l_2 < (18446744073709551616 : Int)) ∧ idU c_2 = true ∧ idU n_2 = true) ∧ (strPV (List.map e_uint8 b)).size + (ByteArray.mk (stB l_2 c_2 n_2).toArray).size ≤ (9223372036854775807 : Nat) ∧ bif !(strPV (List.map e_uint8 (outT b_1 l_1 c_1 n_1))).toList == (strPV (List.map e_uint8 b) ++ ByteArray.mk (stB l_2 c_2 n_2).toArray).toList then k [PV.bool false] [] else bif decide ((↑(outT b_1 l_1 c_1 n_1).length : Int) < (↑b.length : Int)) then k [PV.bool false] [] else (∀ (y : UInt8), y ∈ outT b_1 l_1 c_1 n_1 → (e_uint8 y).cells.length = (TInfo.mk (TD.int IntKind.u8) (1 : Nat) (1 : Nat) [PV.int IntKind.u8 (0 : Int)] false []).size) ∧ ((0 : Int) ≤ (↑b.length : Int) ∧ (↑b.length : Int) ≤ (↑(outT b_1 l_1 c_1 n_1).length : Int) ∧ (↑(outT b_1 l_1 c_1 n_1).length : Int) ≤ (↑(outT b_1 l_1 c_1 n_1).length : Int)) ∧ (∀ (y : UInt8), y ∈ List.drop (↑b.length : Int).toNat (List.take (↑(outT b_1 l_1 c_1 n_1).length : Int).toNat (outT b_1 l_1 c_1 n_1)) → isU8 (e_uint8 y) = true) ∧ (strPV (List.map e_uint8 (List.drop (↑b.length : Int).toNat (List.take (↑(outT b_1 l_1 c_1 n_1).length : Int).toNat (outT b_1 l_1 c_1 n_1))))).size < (4611686018427387904 : Nat) ∧ bif (gE (strPV (List.map e_uint8 (List.drop (↑b.length : Int).toNat (List.take (↑(outT b_1 l_1 c_1 n_1).length : Int).toNat (outT b_1 l_1 c_1 n_1)))))).isNil then bif gL (strPV (List.map e_uint8 (List.drop (↑b.length : Int).toNat (List.take (↑(outT b_1 l_1 c_1 n_1).length : Int).toNat (outT b_1 l_1 c_1 n_1))))) == l && (gC (strPV (List.map e_uint8 (List.drop (↑b.length : Int).toNat (List.take (↑(outT b_1 l_1 c_1 n_1).length : Int).toNat (outT b_1 l_1 c_1 n_1))))) == c && (gN (strPV (List.map e_uint8 (List.drop (↑b.length : Int).toNat (List.take (↑(outT b_1 l_1 c_1 n_1).length : Int).toNat (outT b_1 l_1 c_1 n_1))))) == n && true)) then ∃ (l_3 : Int), ∃ (c_3 : Int), ∃ (n_3 : Int), PV.agg [PV.int IntKind.u64 l, PV.int IntKind.i64 c, PV.int IntKind.i64 n] = PV.agg [PV.int IntKind.u64 l_3, PV.int IntKind.i64 c_3, PV.int IntKind.i64 n_3] ∧ bif (n_3 != c_3) == (n != c) then k [PV.bool true] [] else k [PV.bool false] [] else k [PV.bool false] [] else k [PV.bool false] []) ∧ ∃ (l_2 : Int), ∃ (c_2 : Int), ∃ (n_2 : Int), PV.agg [PV.int IntKind.u64 l, PV.int IntKind.i64 c, PV.int IntKind.i64 n] = PV.agg [PV.int IntKind.u64 l_2, PV.int IntKind.i64 c_2, PV.int IntKind.i64 n_2] ∧ (((0 : Int) ≤ l_2 ∧ l_2 < (18446744073709551616 : Int)) ∧ idU c_2 = true ∧ idU n_2 = true) ∧ (strPV (List.map e_uint8 b)).size + (ByteArray.mk (stB l_2 c_2 n_2).toArray).size ≤ (9223372036854775807 : Nat) ∧ (∀ (y : UInt8), y ∈ outT b_1 l_1 c_1 n_1 → isU8 (e_uint8 y) = true) ∧ bif !(strPV (List.map e_uint8 (outT b_1 l_1 c_1 n_1))).toList == (strPV (List.map e_uint8 b) ++ ByteArray.mk (stB l_2 c_2 n_2).toArray).toList then k [PV.bool false] [] else bif decide ((↑(outT b_1 l_1 c_1 n_1).length : Int) < (↑b.length : Int)) then k [PV.bool false] [] else (∀ (y : UInt8), y ∈ outT b_1 l_1 c_1 n_1 → (e_uint8 y).cells.length = (TInfo.mk (TD.int IntKind.u8) (1 : Nat) (1 : Nat) [PV.int IntKind.u8 (0 : Int)] false []).size) ∧ ((0 : Int) ≤ (↑b.length : Int) ∧ (↑b.length : Int) ≤ (↑(outT b_1 l_1 c_1 n_1).length : Int) ∧ (↑(outT b_1 l_1 c_1 n_1).length : Int) ≤ (↑(outT b_1 l_1 c_1 n_1).length : Int)) ∧ (∀ (y : UInt8), y ∈ List.drop (↑b.length : Int).toNat (List.take (↑(outT b_1 l_1 c_1 n_1).length : Int).toNat (outT b_1 l_1 c_1 n_1)) → isU8 (e_uint8 y) = true) ∧ (strPV (List.map e_uint8 (List.drop (↑b.length : Int).toNat (List.take (↑(outT b_1 l_1 c_1 n_1).length : Int).toNat (outT b_1 l_1 c_1 n_1))))).size < (4611686018427387904 : Nat) ∧ bif (gE (strPV (List.map e_uint8 (List.drop (↑b.length : Int).toNat (List.take (↑(outT b_1 l_1 c_1 n_1).length : Int).toNat (outT b_1 l_1 c_1 n_1)))))).isNil then bif gL (strPV (List.map e_uint8 (List.drop (↑b.length : Int).toNat (List.take (↑(outT b_1 l_1 c_1 n_1).length : Int).toNat (outT b_1 l_1 c_1 n_1))))) == l && (gC (strPV (List.map e_uint8 (List.drop (↑b.length : Int).toNat (List.take (↑(outT b_1 l_1 c_1 n_1).length : Int).toNat (outT b_1 l_1 c_1 n_1))))) == c && (gN (strPV (List.map e_uint8 (List.drop (↑b.length : Int).toNat (List.take (↑(outT b_1 l_1 c_1 n_1).length : Int).toNat (outT b_1 l_1 c_1 n_1))))) == n && true)) then ∃ (l_3 : Int), ∃ (c_3 : Int), ∃ (n_3 : Int), PV.agg [PV.int IntKind.u64 l, PV.int IntKind.i64 c, PV.int IntKind.i64 n] = PV.agg [PV.int IntKind.u64 l_3, PV.int IntKind.i64 c_3, PV.int IntKind.i64 n_3] ∧ bif (n_3 != c_3) == (n != c) then k [PV.bool true] [] else k [PV.bool false] [] else k [PV.bool false] [] else k [PV.bool false] []) := by kernel_rfl
theorem ok_SP : FunS B 6 lawSP := by
  refine funS_of (N := 102) (f := ff_StatusPuts) env_SA7 mixed fn_StatusPuts (by kernel_rfl) (by kernel_rfl) (by kernel_rfl) lawSP_mono ?_
  intro A k ys hA hF
  obtain ⟨b, l, c, n, rfl, ⟨hl, hc, hn⟩, hk⟩ := lawSP_inv hF; clear hF
  refine ⟨by kernel_rfl, (hA.nf (nf_StatusPuts A k b l c n) ?_)⟩
  cases hb : decide ((b.length : Int) > 50) with
  | true => exact hk
  | false =>
  rw [decide_eq_false_iff_not] at hb
  rw [cond_false]
  have hu : ∀ (l : List UInt8) (y : UInt8), y ∈ l → isU8 (e_uint8 y) = true := fun _ _ _ => rfl
  refine ⟨hu _, b, l, c, n, rfl, rfl, ⟨hl, ⟨hc, hn⟩, by omega⟩, ?_⟩
  have o0 : ofE (.plc 0 (.cls 18)) = (18, 0, 0) := rfl
  have o1 : ofE (.plc 1 (.cls 18)) = (18, 0, 1) := rfl
  have i0 : (Err.plc 0 (.cls 18)).isNil = false := rfl
  have i1 : (Err.plc 1 (.cls 18)).isNil = false := rfl
  have b0 : idU c = false → stE c n = .plc 0 (.cls 18) := fun h => by unfold stE; rw [h]; rfl
  have b1 : idU c = true → idU n = false → stE c n = .plc 1 (.cls 18) := fun h h2 => by unfold stE; rw [h, h2]; rfl
  have hO : (stE c n).isNil = false → outT b l c n = b := fun h => by unfold outT; rw [h]; rfl
  cases c1 : decide (c < 0) with
  | true =>
    have hE := b0 (by rw [decide_eq_true_eq] at c1; unfold idU; rw [decide_eq_false (by omega)]; rfl)
    have hO := hO (by rw [hE]; rfl)
    simp only [hE, hO, o0, i0, beq_self_eq_true, Bool.and_self, Bool.not_true, Bool.not_false, cond_true, cond_false]
    exact ⟨hu _, hu _, hk⟩
  | false =>
  cases c2 : decide (c > 4294967295) with
  | true =>
    have hE := b0 (by rw [decide_eq_true_eq] at c2; unfold idU; rw [decide_eq_false (p := c ≤ 4294967295) (by omega), Bool.and_false])
    have hO := hO (by rw [hE]; rfl)
    simp only [hE, hO, o0, i0, beq_self_eq_true, Bool.and_self, Bool.not_true, Bool.not_false, cond_true, cond_false]
    exact ⟨hu _, hu _, hk⟩
  | false =>
  have hc' : idU c = true := by rw [decide_eq_false_iff_not] at c1 c2; exact idU_iff.2 (by omega)
  cases c3 : decide (n < 0) with
  | true =>
    have hE := b1 hc' (by rw [decide_eq_true_eq] at c3; unfold idU; rw [decide_eq_false (by omega)]; rfl)
    have hO := hO (by rw [hE]; rfl)
    simp only [hE, hO, o1, i1, beq_self_eq_true, Bool.and_self, Bool.not_true, Bool.not_false, cond_true, cond_false]
    exact ⟨hu _, hu _, hk⟩
  | false =>
  cases c4 : decide (n > 4294967295) with
  | true =>
    have hE := b1 hc' (by rw [decide_eq_true_eq] at c4; unfold idU; rw [decide_eq_false (p := n ≤ 4294967295) (by omega), Bool.and_false])
    have hO := hO (by rw [hE]; rfl)
    simp only [hE, hO, o1, i1, beq_self_eq_true, Bool.and_self, Bool.not_true, Bool.not_false, cond_true, cond_false]
    exact ⟨hu _, hu _, hk⟩
  | false =>
  have hn' : idU n = true := by rw [decide_eq_false_iff_not] at c3 c4; exact idU_iff.2 (by omega)
  have hE : stE c n = .nil := by unfold stE; rw [hc', hn']; rfl
  have hO : outT b l c n = b ++ stB l c n := by unfold outT; rw [hE]; rfl
  have hL := stB_len l c n
  have hd : List.drop b.length (List.take (b ++ stB l c n).length (b ++ stB l c n)) = stB l c n := by
    rw [List.take_length, List.drop_left]
  have hz : (ByteArray.mk (stB l c n).toArray).size = (stB l c n).length := mk_size (stB l c n)
  have hz2 : (ByteArray.mk b.toArray).size = b.length := mk_size b
  have d1 : decide (((b ++ stB l c n).length : Int) < (b.length : Int)) = false := decide_eq_false (by rw [List.length_append]; omega)
  have he : ByteArray.mk (b ++ stB l c n).toArray = ByteArray.mk b.toArray ++ ByteArray.mk (stB l c n).toArray := by
    apply ByteArray.ext; apply Array.ext'; simp
  obtain ⟨B0, B1, B2, B3⟩ := st_back (c := c) (n := n) hl hc' hn'
  have on : ofE Err.nil = (0, 0, 0) := rfl
  have iN : Err.nil.isNil = true := rfl
  simp only [hE, on, iN, hO, d1, Int.toNat_natCast, hd, strPV_e, B0, B1, B2, B3, hz, hz2, he, beq_self_eq_true, Bool.and_self, Bool.not_true, Bool.not_false, cond_true, cond_false]
  have hs3 : (0 : Int) ≤ (b.length : Int) ∧ (b.length : Int) ≤ ((b ++ stB l c n).length : Int) ∧ ((b ++ stB l c n).length : Int) ≤ ((b ++ stB l c n).length : Int) := by
    rw [List.length_append]; refine ⟨by omega, by omega, by omega⟩
  have hend : ∃ (l_3 : Int), ∃ (c_3 : Int), ∃ (n_3 : Int), PV.agg [PV.int .u64 l, PV.int .i64 c, PV.int .i64 n] = PV.agg [PV.int .u64 l_3, PV.int .i64 c_3, PV.int .i64 n_3] ∧ (bif (n_3 != c_3) == (n != c) then k [PV.bool true] [] else k [PV.bool false] []) := ⟨l, c, n, rfl, by rw [beq_self_eq_true]; exact hk⟩
  have hfin : ∀ {p : Prop}, p → (bif !(ByteArray.mk b.toArray ++ ByteArray.mk (stB l c n).toArray).toList == (ByteArray.mk b.toArray ++ ByteArray.mk (stB l c n).toArray).toList then k [PV.bool false] [] else p) := fun {p} h => by
    rw [beq_self_eq_true]; exact h
  refine ⟨hu _, ⟨hu _, l, c, n, rfl, ⟨hl, hc', hn'⟩, by rw [hz]; omega, hfin ⟨fun _ _ => rfl, hs3, hu _, by omega, hend⟩⟩, l, c, n, rfl, ⟨hl, hc', hn'⟩, by rw [hz]; omega, hu _, hfin ⟨fun _ _ => rfl, hs3, hu _, by omega, hend⟩⟩
theorem pre_StatusPuts (b : List UInt8) (s : Int × Int × Int) (_ : g_o51 b) (hs : g_o43 s) : lawSP [a_o51 b, a_o43 s] fun rs => rs = [.bool true] := by
  obtain ⟨l, c, n⟩ := s
  have w1 : (Lit.int .u64 l).wf = true := hs.1
  have w2 : (Lit.int .i64 c).wf = true := hs.2.1
  have w3 : (Lit.int .i64 n).wf = true := hs.2.2
  simp [Lit.wf, IntKind.min, IntKind.max, IntKind.signed, IntKind.bits] at w1 w2 w3
  exact ⟨b, l, c, n, rfl, rfl, ⟨⟨by omega, by omega⟩, by omega, by omega⟩, rfl⟩
end Go.Ab.T
