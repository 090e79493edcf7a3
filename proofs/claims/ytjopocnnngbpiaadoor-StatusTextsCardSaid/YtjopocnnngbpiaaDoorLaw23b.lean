import Derived.Test.YtjopocnnngbpiaaDoorStatus3
import Derived.Test.YtjopocnnngbpiaaDoorOp
set_option linter.unusedVariables false
set_option linter.unusedSimpArgs false
set_option linter.unusedSectionVars false
namespace Go.Ab.T
open Go Go.Ab Go.Proofs
variable [EV]
set_option maxRecDepth 100000
set_option maxHeartbeats 4000000
instance : DMode := ⟨false⟩
noncomputable def ST5 := base (fun g => match g with | 44 => some (lift 0 namesF) | _ => none) (fun g => match g with | 29 => some diS | 17 => some diS | 25 => some nameS | 13 => some newS | 8 => some ofS | 11 => some itoaS | 22 => some ifmtS | 10 => some ifmtS | 9 => some join3S | 24 => some gspS | 12 => some splS | 14 => some puS | 15 => some aiS | 5 => some stxS | 6 => some parS | 16 => some bgS | 7 => some stxS | _ => none) (fun _ => none)
theorem env_ST5 : EnvOk ST5 := env_of (by
    intro g F h
    split at h
    · cases h; exact ok_dig
    · cases h; exact ok_digsF
    · cases h; exact ok_Name
    · cases h; exact ok_New
    · cases h; exact of_ok
    · cases h; exact ok_itoa
    · cases h; exact ok_ifmt
    · cases h; exact ok_fmtF
    · cases h; exact ok_join3
    · cases h; exact ok_gsp
    · cases h; exact ok_spl
    · cases h; exact ok_pu
    · cases h; exact ok_ai
    · cases h; exact ok_stx
    · cases h; exact ok_par
    · cases h; exact ok_big
    · cases h; exact ok_rtx
    · cases h) (by
    intro g F h
    split at h
    · cases h; exact (lift_ok ok_names)
    · cases h) (fun g F h => (by cases h))
def true23 : SpecS := fun ys Φ => match ys with
  | [] => Φ [.bool true]
  | _ => False
theorem true23_mono : MonoS true23 := by
  intro ys Φ Ψ h hF
  unfold true23 at hF ⊢
  split at hF
  · exact h _ hF
  · exact hF.elim
theorem true23_inv {ys : List PV} {Φ : List PV → Prop} (h : true23 ys Φ) : ys = [] ∧ Φ [.bool true] := by
  unfold true23 at h
  split at h
  · exact ⟨rfl, h⟩
  · exact h.elim
theorem fn_awake23 : FnOk Tryd.prog 4 Tryd.f4 (bodyOf Tryd.f4) := ⟨by kernel_rfl, by kernel_rfl, by kernel_rfl⟩
noncomputable def ff_awake23 : Fun := ⟨Tryd.f4.ntmps, 0, Tryd.f4.results.toList, fun _ => none, fun _ => false, fun _ => []⟩
theorem nf_awake23 (A : KA Kd) (k : List PV → Heap Kd → Prop)  : evT ST5 ff_awake23 A k 400 false [.code (bodyOf Tryd.f4)] (startEnv 6 []) [] = (∃ (l : Int), ∃ (c : Int), ∃ (n : Int), PV.agg [PV.int IntKind.u64 (0 : Int), PV.int IntKind.i64 (0 : Int), PV.int IntKind.i64 (0 : Int)] = PV.agg [PV.int IntKind.u64 l, PV.int IntKind.i64 c, PV.int IntKind.i64 n] ∧ (((0 : Int) ≤ l ∧ l < (18446744073709551616 : Int)) ∧ ((-9223372036854775808 : Int) ≤ c ∧ c ≤ (9223372036854775807 : Int)) ∧ (-9223372036854775808 : Int) ≤ n ∧ n ≤ (9223372036854775807 : Int)) ∧ bif (stT l c n).toList == (ByteArray.mk #[(108 : UInt8), (97 : UInt8), (115 : UInt8), (116 : UInt8), (32 : UInt8), (48 : UInt8), (32 : UInt8), (99 : UInt8), (117 : UInt8), (114 : UInt8), (114 : UInt8), (101 : UInt8), (110 : UInt8), (116 : UInt8), (32 : UInt8), (48 : UInt8), (32 : UInt8), (110 : UInt8), (101 : UInt8), (120 : UInt8), (116 : UInt8), (32 : UInt8), (48 : UInt8)]).toList then k [PV.bool true] [] else k [PV.bool false] []) := by kernel_rfl
theorem stT_zero : stT 0 0 0 = ⟨#[108, 97, 115, 116, 32, 48, 32, 99, 117, 114, 114, 101, 110, 116, 32, 48, 32, 110, 101, 120, 116, 32, 48]⟩ := by
  have h : dB 0 = ⟨#[48]⟩ := dB_small (n := 0) (by decide)
  unfold stT
  rw [h]
  apply ByteArray.ext; apply Array.ext'; simp
theorem ok_awake23 : FunS B 4 true23 := by
  refine funS_of (N := 6) (f := ff_awake23) env_ST5 mixed fn_awake23 (by kernel_rfl) (by kernel_rfl) (by kernel_rfl) true23_mono ?_
  intro A k ys hA hF
  obtain ⟨rfl, hk⟩ := true23_inv hF; clear hF
  refine ⟨by kernel_rfl, (hA.nf (nf_awake23 A k) ?_)⟩
  refine ⟨0, 0, 0, rfl, ⟨by omega, by omega, by omega⟩, ?_⟩
  rw [stT_zero, beq_self_eq_true, cond_true]
  exact hk
noncomputable def ST6 := base (fun g => match g with | 44 => some (lift 0 namesF) | _ => none) (fun g => match g with | 29 => some diS | 17 => some diS | 25 => some nameS | 13 => some newS | 8 => some ofS | 11 => some itoaS | 22 => some ifmtS | 10 => some ifmtS | 9 => some join3S | 24 => some gspS | 12 => some splS | 14 => some puS | 15 => some aiS | 5 => some stxS | 6 => some parS | 16 => some bgS | 7 => some stxS | 4 => some true23 | _ => none) (fun _ => none)
theorem env_ST6 : EnvOk ST6 := env_of (by
    intro g F h
    split at h
    · cases h; exact ok_dig
    · cases h; exact ok_digsF
    · cases h; exact ok_Name
    · cases h; exact ok_New
    · cases h; exact of_ok
    · cases h; exact ok_itoa
    · cases h; exact ok_ifmt
    · cases h; exact ok_fmtF
    · cases h; exact ok_join3
    · cases h; exact ok_gsp
    · cases h; exact ok_spl
    · cases h; exact ok_pu
    · cases h; exact ok_ai
    · cases h; exact ok_stx
    · cases h; exact ok_par
    · cases h; exact ok_big
    · cases h; exact ok_rtx
    · cases h; exact ok_awake23
    · cases h) (by
    intro g F h
    split at h
    · cases h; exact (lift_ok ok_names)
    · cases h) (fun g F h => (by cases h))
theorem fn_StatusTexts : FnOk Tryd.prog 3 Tryd.f3 (bodyOf Tryd.f3) := ⟨by kernel_rfl, by kernel_rfl, by kernel_rfl⟩
noncomputable def ff_StatusTexts : Fun := ⟨Tryd.f3.ntmps, 0, Tryd.f3.results.toList, fun _ => none, fun _ => false, fun _ => []⟩
theorem nf_stTexts (A : KA Kd) (k : List PV → Heap Kd → Prop) (l c n : Int) (t : ByteArray) : evT ST6 ff_StatusTexts A k 400 false [.code (bodyOf Tryd.f3)] (startEnv 60 [.agg [.int .u64 l, .int .i64 c, .int .i64 n], .str t]) [] = (bif decide ((↑t.size : Int) > (200 : Int)) then k [PV.bool true] []
else ∃ (l_1 : Int), ∃ (c_1 : Int), ∃ (n_1 : Int), PV.agg [PV.int IntKind.u64 l, PV.int IntKind.i64 c, PV.int IntKind.i64 n] = PV.agg [PV.int IntKind.u64 l_1, PV.int IntKind.i64 c_1, PV.int IntKind.i64 n_1] ∧ (((0 : Int) ≤ l_1 ∧ l_1 < (18446744073709551616 : Int)) ∧ ((-9223372036854775808 : Int) ≤ c_1 ∧ c_1 ≤ (9223372036854775807 : Int)) ∧ (-9223372036854775808 : Int) ≤ n_1 ∧ n_1 ≤ (9223372036854775807 : Int)) ∧ (stT l_1 c_1 n_1).size < (100000 : Nat) ∧ ∃ (l_2 : Int), ∃ (c_2 : Int), ∃ (n_2 : Int), PV.agg [PV.int IntKind.u64 l, PV.int IntKind.i64 c, PV.int IntKind.i64 n] = PV.agg [PV.int IntKind.u64 l_2, PV.int IntKind.i64 c_2, PV.int IntKind.i64 n_2] ∧ (((0 : Int) ≤ l_2 ∧ l_2 < (18446744073709551616 : Int)) ∧ ((-9223372036854775808 : Int) ≤ c_2 ∧ c_2 ≤ (9223372036854775807 : Int)) ∧ (-9223372036854775808 : Int) ≤ n_2 ∧ n_2 ≤ (9223372036854775807 : Int)) ∧ bif !(stT l_1 c_1 n_1).toList == (stT l_2 c_2 n_2).toList then k [PV.bool false] [] else bif !(prE (stT l_1 c_1 n_1)).isNil then k [PV.bool false] [] else bif !(prL (stT l_1 c_1 n_1) == l && (prC (stT l_1 c_1 n_1) == c && (prN (stT l_1 c_1 n_1) == n && true))) then k [PV.bool false] [] else t.size < (100000 : Nat) ∧ bif !(prE t).isNil then bif prL t == (0 : Int) && (prC t == (0 : Int) && (prN t == (0 : Int) && true)) then bif (ofE (prE t)).fst == (6 : Int) && ((ofE (prE t)).snd.fst == (0 : Int) && ((ofE (prE t)).snd.snd == (0 : Int) && true)) then k [PV.bool true] [] else k [PV.bool false] [] else k [PV.bool false] [] else ∃ (l : Int), ∃ (c : Int), ∃ (n : Int), PV.agg [PV.int IntKind.u64 (prL t), PV.int IntKind.i64 (prC t), PV.int IntKind.i64 (prN t)] = PV.agg [PV.int IntKind.u64 l, PV.int IntKind.i64 c, PV.int IntKind.i64 n] ∧ (((0 : Int) ≤ l ∧ l < (18446744073709551616 : Int)) ∧ ((-9223372036854775808 : Int) ≤ c ∧ c ≤ (9223372036854775807 : Int)) ∧ (-9223372036854775808 : Int) ≤ n ∧ n ≤ (9223372036854775807 : Int)) ∧ bif (stT l c n).toList == t.toList then k [PV.bool true] [] else k [PV.bool false] []) := by kernel_rfl
def lawST : SpecS := fun ys Φ => match ys with
  | [x_0, .str t] => ∃ (l : Int), ∃ (c : Int), ∃ (n : Int), x_0 = .agg [.int .u64 l, .int .i64 c, .int .i64 n] ∧ ((0 ≤ l ∧ l < 18446744073709551616) ∧ (-9223372036854775808 ≤ c ∧ c ≤ 9223372036854775807) ∧ (-9223372036854775808 ≤ n ∧ n ≤ 9223372036854775807)) ∧ Φ [.bool true]
  | _ => False
theorem lawST_mono : MonoS lawST := by
  intro ys Φ Ψ h hF
  unfold lawST at hF ⊢
  split at hF
  · obtain ⟨a0, a1, a2, q0, hp, hk⟩ := hF; exact ⟨a0, a1, a2, q0, hp, h _ hk⟩
  · exact hF.elim
theorem lawST_inv {ys : List PV} {Φ : List PV → Prop} (h : lawST ys Φ) : ∃ (l : Int) (c : Int) (n : Int) (t : ByteArray), ys = [.agg [.int .u64 l, .int .i64 c, .int .i64 n], .str t] ∧ ((0 ≤ l ∧ l < 18446744073709551616) ∧ (-9223372036854775808 ≤ c ∧ c ≤ 9223372036854775807) ∧ (-9223372036854775808 ≤ n ∧ n ≤ 9223372036854775807)) ∧ Φ [.bool true] := by
  unfold lawST at h
  split at h
  · obtain ⟨a0, a1, a2, q0, hz⟩ := h
    subst q0
    exact ⟨a0, a1, a2, _, rfl, hz⟩
  · exact h.elim
theorem ok_STx : FunS B 3 lawST := by
  refine funS_of (N := 60) (f := ff_StatusTexts) env_ST6 mixed fn_StatusTexts (by kernel_rfl) (by kernel_rfl) (by kernel_rfl) lawST_mono ?_
  intro A k ys hA hF
  obtain ⟨l, c, n, t, rfl, ⟨hl, hc, hn⟩, hk⟩ := lawST_inv hF; clear hF
  refine ⟨by kernel_rfl, (hA.nf (nf_stTexts A k l c n t) ?_)⟩
  cases ht : decide ((t.size : Int) > 200) with
  | true => exact hk
  | false =>
  rw [decide_eq_false_iff_not] at ht
  have hlen : (stT l c n).size ≤ 100 := stT_len hl hc hn
  have hp := prs_stT hl hc hn
  have e1 : prE (stT l c n) = .nil := by unfold prE; rw [hp]
  have e2 : prL (stT l c n) = l := by unfold prL; rw [hp]
  have e3 : prC (stT l c n) = c := by unfold prC; rw [hp]
  have e4 : prN (stT l c n) = n := by unfold prN; rw [hp]
  rw [cond_false]
  refine ⟨l, c, n, rfl, ⟨hl, hc, hn⟩, by omega, l, c, n, rfl, ⟨hl, hc, hn⟩, ?_⟩
  rw [e1, e2, e3, e4]
  simp only [beq_self_eq_true, Bool.not_true, Bool.and_true, Bool.and_self, cond_false, show Err.nil.isNil = true from rfl]
  refine ⟨by omega, ?_⟩
  cases hq : prs t with
  | none =>
    have f1 : prE t = .cls 6 := by unfold prE; rw [hq]
    have f2 : prL t = 0 := by unfold prL; rw [hq]
    have f3 : prC t = 0 := by unfold prC; rw [hq]
    have f4 : prN t = 0 := by unfold prN; rw [hq]
    rw [f1, f2, f3, f4]
    exact hk
  | some p =>
    obtain ⟨x, y, z⟩ := p
    have f1 : prE t = .nil := by unfold prE; rw [hq]
    have f2 : prL t = x := by unfold prL; rw [hq]
    have f3 : prC t = y := by unfold prC; rw [hq]
    have f4 : prN t = z := by unfold prN; rw [hq]
    obtain ⟨g1, g2, g3, g4⟩ := prs_some hq
    rw [f1, f2, f3, f4, show (!Err.nil.isNil) = false from rfl, cond_false]
    refine ⟨x, y, z, rfl, ⟨g2, g3, g4⟩, ?_⟩
    rw [g1, beq_self_eq_true, cond_true]
    exact hk
theorem pre_StatusTexts (s : Int × Int × Int) (t : ByteArray) (hs : g_o24 s) (_ : g_o9 t) : lawST [a_o24 s, a_o9 t] fun rs => rs = [.bool true] := by
  obtain ⟨l, c, n⟩ := s
  have w1 : (Lit.int .u64 l).wf = true := hs.1
  have w2 : (Lit.int .i64 c).wf = true := hs.2.1
  have w3 : (Lit.int .i64 n).wf = true := hs.2.2
  simp [Lit.wf, IntKind.min, IntKind.max, IntKind.signed, IntKind.bits] at w1 w2 w3
  exact ⟨l, c, n, rfl, ⟨⟨by omega, by omega⟩, ⟨by omega, by omega⟩, by omega, by omega⟩, rfl⟩
end Go.Ab.T
