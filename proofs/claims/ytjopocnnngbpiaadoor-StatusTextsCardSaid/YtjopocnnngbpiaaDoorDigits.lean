import Derived.Test.YtjopocnnngbpiaaDoorTB
import Derived.Test.YtjopocnnngbpiaaDoorMaB
import Derived.Test.YtjopocnnngbpiaaDoorAbC
set_option linter.unusedVariables false
set_option linter.unusedSimpArgs false
set_option linter.unusedSectionVars false
namespace Go.Ab.T
open Go Go.Ab Go.Proofs
variable [DMode] [EV]
set_option maxRecDepth 100000
set_option maxHeartbeats 4000000
def digS (m : Nat) : SpecS := fun ys Φ => match ys with
  | [.int .i64 n] => ((m ≠ 0 ∧ n.natAbs < 10 ^ m) ∧ -9223372036854775808 ≤ n ∧ n ≤ 9223372036854775807) ∧ Φ [.str (dB n)]
  | _ => False
theorem digS_mono (m : Nat) : MonoS (digS m) := by
  intro ys Φ Ψ h hF
  unfold digS at hF ⊢
  split at hF
  · exact ⟨hF.1, h _ hF.2⟩
  · exact hF.elim
theorem digS_inv {m : Nat} {ys : List PV} {Φ : List PV → Prop} (h : digS m ys Φ) : ∃ n, ys = [.int .i64 n] ∧ ((m ≠ 0 ∧ n.natAbs < 10 ^ m) ∧ -9223372036854775808 ≤ n ∧ n ≤ 9223372036854775807) ∧ Φ [.str (dB n)] := by
  unfold digS at h
  split at h
  · exact ⟨_, rfl, h⟩
  · exact h.elim
noncomputable def DG (m : Nat) := base (fun _ => none) (fun g => match g with | 29 => some (digS m) | _ => none)
theorem env_DG (m : Nat) (h : FunS B 29 (digS m)) : EnvOk (DG m) := env_of (by
    intro g F e
    split at e
    · cases e; exact h
    · cases e) (fun g F h => (by cases h)) (fun g F h => (by cases h))
theorem fn_digF : FnOk Tryd.prog 29 Tryd.f29 (bodyOf Tryd.f29) := ⟨by kernel_rfl, by kernel_rfl, by kernel_rfl⟩
noncomputable def ff_digF : Fun := ⟨Tryd.f29.ntmps, 0, Tryd.f29.results.toList, fun _ => none, fun _ => false, fun _ => []⟩
theorem nf_digF (A : KA Kd) (k : List PV → Heap Kd → Prop) (m : Nat) (n : Int) : evT (DG m) ff_digF A k 400 false [.code (bodyOf Tryd.f29)] (startEnv 47 [.int .i64 n]) [] = (bif decide (n < (0 : Int)) then bif decide (n > (-10 : Int)) then ((0 : Int) ≤ IntKind.i64.wrap ((0 : Int) - n) ∧ IntKind.i64.wrap ((0 : Int) - n) ≤ IntKind.i64.wrap (IntKind.i64.wrap ((0 : Int) - n) + (1 : Int)) ∧ IntKind.i64.wrap (IntKind.i64.wrap ((0 : Int) - n) + (1 : Int)) ≤ (↑(ByteArray.mk #[(48 : UInt8), (49 : UInt8), (50 : UInt8), (51 : UInt8), (52 : UInt8), (53 : UInt8), (54 : UInt8), (55 : UInt8), (56 : UInt8), (57 : UInt8)]).size : Int)) ∧ (ByteArray.mk #[(45 : UInt8)]).size + ((ByteArray.mk #[(48 : UInt8), (49 : UInt8), (50 : UInt8), (51 : UInt8), (52 : UInt8), (53 : UInt8), (54 : UInt8), (55 : UInt8), (56 : UInt8), (57 : UInt8)]).extract (IntKind.i64.wrap ((0 : Int) - n)).toNat (IntKind.i64.wrap (IntKind.i64.wrap ((0 : Int) - n) + (1 : Int))).toNat).size ≤ (9223372036854775807 : Nat) ∧ k [PV.str (ByteArray.mk #[(45 : UInt8)] ++ (ByteArray.mk #[(48 : UInt8), (49 : UInt8), (50 : UInt8), (51 : UInt8), (52 : UInt8), (53 : UInt8), (54 : UInt8), (55 : UInt8), (56 : UInt8), (57 : UInt8)]).extract (IntKind.i64.wrap ((0 : Int) - n)).toNat (IntKind.i64.wrap (IntKind.i64.wrap ((0 : Int) - n) + (1 : Int))).toNat)] [] else (10 : Int) ≠ (0 : Int) ∧ (10 : Int) ≠ (0 : Int) ∧ (10 : Int) ≠ (0 : Int) ∧ (((m ≠ (0 : Nat) ∧ (IntKind.i64.wrap (n.tdiv (10 : Int))).natAbs < (10 : Nat) ^ m) ∧ (-9223372036854775808 : Int) ≤ IntKind.i64.wrap (n.tdiv (10 : Int)) ∧ IntKind.i64.wrap (n.tdiv (10 : Int)) ≤ (9223372036854775807 : Int)) ∧ ((0 : Int) ≤ IntKind.i64.wrap ((0 : Int) - n.tmod (10 : Int)) ∧ IntKind.i64.wrap ((0 : Int) - n.tmod (10 : Int)) ≤ IntKind.i64.wrap (IntKind.i64.wrap ((0 : Int) - n.tmod (10 : Int)) + (1 : Int)) ∧ IntKind.i64.wrap (IntKind.i64.wrap ((0 : Int) - n.tmod (10 : Int)) + (1 : Int)) ≤ (↑(ByteArray.mk #[(48 : UInt8), (49 : UInt8), (50 : UInt8), (51 : UInt8), (52 : UInt8), (53 : UInt8), (54 : UInt8), (55 : UInt8), (56 : UInt8), (57 : UInt8)]).size : Int)) ∧ (dB (IntKind.i64.wrap (n.tdiv (10 : Int)))).size + ((ByteArray.mk #[(48 : UInt8), (49 : UInt8), (50 : UInt8), (51 : UInt8), (52 : UInt8), (53 : UInt8), (54 : UInt8), (55 : UInt8), (56 : UInt8), (57 : UInt8)]).extract (IntKind.i64.wrap ((0 : Int) - n.tmod (10 : Int))).toNat (IntKind.i64.wrap (IntKind.i64.wrap ((0 : Int) - n.tmod (10 : Int)) + (1 : Int))).toNat).size ≤ (9223372036854775807 : Nat) ∧ k [PV.str (dB (IntKind.i64.wrap (n.tdiv (10 : Int))) ++ (ByteArray.mk #[(48 : UInt8), (49 : UInt8), (50 : UInt8), (51 : UInt8), (52 : UInt8), (53 : UInt8), (54 : UInt8), (55 : UInt8), (56 : UInt8), (57 : UInt8)]).extract (IntKind.i64.wrap ((0 : Int) - n.tmod (10 : Int))).toNat (IntKind.i64.wrap (IntKind.i64.wrap ((0 : Int) - n.tmod (10 : Int)) + (1 : Int))).toNat)] []) ∧ ((0 : Int) ≤ IntKind.i64.wrap ((0 : Int) - n.tmod (10 : Int)) ∧ IntKind.i64.wrap ((0 : Int) - n.tmod (10 : Int)) ≤ IntKind.i64.wrap (IntKind.i64.wrap ((0 : Int) - n.tmod (10 : Int)) + (1 : Int)) ∧ IntKind.i64.wrap (IntKind.i64.wrap ((0 : Int) - n.tmod (10 : Int)) + (1 : Int)) ≤ (↑(ByteArray.mk #[(48 : UInt8), (49 : UInt8), (50 : UInt8), (51 : UInt8), (52 : UInt8), (53 : UInt8), (54 : UInt8), (55 : UInt8), (56 : UInt8), (57 : UInt8)]).size : Int)) ∧ ((m ≠ (0 : Nat) ∧ (IntKind.i64.wrap (n.tdiv (10 : Int))).natAbs < (10 : Nat) ^ m) ∧ (-9223372036854775808 : Int) ≤ IntKind.i64.wrap (n.tdiv (10 : Int)) ∧ IntKind.i64.wrap (n.tdiv (10 : Int)) ≤ (9223372036854775807 : Int)) ∧ (dB (IntKind.i64.wrap (n.tdiv (10 : Int)))).size + ((ByteArray.mk #[(48 : UInt8), (49 : UInt8), (50 : UInt8), (51 : UInt8), (52 : UInt8), (53 : UInt8), (54 : UInt8), (55 : UInt8), (56 : UInt8), (57 : UInt8)]).extract (IntKind.i64.wrap ((0 : Int) - n.tmod (10 : Int))).toNat (IntKind.i64.wrap (IntKind.i64.wrap ((0 : Int) - n.tmod (10 : Int)) + (1 : Int))).toNat).size ≤ (9223372036854775807 : Nat) ∧ k [PV.str (dB (IntKind.i64.wrap (n.tdiv (10 : Int))) ++ (ByteArray.mk #[(48 : UInt8), (49 : UInt8), (50 : UInt8), (51 : UInt8), (52 : UInt8), (53 : UInt8), (54 : UInt8), (55 : UInt8), (56 : UInt8), (57 : UInt8)]).extract (IntKind.i64.wrap ((0 : Int) - n.tmod (10 : Int))).toNat (IntKind.i64.wrap (IntKind.i64.wrap ((0 : Int) - n.tmod (10 : Int)) + (1 : Int))).toNat)] []
else bif decide (n < (10 : Int)) then ((0 : Int) ≤ n ∧ n ≤ IntKind.i64.wrap (n + (1 : Int)) ∧ IntKind.i64.wrap (n + (1 : Int)) ≤ (↑(ByteArray.mk #[(48 : UInt8), (49 : UInt8), (50 : UInt8), (51 : UInt8), (52 : UInt8), (53 : UInt8), (54 : UInt8), (55 : UInt8), (56 : UInt8), (57 : UInt8)]).size : Int)) ∧ k [PV.str ((ByteArray.mk #[(48 : UInt8), (49 : UInt8), (50 : UInt8), (51 : UInt8), (52 : UInt8), (53 : UInt8), (54 : UInt8), (55 : UInt8), (56 : UInt8), (57 : UInt8)]).extract n.toNat (IntKind.i64.wrap (n + (1 : Int))).toNat)] [] else (10 : Int) ≠ (0 : Int) ∧ (10 : Int) ≠ (0 : Int) ∧ (10 : Int) ≠ (0 : Int) ∧ (((m ≠ (0 : Nat) ∧ (IntKind.i64.wrap (n.tdiv (10 : Int))).natAbs < (10 : Nat) ^ m) ∧ (-9223372036854775808 : Int) ≤ IntKind.i64.wrap (n.tdiv (10 : Int)) ∧ IntKind.i64.wrap (n.tdiv (10 : Int)) ≤ (9223372036854775807 : Int)) ∧ ((0 : Int) ≤ n.tmod (10 : Int) ∧ n.tmod (10 : Int) ≤ IntKind.i64.wrap (n.tmod (10 : Int) + (1 : Int)) ∧ IntKind.i64.wrap (n.tmod (10 : Int) + (1 : Int)) ≤ (↑(ByteArray.mk #[(48 : UInt8), (49 : UInt8), (50 : UInt8), (51 : UInt8), (52 : UInt8), (53 : UInt8), (54 : UInt8), (55 : UInt8), (56 : UInt8), (57 : UInt8)]).size : Int)) ∧ (dB (IntKind.i64.wrap (n.tdiv (10 : Int)))).size + ((ByteArray.mk #[(48 : UInt8), (49 : UInt8), (50 : UInt8), (51 : UInt8), (52 : UInt8), (53 : UInt8), (54 : UInt8), (55 : UInt8), (56 : UInt8), (57 : UInt8)]).extract (n.tmod (10 : Int)).toNat (IntKind.i64.wrap (n.tmod (10 : Int) + (1 : Int))).toNat).size ≤ (9223372036854775807 : Nat) ∧ k [PV.str (dB (IntKind.i64.wrap (n.tdiv (10 : Int))) ++ (ByteArray.mk #[(48 : UInt8), (49 : UInt8), (50 : UInt8), (51 : UInt8), (52 : UInt8), (53 : UInt8), (54 : UInt8), (55 : UInt8), (56 : UInt8), (57 : UInt8)]).extract (n.tmod (10 : Int)).toNat (IntKind.i64.wrap (n.tmod (10 : Int) + (1 : Int))).toNat)] []) ∧ ((0 : Int) ≤ n.tmod (10 : Int) ∧ n.tmod (10 : Int) ≤ IntKind.i64.wrap (n.tmod (10 : Int) + (1 : Int)) ∧ IntKind.i64.wrap (n.tmod (10 : Int) + (1 : Int)) ≤ (↑(ByteArray.mk #[(48 : UInt8), (49 : UInt8), (50 : UInt8), (51 : UInt8), (52 : UInt8), (53 : UInt8), (54 : UInt8), (55 : UInt8), (56 : UInt8), (57 : UInt8)]).size : Int)) ∧ ((m ≠ (0 : Nat) ∧ (IntKind.i64.wrap (n.tdiv (10 : Int))).natAbs < (10 : Nat) ^ m) ∧ (-9223372036854775808 : Int) ≤ IntKind.i64.wrap (n.tdiv (10 : Int)) ∧ IntKind.i64.wrap (n.tdiv (10 : Int)) ≤ (9223372036854775807 : Int)) ∧ (dB (IntKind.i64.wrap (n.tdiv (10 : Int)))).size + ((ByteArray.mk #[(48 : UInt8), (49 : UInt8), (50 : UInt8), (51 : UInt8), (52 : UInt8), (53 : UInt8), (54 : UInt8), (55 : UInt8), (56 : UInt8), (57 : UInt8)]).extract (n.tmod (10 : Int)).toNat (IntKind.i64.wrap (n.tmod (10 : Int) + (1 : Int))).toNat).size ≤ (9223372036854775807 : Nat) ∧ k [PV.str (dB (IntKind.i64.wrap (n.tdiv (10 : Int))) ++ (ByteArray.mk #[(48 : UInt8), (49 : UInt8), (50 : UInt8), (51 : UInt8), (52 : UInt8), (53 : UInt8), (54 : UInt8), (55 : UInt8), (56 : UInt8), (57 : UInt8)]).extract (n.tmod (10 : Int)).toNat (IntKind.i64.wrap (n.tmod (10 : Int) + (1 : Int))).toNat)] []) := by kernel_rfl
theorem dig_neg_wrap {u : Nat} (h : (u : Int) ≤ 9223372036854775808) : IntKind.i64.wrap (0 - (-(u : Int)).tmod 10) = ((u % 10 : Nat) : Int) := by
  have e : (-(u : Int)).tmod 10 = -((u % 10 : Nat) : Int) := by rw [Int.neg_tmod, Int.tmod_eq_emod_of_nonneg (by omega)]; omega
  rw [e, wrap_id _ (by omega) (by omega)]; omega
theorem dig_neg_quo {u : Nat} (h : (u : Int) ≤ 9223372036854775808) : IntKind.i64.wrap ((-(u : Int)).tdiv 10) = -((u / 10 : Nat) : Int) := by
  have e : (-(u : Int)).tdiv 10 = -((u / 10 : Nat) : Int) := by rw [Int.neg_tdiv, Int.tdiv_eq_ediv_of_nonneg (by omega)]; omega
  rw [e, wrap_id _ (by omega) (by omega)]
theorem dig_pos_quo {u : Nat} (h : (u : Int) ≤ 9223372036854775807) : IntKind.i64.wrap ((u : Int).tdiv 10) = ((u / 10 : Nat) : Int) := by
  have e : (u : Int).tdiv 10 = ((u / 10 : Nat) : Int) := by rw [Int.tdiv_eq_ediv_of_nonneg (by omega)]; omega
  rw [e, wrap_id _ (by omega) (by omega)]
theorem dig_pos_mod (u : Nat) : (u : Int).tmod 10 = ((u % 10 : Nat) : Int) := by rw [Int.tmod_eq_emod_of_nonneg (by omega)]; omega
theorem ok_digs : ∀ m, FunS B 29 (digS m) := by
  intro m
  induction m with
  | zero =>
    intro Z ys Φ hF
    obtain ⟨n, _, ⟨⟨h, _⟩, _⟩, _⟩ := digS_inv hF
    exact absurd rfl h
  | succ m ih =>
  refine funS_of (N := 47) (f := ff_digF) (env_DG m ih) mixed fn_digF (by kernel_rfl) (by kernel_rfl) (by kernel_rfl) (digS_mono _) ?_
  intro A k ys hA hF
  obtain ⟨n, rfl, ⟨⟨_, hm⟩, h0, h1⟩, hk⟩ := digS_inv hF; clear hF
  refine ⟨by kernel_rfl, (hA.nf (nf_digF A k m n) ?_)⟩
  have hdz : (ByteArray.mk #[48, 49, 50, 51, 52, 53, 54, 55, 56, 57]).size = 10 := rfl
  have hD : (ByteArray.mk #[48, 49, 50, 51, 52, 53, 54, 55, 56, 57]) = dgs := rfl
  have ws : ∀ j : Nat, j < 10 → IntKind.i64.wrap ((j : Int) + 1) = ((j + 1 : Nat) : Int) := fun j hj => by rw [wrap_id _ (by omega) (by omega)]; omega
  have one : ∀ b : UInt8, (ByteArray.mk #[b]).size = 1 := fun _ => rfl
  have bnd : ∀ j : Nat, j < 10 → (0 : Int) ≤ (j : Int) ∧ (j : Int) ≤ ((j + 1 : Nat) : Int) ∧ ((j + 1 : Nat) : Int) ≤ ((10 : Nat) : Int) := fun j hj => ⟨by omega, by omega, by omega⟩
  have n10 : (10 : Int) ≠ 0 := by decide
  rw [hdz, hD]
  have hp : (10 : Nat) ^ (m + 1) = 10 ^ m * 10 := Nat.pow_succ _ _
  have hm0 : ∀ u : Nat, u < 10 ^ (m + 1) → 10 ≤ u → m ≠ 0 ∧ u / 10 < 10 ^ m := fun u hu h10 => by
    refine ⟨fun e => ?_, by omega⟩
    subst e
    simp at hu; omega
  cases c1 : decide (n < 0) with
  | true =>
    rw [decide_eq_true_eq] at c1
    obtain ⟨u, rfl⟩ : ∃ u : Nat, n = -(u : Int) := ⟨n.natAbs, by omega⟩
    rw [cond_true]
    cases c2 : decide (-(u : Int) > -10) with
    | true =>
      rw [decide_eq_true_eq] at c2
      have e1 : IntKind.i64.wrap (0 - -(u : Int)) = (u : Int) := by rw [wrap_id _ (by omega) (by omega)]; omega
      rw [cond_true, e1, ws u (by omega), Int.toNat_natCast, Int.toNat_natCast, dig_at (by omega), one, one]
      rw [dB_neg_small (by omega) (by omega)] at hk
      exact ⟨bnd u (by omega), by decide, hk⟩
    | false =>
      rw [decide_eq_false_iff_not] at c2
      have hu : ¬ u < 10 := by omega
      rw [cond_false, dig_neg_wrap (by omega), dig_neg_quo (by omega), ws _ (by omega), Int.toNat_natCast, Int.toNat_natCast, dig_at (by omega), one]
      rw [dB_neg_big hu] at hk
      have q := dB_size (n := -((u / 10 : Nat) : Int)) (by omega) (by omega)
      obtain ⟨m1, m2⟩ := hm0 u (by omega) (by omega)
      have f1 : (m ≠ 0 ∧ (-((u / 10 : Nat) : Int)).natAbs < 10 ^ m) ∧ -9223372036854775808 ≤ (-((u / 10 : Nat) : Int)) ∧ (-((u / 10 : Nat) : Int)) ≤ 9223372036854775807 := ⟨⟨m1, by omega⟩, by omega, by omega⟩
      have f2 := bnd (u % 10) (by omega)
      exact ⟨n10, n10, n10, ⟨f1, f2, by omega, hk⟩, f2, f1, by omega, hk⟩
  | false =>
    rw [decide_eq_false_iff_not] at c1
    obtain ⟨u, rfl⟩ : ∃ u : Nat, n = (u : Int) := ⟨n.toNat, by omega⟩
    rw [cond_false]
    cases c2 : decide ((u : Int) < 10) with
    | true =>
      rw [decide_eq_true_eq] at c2
      rw [cond_true, ws u (by omega), Int.toNat_natCast, Int.toNat_natCast, dig_at (by omega)]
      rw [dB_small (by omega)] at hk
      exact ⟨bnd u (by omega), hk⟩
    | false =>
      rw [decide_eq_false_iff_not] at c2
      have hu : ¬ u < 10 := by omega
      rw [cond_false, dig_pos_mod, dig_pos_quo (by omega), ws _ (by omega), Int.toNat_natCast, Int.toNat_natCast, dig_at (by omega), one]
      rw [dB_big hu] at hk
      have q := dB_size (n := ((u / 10 : Nat) : Int)) (by omega) (by omega)
      obtain ⟨m1, m2⟩ := hm0 u (by omega) (by omega)
      have f1 : (m ≠ 0 ∧ (((u / 10 : Nat) : Int)).natAbs < 10 ^ m) ∧ -9223372036854775808 ≤ (((u / 10 : Nat) : Int)) ∧ (((u / 10 : Nat) : Int)) ≤ 9223372036854775807 := ⟨⟨m1, by omega⟩, by omega, by omega⟩
      have f2 := bnd (u % 10) (by omega)
      exact ⟨n10, n10, n10, ⟨f1, f2, by omega, hk⟩, f2, f1, by omega, hk⟩
def diS : SpecS := fun ys Φ => match ys with
  | [.int .i64 n] => (-9223372036854775808 ≤ n ∧ n ≤ 9223372036854775807) ∧ Φ [.str (dB n)]
  | _ => False
theorem diS_mono : MonoS diS := by
  intro ys Φ Ψ h hF
  unfold diS at hF ⊢
  split at hF
  · obtain ⟨hp, hk⟩ := hF; exact ⟨hp, h _ hk⟩
  · exact hF.elim
theorem diS_inv {ys : List PV} {Φ : List PV → Prop} (h : diS ys Φ) : ∃ (n : Int), ys = [.int .i64 n] ∧ (-9223372036854775808 ≤ n ∧ n ≤ 9223372036854775807) ∧ Φ [.str (dB n)] := by
  unfold diS at h
  split at h
  · exact ⟨_, rfl, h⟩
  · exact h.elim
theorem ok_dig : FunS B 29 diS := by
  intro Z ys Φ hF
  obtain ⟨n, rfl, ⟨h0, h1⟩, hk⟩ := diS_inv hF
  refine ok_digs 20 Z _ Φ ⟨⟨⟨by decide, ?_⟩, h0, h1⟩, hk⟩
  have p : (10 : Nat) ^ 20 = 100000000000000000000 := by decide
  omega
noncomputable def DG1 := base (fun _ => none) (fun g => match g with | 29 => some diS | _ => none) (fun _ => none)
theorem env_DG1 : EnvOk DG1 := env_of (by
    intro g F h
    split at h
    · cases h; exact ok_dig
    · cases h) (fun g F h => (by cases h)) (fun g F h => (by cases h))
theorem fn_digsF : FnOk Tryd.prog 17 Tryd.f17 (bodyOf Tryd.f17) := ⟨by kernel_rfl, by kernel_rfl, by kernel_rfl⟩
noncomputable def ff_digsF : Fun := ⟨Tryd.f17.ntmps, 0, Tryd.f17.results.toList, fun _ => none, fun _ => false, fun _ => []⟩
theorem nf_digsF (A : KA Kd) (k : List PV → Heap Kd → Prop) (n : Int) : evT DG1 ff_digsF A k 400 false [.code (bodyOf Tryd.f17)] (startEnv 5 [.int .i64 n]) [] = (((-9223372036854775808 : Int) ≤ n ∧ n ≤ (9223372036854775807 : Int)) ∧ k [PV.str (dB n)] []) := by kernel_rfl
theorem ok_digsF : FunS B 17 diS := by
  refine funS_of (N := 5) (f := ff_digsF) env_DG1 mixed fn_digsF (by kernel_rfl) (by kernel_rfl) (by kernel_rfl) diS_mono ?_
  intro A k ys hA hF
  obtain ⟨n, rfl, h, hk⟩ := diS_inv hF; clear hF
  exact ⟨by kernel_rfl, (hA.nf (nf_digsF A k n) ⟨h, hk⟩)⟩
end Go.Ab.T
