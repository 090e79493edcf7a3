import Derived.Test.YthfagophoncabaaGreatDoorTB
import Derived.Test.YthfagophoncabaaGreatDoorMaB
set_option linter.unusedVariables false
set_option linter.unusedSimpArgs false
set_option linter.unusedSectionVars false
namespace Go.Ab.T
open Go Go.Ab Go.Proofs
variable [DMode]
set_option maxRecDepth 100000
set_option maxHeartbeats 4000000
noncomputable def PE0 := base (fun _ => none) (fun _ => none) (fun _ => none)
theorem env_PE0 : EnvOk PE0 := env_of (fun g F h => (by cases h)) (fun g F h => (by cases h)) (fun g F h => (by cases h))
def nanS : SpecS := fun ys Φ => match ys with
 | [.int .i64 v] => Φ [.bool false]
 | _ => False
theorem nanS_mono : MonoS nanS := by
 intro ys Φ Ψ h hF
 unfold nanS at hF ⊢
 split at hF
 ·exact h _ hF
 ·exact hF.elim
theorem nanS_inv {ys : List PV} {Φ : List PV -> Prop} (h : nanS ys Φ) : ∃ (v : Int), ys = [.int .i64 v] /\ Φ [.bool false] := by
 unfold nanS at h
 split at h
 ·exact ⟨_, rfl, h⟩
 ·exact h.elim
theorem fn_nanI : FnOk Tryz.prog 175 Tryz.f175 (bodyOf Tryz.f175) := ⟨by kernel_rfl, by kernel_rfl, by kernel_rfl⟩
noncomputable def ff_nanI : Fun := ⟨Tryz.f175.ntmps, 0, Tryz.f175.results.toList, fun _ => none, fun _ => false, fun _ => []⟩
theorem nf_nanI (A : KA Kd) (k : List PV -> Heap Kd -> Prop) (v : Int) : evT PE0 ff_nanI A k 400 false [.code (bodyOf Tryz.f175)] (startEnv 6 [.int .i64 v]) [] = (k [.bool (v != v)] []) := by kernel_rfl
theorem ok_nanI : FunS B 175 nanS := by
 refine funS_of (N := 6) (f := ff_nanI) env_PE0 mixed fn_nanI (by kernel_rfl) (by kernel_rfl) (by kernel_rfl) nanS_mono ?_
 intro A k ys hA hF
 obtain ⟨v, rfl, hk⟩ := nanS_inv hF; clear hF
 refine ⟨by kernel_rfl, (hA.nf (nf_nanI A k v) ?_)⟩
 rw [bne_self_eq_false]; exact hk
noncomputable def PE1 := base (fun _ => none) (fun g => match g with | 175 => some nanS | _ => none) (fun _ => none)
theorem env_PE1 : EnvOk PE1 := env_of (by
 intro g F h
 split at h
 ·cases h; exact ok_nanI
 ·cases h) (fun g F h => (by cases h)) (fun g F h => (by cases h))
def cmpIS : SpecS := fun ys Φ => match ys with
 | [.int .i64 a, .int .i64 b] => Φ [.int .i64 (cmpI a b)]
 | _ => False
theorem cmpIS_mono : MonoS cmpIS := by
 intro ys Φ Ψ h hF
 unfold cmpIS at hF ⊢
 split at hF
 ·exact h _ hF
 ·exact hF.elim
theorem cmpIS_inv {ys : List PV} {Φ : List PV -> Prop} (h : cmpIS ys Φ) : ∃ (a : Int) (b : Int), ys = [.int .i64 a, .int .i64 b] /\ Φ [.int .i64 (cmpI a b)] := by
 unfold cmpIS at h
 split at h
 ·exact ⟨_, _, rfl, h⟩
 ·exact h.elim
theorem fn_cmpI : FnOk Tryz.prog 171 Tryz.f171 (bodyOf Tryz.f171) := ⟨by kernel_rfl, by kernel_rfl, by kernel_rfl⟩
noncomputable def ff_cmpI : Fun := ⟨Tryz.f171.ntmps, 0, Tryz.f171.results.toList, fun _ => none, fun _ => false, fun _ => []⟩
theorem nf_cmpI (A : KA Kd) (k : List PV -> Heap Kd -> Prop) (a b : Int) : evT PE1 ff_cmpI A k 400 false [.code (bodyOf Tryz.f171)] (startEnv 20 [.int .i64 a, .int .i64 b]) [] = (bif decide (a < b) then k [.int .i64 (-1 : Int)] []
else bif decide (a > b) then k [PV.int IntKind.i64 (1 : Int)] [] else k [PV.int IntKind.i64 (0 : Int)] []) := by kernel_rfl
theorem ok_cmpI : FunS B 171 cmpIS := by
 refine funS_of (N := 20) (f := ff_cmpI) env_PE1 mixed fn_cmpI (by kernel_rfl) (by kernel_rfl) (by kernel_rfl) cmpIS_mono ?_
 intro A k ys hA hF
 obtain ⟨a, b, rfl, hk⟩ := cmpIS_inv hF; clear hF
 refine ⟨by kernel_rfl, (hA.nf (nf_cmpI A k a b) ?_)⟩
 unfold cmpI at hk
 cases h : decide (a < b) with
 | true => rw [h] at hk; exact hk
 | false =>
  rw [h] at hk
  cases h2 : decide (a > b) with
  | true => rw [h2] at hk; exact hk
  | false => rw [h2] at hk; exact hk
def orS : SpecS := fun ys Φ => match ys with
 | [x_0] => ∃ (l : List Int), x_0 = .sl _ e_int l /\ (l.length < 4611686018427387904) /\ Φ [.int .i64 (orV l)]
 | _ => False
theorem orS_mono : MonoS orS := by
 intro ys Φ Ψ h hF
 unfold orS at hF ⊢
 split at hF
 ·obtain ⟨a0, q0, hp, hk⟩ := hF; exact ⟨a0, q0, hp, h _ hk⟩
 ·exact hF.elim
theorem orS_inv {ys : List PV} {Φ : List PV -> Prop} (h : orS ys Φ) : ∃ (l : List Int), ys = [.sl _ e_int l] /\ (l.length < 4611686018427387904) /\ Φ [.int .i64 (orV l)] := by
 unfold orS at h
 split at h
 ·obtain ⟨a0, q0, hz⟩ := h
  subst q0
  exact ⟨a0, rfl, hz⟩
 ·exact h.elim
theorem fn_orF : FnOk Tryz.prog 170 Tryz.f170 (bodyOf Tryz.f170) := ⟨by kernel_rfl, by kernel_rfl, by kernel_rfl⟩
noncomputable def ff_orF : Fun := ⟨Tryz.f170.ntmps, 0, Tryz.f170.results.toList, fun i => match i with | 3 => some [3, 6, 7, 8] | _ => none, fun _ => false, fun _ => []⟩
theorem nf_orF_a (A : KA Kd) (k : List PV -> Heap Kd -> Prop) (l : List Int) : evT PE1 ff_orF A k 400 false [.code (bodyOf Tryz.f170)] (startEnv 18 [.sl _ e_int l]) [] = (A (td Tryz.f170 3) (envAt 18 [(3, .int .i64 0), (6, .sl Int e_int l), (7, .int .i64 (↑l.length : Int)), (8, .int .i64 0)]) []) := by kernel_rfl
theorem nf_orF_b (A : KA Kd) (k : List PV -> Heap Kd -> Prop) (l : List Int) (n i : Int) : evT PE1 ff_orF A k 400 true (td Tryz.f170 3) (envAt 18 [(3, .int .i64 0), (6, .sl _ e_int l), (7, .int .i64 n), (8, .int .i64 i)]) [] = (bif decide (i < n) then (0 <= i /\ i < (↑l.length : Int)) /\ ∀ (y : Int), l[i.toNat]? = some y -> bif y != 0 then k [.int .i64 y] [] else A (td Tryz.f170 3) (envAt 18 [(3, .int .i64 0), (6, .sl Int e_int l), (7, .int .i64 n), (8, .int .i64 (IntKind.i64.wrap (i + 1)))]) []
else k [PV.int IntKind.i64 (0 : Int)] []) := by kernel_rfl
theorem ok_orF : FunS B 170 orS := by
 refine funS_of (N := 18) (f := ff_orF) env_PE1 mixed fn_orF (by kernel_rfl) (by kernel_rfl) (by kernel_rfl) orS_mono ?_
 intro A k ys hA hF
 obtain ⟨l, rfl, hl, hk⟩ := orS_inv hF; clear hF
 refine ⟨by kernel_rfl, (hA.nf (nf_orF_a A k l) ?_)⟩
 refine down_loop l (fun i => k [.int .i64 (orV (l.drop i))] [] -> A (td Tryz.f170 3) (envAt 18 [(3, .int .i64 0), (6, .sl _ e_int l), (7, .int .i64 (l.length : Int)), (8, .int .i64 (i : Int))]) []) ?_ ?_ 0 (Nat.zero_le _) hk
 ·intro hk
  refine (hA.nf (nf_orF_b A k l _ _) ?_)
  rw [ilt_false (Nat.lt_irrefl _)]
  rw [List.drop_length] at hk; exact hk
 ·intro i y hy ih hk
  have hlt := lt_of_get hy
  refine (hA.nf (nf_orF_b A k l _ _) ?_)
  rw [ilt_true hlt, cond_true]
  refine get_at hy ?_
  rw [drop_cons' hy, orV] at hk
  cases c : y != 0 with
  | true => rw [c] at hk; exact hk
  | false =>
  rw [c] at hk
  rw [cond_false, wrap_succ (by omega)]
  exact ih hk
end Go.Ab.T
