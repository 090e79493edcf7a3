import Derived.Test.YthfagophoncabaaGreatDoorPut2
import Derived.Test.YthfagophoncabaaGreatDoorCmp
import Derived.Test.YthfagophoncabaaGreatDoorReader
import Derived.Test.YthfagophoncabaaGreatDoorMaB
import Derived.Test.YthfagophoncabaaGreatDoorRef01T
import Derived.Test.YthfagophoncabaaGreatDoorAbC
set_option linter.unusedVariables false
set_option linter.unusedSimpArgs false
set_option linter.unusedSectionVars false
namespace Go.Ab.T
open Go Go.Ab Go.Proofs
variable [DMode]
set_option maxRecDepth 100000
set_option maxHeartbeats 4000000
noncomputable def AC0 := base (fun _ => none) (fun g => match g with | 171 => some cmpIS | 170 => some orS | _ => none) (fun _ => none)
theorem env_AC0 : EnvOk AC0 := env_of (by
 intro g F h
 split at h
 ·cases h; exact ok_cmpI
 ·cases h; exact ok_orF
 ·cases h) (fun g F h => (by cases h)) (fun g F h => (by cases h))
def cmpAS : SpecS := fun ys Φ => match ys with
 | [.agg [.int .i64 a1, .int .i64 a2, .int .i64 a3], .agg [.int .i64 b1, .int .i64 b2, .int .i64 b3]] => Φ [.int .i64 (cmpA (a1, a2, a3) (b1, b2, b3))]
 | _ => False
theorem cmpAS_mono : MonoS cmpAS := by
 intro ys Φ Ψ h hF
 unfold cmpAS at hF ⊢
 split at hF
 ·exact h _ hF
 ·exact hF.elim
theorem cmpAS_inv {ys : List PV} {Φ : List PV -> Prop} (h : cmpAS ys Φ) : ∃ (a1 : Int) (a2 : Int) (a3 : Int) (b1 : Int) (b2 : Int) (b3 : Int), ys = [.agg [.int .i64 a1, .int .i64 a2, .int .i64 a3], .agg [.int .i64 b1, .int .i64 b2, .int .i64 b3]] /\ Φ [.int .i64 (cmpA (a1, a2, a3) (b1, b2, b3))] := by
 unfold cmpAS at h
 split at h
 ·exact ⟨_, _, _, _, _, _, rfl, h⟩
 ·exact h.elim
theorem fn_cmpAf : FnOk Tryz.prog 151 Tryz.f151 (bodyOf Tryz.f151) := ⟨by kernel_rfl, by kernel_rfl, by kernel_rfl⟩
noncomputable def ff_cmpAf : Fun := ⟨Tryz.f151.ntmps, 0, Tryz.f151.results.toList, fun _ => none, fun _ => false, fun _ => []⟩
theorem nf_cmpAf (A : KA Kd) (k : List PV -> Heap Kd -> Prop) (a1 a2 a3 b1 b2 b3 : Int) : evT AC0 ff_cmpAf A k 400 false [.code (bodyOf Tryz.f151)] (startEnv 17 [.agg [.int .i64 a1, .int .i64 a2, .int .i64 a3], .agg [.int .i64 b1, .int .i64 b2, .int .i64 b3]]) [] = (∃ (zs : List Int), List.map e_int zs = [PV.int IntKind.i64 (cmpI a1 b1), PV.int IntKind.i64 (cmpI a2 b2)] /\ ∃ (l : List Int), PV.sl Int e_int zs = PV.sl Int e_int l /\ l.length < 4611686018427387904 /\ k [.int .i64 (orV l)] []) := by kernel_rfl
theorem ok_cmpAf : FunS B 151 cmpAS := by
 refine funS_of (N := 17) (f := ff_cmpAf) env_AC0 mixed fn_cmpAf (by kernel_rfl) (by kernel_rfl) (by kernel_rfl) cmpAS_mono ?_
 intro A k ys hA hF
 obtain ⟨a1, a2, a3, b1, b2, b3, rfl, hk⟩ := cmpAS_inv hF; clear hF
 refine ⟨by kernel_rfl, (hA.nf (nf_cmpAf A k a1 a2 a3 b1 b2 b3) ?_)⟩
 exact ⟨[cmpI a1 b1, cmpI a2 b2], rfl, [cmpI a1 b1, cmpI a2 b2], rfl, (by show (2 : Nat) < 4611686018427387904; decide), hk⟩
def doesS : SpecS := fun ys Φ => match ys with
 | [.int .i64 n] => Φ [.bool (doesA n)]
 | _ => False
theorem doesS_mono : MonoS doesS := by
 intro ys Φ Ψ h hF
 unfold doesS at hF ⊢
 split at hF
 ·exact h _ hF
 ·exact hF.elim
theorem doesS_inv {ys : List PV} {Φ : List PV -> Prop} (h : doesS ys Φ) : ∃ (n : Int), ys = [.int .i64 n] /\ Φ [.bool (doesA n)] := by
 unfold doesS at h
 split at h
 ·exact ⟨_, rfl, h⟩
 ·exact h.elim
theorem fn_doesF : FnOk Tryz.prog 107 Tryz.f107 (bodyOf Tryz.f107) := ⟨by kernel_rfl, by kernel_rfl, by kernel_rfl⟩
noncomputable def ff_doesF : Fun := ⟨Tryz.f107.ntmps, 0, Tryz.f107.results.toList, fun _ => none, fun _ => false, fun _ => []⟩
theorem nf_doesF (A : KA Kd) (k : List PV -> Heap Kd -> Prop) (n : Int) : evT AC0 ff_doesF A k 400 false [.code (bodyOf Tryz.f107)] (startEnv 9 [.int .i64 n]) [] = (bif n == 1 then k [.bool true] [] else k [.bool (n == 2)] []) := by kernel_rfl
theorem ok_doesF : FunS B 107 doesS := by
 refine funS_of (N := 9) (f := ff_doesF) env_AC0 mixed fn_doesF (by kernel_rfl) (by kernel_rfl) (by kernel_rfl) doesS_mono ?_
 intro A k ys hA hF
 obtain ⟨n, rfl, hk⟩ := doesS_inv hF; clear hF
 refine ⟨by kernel_rfl, (hA.nf (nf_doesF A k n) ?_)⟩
 unfold doesA at hk
 cases h : n == 1 with
 | true => rw [h] at hk; exact hk
 | false =>
  cases h2 : n == 2 with
  | true => rw [h, h2] at hk; exact hk
  | false => rw [h, h2] at hk; exact hk
def idAS : SpecS := fun ys Φ => match ys with
 | [.int .i64 n] => Φ [.bool (idOk n)]
 | _ => False
theorem idAS_mono : MonoS idAS := by
 intro ys Φ Ψ h hF
 unfold idAS at hF ⊢
 split at hF
 ·exact h _ hF
 ·exact hF.elim
theorem idAS_inv {ys : List PV} {Φ : List PV -> Prop} (h : idAS ys Φ) : ∃ (n : Int), ys = [.int .i64 n] /\ Φ [.bool (idOk n)] := by
 unfold idAS at h
 split at h
 ·exact ⟨_, rfl, h⟩
 ·exact h.elim
theorem fn_acRight : FnOk Tryz.prog 167 Tryz.f167 (bodyOf Tryz.f167) := ⟨by kernel_rfl, by kernel_rfl, by kernel_rfl⟩
noncomputable def ff_acRight : Fun := ⟨Tryz.f167.ntmps, 0, Tryz.f167.results.toList, fun _ => none, fun _ => false, fun _ => []⟩
theorem nf_acRight (A : KA Kd) (k : List PV -> Heap Kd -> Prop) (n : Int) : evT AC0 ff_acRight A k 400 false [.code (bodyOf Tryz.f167)] (startEnv 9 [.int .i64 n]) [] = (bif decide (n >= 0) then k [.bool (decide (n <= 255))] [] else k [.bool false] []) := by kernel_rfl
theorem ok_acRight : FunS B 167 idAS := by
 refine funS_of (N := 9) (f := ff_acRight) env_AC0 mixed fn_acRight (by kernel_rfl) (by kernel_rfl) (by kernel_rfl) idAS_mono ?_
 intro A k ys hA hF
 obtain ⟨n, rfl, hk⟩ := idAS_inv hF; clear hF
 refine ⟨by kernel_rfl, (hA.nf (nf_acRight A k n) ?_)⟩
 unfold idOk at hk
 cases h : decide (n >= 0) with
 | true => rw [h] at hk; exact hk
 | false => rw [h] at hk; exact hk
def ltAS : SpecS := fun ys Φ => match ys with
 | [.agg [.int .i64 a1, .int .i64 a2, .int .i64 a3], .agg [.int .i64 b1, .int .i64 b2, .int .i64 b3]] => Φ [.bool (ltA (a1, a2, a3) (b1, b2, b3))]
 | _ => False
theorem ltAS_mono : MonoS ltAS := by
 intro ys Φ Ψ h hF
 unfold ltAS at hF ⊢
 split at hF
 ·exact h _ hF
 ·exact hF.elim
theorem ltAS_inv {ys : List PV} {Φ : List PV -> Prop} (h : ltAS ys Φ) : ∃ (a1 : Int) (a2 : Int) (a3 : Int) (b1 : Int) (b2 : Int) (b3 : Int), ys = [.agg [.int .i64 a1, .int .i64 a2, .int .i64 a3], .agg [.int .i64 b1, .int .i64 b2, .int .i64 b3]] /\ Φ [.bool (ltA (a1, a2, a3) (b1, b2, b3))] := by
 unfold ltAS at h
 split at h
 ·exact ⟨_, _, _, _, _, _, rfl, h⟩
 ·exact h.elim
theorem fn_rLess11 : FnOk Tryz.prog 83 Tryz.f83 (bodyOf Tryz.f83) := ⟨by kernel_rfl, by kernel_rfl, by kernel_rfl⟩
noncomputable def ff_rLess11 : Fun := ⟨Tryz.f83.ntmps, 0, Tryz.f83.results.toList, fun _ => none, fun _ => false, fun _ => []⟩
theorem nf_rLess11 (A : KA Kd) (k : List PV -> Heap Kd -> Prop) (a1 a2 a3 b1 b2 b3 : Int) : evT AC0 ff_rLess11 A k 400 false [.code (bodyOf Tryz.f83)] (startEnv 24 [.agg [.int .i64 a1, .int .i64 a2, .int .i64 a3], .agg [.int .i64 b1, .int .i64 b2, .int .i64 b3]]) [] = (bif decide (a1 < b1) then k [.bool true] []
else bif a1 == b1 then k [PV.bool (decide (a2 < b2))] [] else k [PV.bool false] []) := by kernel_rfl
theorem ok_rLess11 : FunS B 83 ltAS := by
 refine funS_of (N := 24) (f := ff_rLess11) env_AC0 mixed fn_rLess11 (by kernel_rfl) (by kernel_rfl) (by kernel_rfl) ltAS_mono ?_
 intro A k ys hA hF
 obtain ⟨a1, a2, a3, b1, b2, b3, rfl, hk⟩ := ltAS_inv hF; clear hF
 refine ⟨by kernel_rfl, (hA.nf (nf_rLess11 A k a1 a2 a3 b1 b2 b3) ?_)⟩
 unfold ltA ltP at hk
 simp only at hk
 cases h : decide (a1 < b1) with
 | true => rw [h] at hk; exact hk
 | false =>
  rw [h] at hk
  cases h2 : a1 == b1 with
  | true => rw [h2] at hk; exact hk
  | false => rw [h2] at hk; exact hk
noncomputable def AC1 := base (fun _ => none) (fun g => match g with | 151 => some cmpAS | _ => none) (fun _ => none)
theorem env_AC1 : EnvOk AC1 := env_of (by
 intro g F h
 split at h
 ·cases h; exact ok_cmpAf
 ·cases h) (fun g F h => (by cases h)) (fun g F h => (by cases h))
theorem fn_less11 : FnOk Tryz.prog 108 Tryz.f108 (bodyOf Tryz.f108) := ⟨by kernel_rfl, by kernel_rfl, by kernel_rfl⟩
noncomputable def ff_less11 : Fun := ⟨Tryz.f108.ntmps, 0, Tryz.f108.results.toList, fun _ => none, fun _ => false, fun _ => []⟩
theorem nf_less11 (A : KA Kd) (k : List PV -> Heap Kd -> Prop) (a1 a2 a3 b1 b2 b3 : Int) : evT AC1 ff_less11 A k 400 false [.code (bodyOf Tryz.f108)] (startEnv 9 [.agg [.int .i64 a1, .int .i64 a2, .int .i64 a3], .agg [.int .i64 b1, .int .i64 b2, .int .i64 b3]]) [] = (k [.bool (decide (cmpA (a1, a2, a3) (b1, b2, b3) < 0))] []) := by kernel_rfl
theorem ok_less11 : FunS B 108 ltAS := by
 refine funS_of (N := 9) (f := ff_less11) env_AC1 mixed fn_less11 (by kernel_rfl) (by kernel_rfl) (by kernel_rfl) ltAS_mono ?_
 intro A k ys hA hF
 obtain ⟨a1, a2, a3, b1, b2, b3, rfl, hk⟩ := ltAS_inv hF; clear hF
 refine ⟨by kernel_rfl, (hA.nf (nf_less11 A k a1 a2 a3 b1 b2 b3) ?_)⟩
 rw [cmpA_lt]; exact hk
noncomputable def AC2 := base (fun _ => none) (fun g => match g with | 83 => some ltAS | _ => none) (fun _ => none)
theorem env_AC2 : EnvOk AC2 := env_of (by
 intro g F h
 split at h
 ·cases h; exact ok_rLess11
 ·cases h) (fun g F h => (by cases h)) (fun g F h => (by cases h))
def rWrong11S : SpecS := fun ys Φ => match ys with
 | [x_0] => ∃ (l : List Act3), x_0 = .sl _ e_api_Act l /\ (l.length < 100000) /\ Φ [.agg [.int .i64 (ofE (actsE none 0 l)).1, .int .i64 (ofE (actsE none 0 l)).2.1, .int .i64 (ofE (actsE none 0 l)).2.2]]
 | _ => False
theorem rWrong11S_mono : MonoS rWrong11S := by
 intro ys Φ Ψ h hF
 unfold rWrong11S at hF ⊢
 split at hF
 ·obtain ⟨a0, q0, hp, hk⟩ := hF; exact ⟨a0, q0, hp, h _ hk⟩
 ·exact hF.elim
theorem rWrong11S_inv {ys : List PV} {Φ : List PV -> Prop} (h : rWrong11S ys Φ) : ∃ (l : List Act3), ys = [.sl _ e_api_Act l] /\ (l.length < 100000) /\ Φ [.agg [.int .i64 (ofE (actsE none 0 l)).1, .int .i64 (ofE (actsE none 0 l)).2.1, .int .i64 (ofE (actsE none 0 l)).2.2]] := by
 unfold rWrong11S at h
 split at h
 ·obtain ⟨a0, q0, hz⟩ := h
  subst q0
  exact ⟨a0, rfl, hz⟩
 ·exact h.elim
theorem fn_rWrong11 : FnOk Tryz.prog 25 Tryz.f25 (bodyOf Tryz.f25) := ⟨by kernel_rfl, by kernel_rfl, by kernel_rfl⟩
noncomputable def ff_rWrong11 : Fun := ⟨Tryz.f25.ntmps, 0, Tryz.f25.results.toList, fun i => match i with | 2 => some [0, 2, 3] | _ => none, fun _ => false, fun _ => []⟩
theorem nf_rWrong11_a (A : KA Kd) (k : List PV -> Heap Kd -> Prop) (l : List Act3) : evT AC2 ff_rWrong11 A k 400 false [.code (bodyOf Tryz.f25)] (startEnv 60 [.sl _ e_api_Act l]) [] = (A (td Tryz.f25 2) (envAt 60 [(0, .sl (Int × Int × Int) e_api_Act l), (2, .ptr 0 0), (3, .int .i64 0)]) [.box [.int .i64 0, .int .i64 0, .int .i64 0]]) := by kernel_rfl
theorem nf_rWrong11_b (A : KA Kd) (k : List PV -> Heap Kd -> Prop) (l : List Act3) (i : Int) : evT AC2 ff_rWrong11 A k 400 true (td Tryz.f25 2) (envAt 60 [(0, .sl _ e_api_Act l), (2, .ptr 0 0), (3, .int .i64 i)]) [.box [.int .i64 0, .int .i64 0, .int .i64 0]] = (bif decide (i < (↑l.length : Int)) then (0 <= i /\ i < (↑l.length : Int)) /\ ∀ (y : Int × Int × Int), l[i.toNat]? = some y -> bif decide (y.fst < 0) then k [.agg [.int .i64 18, .int .i64 5, .int .i64 i]] [] else bif decide (y.fst > 255) then k [.agg [.int .i64 18, .int .i64 5, .int .i64 i]] [] else bif decide (y.snd.fst < 0) then k [.agg [.int .i64 18, .int .i64 5, .int .i64 i]] [] else bif decide (y.snd.fst > 255) then k [.agg [.int .i64 18, .int .i64 5, .int .i64 i]] [] else bif y.snd.snd != 1 then bif y.snd.snd != 2 then k [.agg [.int .i64 6, .int .i64 5, .int .i64 i]] [] else bif decide (i > 0) then (0 <= IntKind.i64.wrap (i - 1) /\ IntKind.i64.wrap (i - 1) < (↑l.length : Int)) /\ ∀ (y_1 : Int × Int × Int), l[(IntKind.i64.wrap (i - 1)).toNat]? = some y_1 -> bif !ltA (y_1.fst, y_1.snd.fst, y_1.snd.snd) (y.fst, y.snd.fst, y.snd.snd) then k [.agg [.int .i64 9, .int .i64 5, .int .i64 i]] [] else A (td Tryz.f25 2) (envAt 60 [(0, .sl (Int × Int × Int) e_api_Act l), (2, .ptr 0 0), (3, .int .i64 (IntKind.i64.wrap (i + 1)))]) [.box [.int .i64 0, .int .i64 0, .int .i64 0]] else A (td Tryz.f25 2) (envAt 60 [(0, .sl (Int × Int × Int) e_api_Act l), (2, .ptr 0 0), (3, .int .i64 (IntKind.i64.wrap (i + 1)))]) [.box [.int .i64 0, .int .i64 0, .int .i64 0]] else bif decide (i > 0) then (0 <= IntKind.i64.wrap (i - 1) /\ IntKind.i64.wrap (i - 1) < (↑l.length : Int)) /\ ∀ (y_1 : Int × Int × Int), l[(IntKind.i64.wrap (i - 1)).toNat]? = some y_1 -> bif !ltA (y_1.fst, y_1.snd.fst, y_1.snd.snd) (y.fst, y.snd.fst, y.snd.snd) then k [.agg [.int .i64 9, .int .i64 5, .int .i64 i]] [] else A (td Tryz.f25 2) (envAt 60 [(0, .sl (Int × Int × Int) e_api_Act l), (2, .ptr 0 0), (3, .int .i64 (IntKind.i64.wrap (i + 1)))]) [.box [.int .i64 0, .int .i64 0, .int .i64 0]] else A (td Tryz.f25 2) (envAt 60 [(0, .sl (Int × Int × Int) e_api_Act l), (2, .ptr 0 0), (3, .int .i64 (IntKind.i64.wrap (i + 1)))]) [.box [.int .i64 0, .int .i64 0, .int .i64 0]]
else k [PV.agg [PV.int IntKind.i64 (0 : Int), PV.int IntKind.i64 (0 : Int), PV.int IntKind.i64 (0 : Int)]] []) := by kernel_rfl
theorem ok_rWrong11 : FunS B 25 rWrong11S := by
 refine funS_of (N := 60) (f := ff_rWrong11) env_AC2 mixed fn_rWrong11 (by kernel_rfl) (by kernel_rfl) (by kernel_rfl) rWrong11S_mono ?_
 intro A k ys hA hF
 obtain ⟨l, rfl, hl, hk⟩ := rWrong11S_inv hF; clear hF
 refine ⟨by kernel_rfl, (hA.nf (nf_rWrong11_a A k l) ?_)⟩
 refine down_loop l (fun i => k [.agg [.int .i64 (ofE (actsE (prevA l i) i (l.drop i))).1, .int .i64 (ofE (actsE (prevA l i) i (l.drop i))).2.1, .int .i64 (ofE (actsE (prevA l i) i (l.drop i))).2.2]] [] -> A (td Tryz.f25 2) (envAt 60 [(0, .sl _ e_api_Act l), (2, .ptr 0 0), (3, .int .i64 (i : Int))]) [.box [.int .i64 0, .int .i64 0, .int .i64 0]]) ?_ ?_ 0 (Nat.zero_le _) hk
 ·intro hk
  refine (hA.nf (nf_rWrong11_b A k l _) ?_)
  rw [ilt_false (Nat.lt_irrefl _)]
  rw [List.drop_length] at hk
  have e2 : actsE (prevA l l.length) l.length [] = .nil := by cases prevA l l.length <;> rfl
  rw [e2] at hk; exact hk
 ·intro i y hy ih hk
  have hlt := lt_of_get hy
  refine (hA.nf (nf_rWrong11_b A k l _) ?_)
  rw [ilt_true hlt, cond_true]
  refine get_at hy ?_
  have hprev : prevA l (i + 1) = some y := hy
  rw [drop_cons' hy, actsE_cons] at hk
  have bad : ∀ c : Int, aw1 (prevA l i) y = c -> (c == 0) = false -> k [.agg [.int .i64 c, .int .i64 5, .int .i64 (i : Int)]] [] := by
   intro c h h0
   rw [h, h0] at hk; exact hk
  have bad18 : inA y = false -> k [.agg [.int .i64 18, .int .i64 5, .int .i64 (i : Int)]] [] := fun h => bad 18 (by unfold aw1; rw [h]; rfl) rfl
  cases c1 : decide (y.1 < 0) with
  | true => refine bad18 ?_; rw [decide_eq_true_eq] at c1; rw [Bool.eq_false_iff, Ne, inA_iff]; omega
  | false =>
  cases c2 : decide (y.1 > 255) with
  | true => refine bad18 ?_; rw [decide_eq_true_eq] at c2; rw [Bool.eq_false_iff, Ne, inA_iff]; omega
  | false =>
  cases c3 : decide (y.2.1 < 0) with
  | true => refine bad18 ?_; rw [decide_eq_true_eq] at c3; rw [Bool.eq_false_iff, Ne, inA_iff]; omega
  | false =>
  cases c4 : decide (y.2.1 > 255) with
  | true => refine bad18 ?_; rw [decide_eq_true_eq] at c4; rw [Bool.eq_false_iff, Ne, inA_iff]; omega
  | false =>
  rw [decide_eq_false_iff_not] at c1 c2 c3 c4
  have hin : inA y = true := inA_iff.2 (by omega)
  simp only [cond_false]
  have go : aw1 (prevA l i) y = 0 -> A (td Tryz.f25 2) (envAt 60 [(0, .sl _ e_api_Act l), (2, .ptr 0 0), (3, .int .i64 (IntKind.i64.wrap ((i : Int) + 1)))]) [.box [.int .i64 0, .int .i64 0, .int .i64 0]] := by
   intro h0
   rw [h0] at hk
   rw [wrap_succ (by omega)]
   refine ih ?_
   rw [hprev]; exact hk
  have rest : doesA y.2.2 = true -> bif decide ((i : Int) > (0 : Int)) then ((0 : Int) <= IntKind.i64.wrap ((i : Int) - (1 : Int)) /\ IntKind.i64.wrap ((i : Int) - (1 : Int)) < (l.length : Int)) /\ ∀ (y_1 : Int × Int × Int), l[(IntKind.i64.wrap ((i : Int) - (1 : Int))).toNat]? = some y_1 -> bif !ltA (y_1.fst, y_1.snd.fst, y_1.snd.snd) (y.fst, y.snd.fst, y.snd.snd) then k [PV.agg [PV.int IntKind.i64 (9 : Int), PV.int IntKind.i64 (5 : Int), PV.int IntKind.i64 (i : Int)]] [] else A (td Tryz.f25 2) (envAt 60 [(0, .sl _ e_api_Act l), (2, .ptr 0 0), (3, .int .i64 (IntKind.i64.wrap ((i : Int) + 1)))]) [.box [.int .i64 0, .int .i64 0, .int .i64 0]] else A (td Tryz.f25 2) (envAt 60 [(0, .sl _ e_api_Act l), (2, .ptr 0 0), (3, .int .i64 (IntKind.i64.wrap ((i : Int) + 1)))]) [.box [.int .i64 0, .int .i64 0, .int .i64 0]] := by
   intro hd
   rcases i with _ | i
   ·have d0 : decide (((0 : Nat) : Int) > 0) = false := rfl
    rw [d0, cond_false]
    exact go (by unfold aw1 ordA prevA; rw [hin, hd]; rfl)
   ·obtain ⟨z, hz⟩ : ∃ z, l[i]? = some z := ⟨l[i]'(by omega), List.getElem?_eq_getElem (by omega)⟩
    have hp : prevA l (i + 1) = some z := hz
    have d0 : decide (((i + 1 : Nat) : Int) > 0) = true := decide_eq_true (by omega)
    rw [d0, cond_true]
    refine get_at' (i := i) (by rw [wrap_id _ (by omega) (by omega)]; omega) hz ?_
    have e2 : ltA (z.1, z.2.1, z.2.2) (y.1, y.2.1, y.2.2) = ordA (prevA l (i + 1)) y := by rw [hp]; rfl
    rw [e2]
    cases c3 : ordA (prevA l (i + 1)) y with
    | false => exact bad 9 (by unfold aw1; rw [hin, hd, c3]; rfl) rfl
    | true =>
     rw [Bool.not_true, cond_false]
     exact go (by unfold aw1; rw [hin, hd, c3]; rfl)
  have hne : ∀ v : Int, (y.2.2 != v) = !(y.2.2 == v) := fun _ => rfl
  rw [hne, hne]
  cases d1 : y.2.2 == 1 with
  | true => exact rest (by unfold doesA; rw [d1]; rfl)
  | false =>
   cases d2 : y.2.2 == 2 with
   | true => exact rest (by unfold doesA; rw [d1, d2]; rfl)
   | false => exact bad 6 (by unfold aw1 doesA; rw [hin, d1, d2]; rfl) rfl
def rText11S : SpecS := fun ys Φ => match ys with
 | [x_0] => ∃ (l : List Act3), x_0 = .sl _ e_api_Act l /\ (l.length < 100000 /\ ∀ x, x ∈ l -> inA x = true /\ doesA x.2.2 = true) /\ Φ [.str ⟨(actsB l).toArray⟩]
 | _ => False
theorem rText11S_mono : MonoS rText11S := by
 intro ys Φ Ψ h hF
 unfold rText11S at hF ⊢
 split at hF
 ·obtain ⟨a0, q0, hp, hk⟩ := hF; exact ⟨a0, q0, hp, h _ hk⟩
 ·exact hF.elim
theorem rText11S_inv {ys : List PV} {Φ : List PV -> Prop} (h : rText11S ys Φ) : ∃ (l : List Act3), ys = [.sl _ e_api_Act l] /\ (l.length < 100000 /\ ∀ x, x ∈ l -> inA x = true /\ doesA x.2.2 = true) /\ Φ [.str ⟨(actsB l).toArray⟩] := by
 unfold rText11S at h
 split at h
 ·obtain ⟨a0, q0, hz⟩ := h
  subst q0
  exact ⟨a0, rfl, hz⟩
 ·exact h.elim
theorem fn_rText11 : FnOk Tryz.prog 29 Tryz.f29 (bodyOf Tryz.f29) := ⟨by kernel_rfl, by kernel_rfl, by kernel_rfl⟩
noncomputable def ff_rText11 : Fun := ⟨Tryz.f29.ntmps, 0, Tryz.f29.results.toList, fun i => match i with | 3 => some [0, 3, 4] | _ => none, fun _ => false, fun _ => []⟩
theorem nf_rText11_a (A : KA Kd) (k : List PV -> Heap Kd -> Prop) (l : List Act3) : evT AC2 ff_rText11 A k 400 false [.code (bodyOf Tryz.f29)] (startEnv 34 [.sl _ e_api_Act l]) [] = (A (td Tryz.f29 3) (envAt 34 [(0, .sl (Int × Int × Int) e_api_Act l), (3, .str ⟨#[]⟩), (4, .int .i64 0)]) []) := by kernel_rfl
theorem nf_rText11_b (A : KA Kd) (k : List PV -> Heap Kd -> Prop) (l : List Act3) (s : ByteArray) (i : Int) : evT AC2 ff_rText11 A k 400 true (td Tryz.f29 3) (envAt 34 [(0, .sl _ e_api_Act l), (3, .str s), (4, .int .i64 i)]) [] = (bif decide (i < (↑l.length : Int)) then (0 <= i /\ i < (↑l.length : Int)) /\ ∀ (y : Int × Int × Int), l[i.toNat]? = some y -> (0 <= i /\ i < (↑l.length : Int)) /\ ∀ (y_1 : Int × Int × Int), l[i.toNat]? = some y_1 -> (0 <= i /\ i < (↑l.length : Int)) /\ ∀ (y_2 : Int × Int × Int), l[i.toNat]? = some y_2 -> ∃ (zs : List UInt8), List.map e_uint8 zs = [PV.int IntKind.u8 (IntKind.u8.wrap y.fst), PV.int IntKind.u8 (IntKind.u8.wrap y_1.snd.fst), PV.int IntKind.u8 (IntKind.u8.wrap y_2.snd.snd)] /\ (∀ (y : UInt8), y ∈ zs -> isU8 (e_uint8 y) = true) /\ s.size + (strPV (List.map e_uint8 zs)).size <= 9223372036854775807 /\ A (td Tryz.f29 3) (envAt 34 [(0, .sl (Int × Int × Int) e_api_Act l), (3, .str (s ++ strPV (List.map e_uint8 zs))), (4, .int .i64 (IntKind.i64.wrap (i + 1)))]) []
else k [PV.str s] []) := by kernel_rfl
theorem one_cell {v : Int} (h0 : 0 <= v) (h1 : v < 256) : (beL 1 v.toNat).map e_uint8 = [PV.int IntKind.u8 (IntKind.u8.wrap v)] := by
 show [PV.int IntKind.u8 (((UInt8.ofNat (v.toNat / 256 ^ 0 % 256)).toNat : Nat) : Int)] = _
 rw [UInt8.toNat_ofNat', IntKind.wrap_u8, Nat.pow_zero, Nat.div_one]
 have : ((v.toNat % 256 % 2 ^ 8 : Nat) : Int) = v % 256 := by
  rw [show (2 : Nat) ^ 8 = 256 from rfl]; omega
 rw [this]
theorem ok_rText11 : FunS B 29 rText11S := by
 refine funS_of (N := 34) (f := ff_rText11) env_AC2 mixed fn_rText11 (by kernel_rfl) (by kernel_rfl) (by kernel_rfl) rText11S_mono ?_
 intro A k ys hA hF
 obtain ⟨l, rfl, ⟨hl, hw⟩, hk⟩ := rText11S_inv hF; clear hF
 refine ⟨by kernel_rfl, (hA.nf (nf_rText11_a A k l) ?_)⟩
 have key := down_loop l (fun i => ∀ t : List UInt8, t.length + 3 * (l.length - i) <= 1000000 -> k [.str ⟨(t ++ actsB (l.drop i)).toArray⟩] [] -> A (td Tryz.f29 3) (envAt 34 [(0, .sl _ e_api_Act l), (3, .str ⟨t.toArray⟩), (4, .int .i64 (i : Int))]) []) ?_ ?_ 0 (Nat.zero_le _)
 ·exact key [] (by show 0 + 3 * (l.length - 0) <= 1000000; omega) hk
 ·intro t _ hk
  refine (hA.nf (nf_rText11_b A k l _ _) ?_)
  rw [ilt_false (Nat.lt_irrefl _)]
  rw [List.drop_length, actsB, List.append_nil] at hk; exact hk
 ·intro i y hy ih t ht hk
  have hlt := lt_of_get hy
  refine (hA.nf (nf_rText11_b A k l _ _) ?_)
  rw [ilt_true hlt, cond_true]
  obtain ⟨hin, hdo⟩ := hw y (List.mem_of_getElem? hy)
  obtain ⟨⟨i1, i2⟩, j1, j2⟩ := inA_iff.1 hin
  have hd := doesA_iff.1 hdo
  have ms : ∀ l : List UInt8, (ByteArray.mk l.toArray).size = l.length := mk_size
  have ap : ∀ l m : List UInt8, ByteArray.mk l.toArray ++ ByteArray.mk m.toArray = ByteArray.mk (l ++ m).toArray := fun l m => by
   apply ByteArray.ext; apply Array.ext'; simp
  refine get_at hy (get_at hy (get_at hy ⟨actB y, ?_, fun _ _ => rfl, ?_⟩))
  ·unfold actB
   rw [List.map_append, List.map_append, one_cell i1 (by omega), one_cell j1 (by omega), one_cell (v := y.2.2) (by omega) (by omega)]; rfl
  ·rw [strPV_e, ap, ms, ms, actB_len, wrap_succ (by omega)]
   refine ⟨by omega, ih _ (by rw [List.length_append, actB_len]; omega) ?_⟩
   have e : t ++ actB y ++ actsB (l.drop (i + 1)) = t ++ actsB (l.drop i) := by
    rw [drop_cons' hy, actsB, List.append_assoc]
   rw [e]; exact hk
def rSame11S : SpecS := fun ys Φ => match ys with
 | [x_0, x_1] => ∃ (l : List Act3), ∃ (m : List Act3), x_0 = .sl _ e_api_Act l /\ x_1 = .sl _ e_api_Act m /\ (l.length < 4611686018427387904) /\ Φ [.bool (decide (l = m))]
 | _ => False
theorem rSame11S_mono : MonoS rSame11S := by
 intro ys Φ Ψ h hF
 unfold rSame11S at hF ⊢
 split at hF
 ·obtain ⟨a0, a1, q0, q1, hp, hk⟩ := hF; exact ⟨a0, a1, q0, q1, hp, h _ hk⟩
 ·exact hF.elim
theorem rSame11S_inv {ys : List PV} {Φ : List PV -> Prop} (h : rSame11S ys Φ) : ∃ (l : List Act3) (m : List Act3), ys = [.sl _ e_api_Act l, .sl _ e_api_Act m] /\ (l.length < 4611686018427387904) /\ Φ [.bool (decide (l = m))] := by
 unfold rSame11S at h
 split at h
 ·obtain ⟨a0, a1, q0, q1, hz⟩ := h
  subst q0
  subst q1
  exact ⟨a0, a1, rfl, hz⟩
 ·exact h.elim
theorem fn_rSame11 : FnOk Tryz.prog 47 Tryz.f47 (bodyOf Tryz.f47) := ⟨by kernel_rfl, by kernel_rfl, by kernel_rfl⟩
noncomputable def ff_rSame11 : Fun := ⟨Tryz.f47.ntmps, 0, Tryz.f47.results.toList, fun i => match i with | 4 => some [0, 1, 5] | _ => none, fun _ => false, fun _ => []⟩
theorem nf_rSame11_a (A : KA Kd) (k : List PV -> Heap Kd -> Prop) (l m : List Act3) : evT AC2 ff_rSame11 A k 400 false [.code (bodyOf Tryz.f47)] (startEnv 26 [.sl _ e_api_Act l, .sl _ e_api_Act m]) [] = (bif (↑l.length : Int) != (↑m.length : Int) then k [.bool false] []
else A (td Tryz.f47 (4 : Nat)) (envAt (26 : Nat) [((0 : Nat), PV.sl (Int × Int × Int) e_api_Act l), ((1 : Nat), PV.sl (Int × Int × Int) e_api_Act m), ((5 : Nat), PV.int IntKind.i64 (0 : Int))]) []) := by kernel_rfl
theorem nf_rSame11_b (A : KA Kd) (k : List PV -> Heap Kd -> Prop) (l m : List Act3) (i : Int) : evT AC2 ff_rSame11 A k 400 true (td Tryz.f47 4) (envAt 26 [(0, .sl _ e_api_Act l), (1, .sl _ e_api_Act m), (5, .int .i64 i)]) [] = (bif decide (i < (↑l.length : Int)) then (0 <= i /\ i < (↑l.length : Int)) /\ ∀ (y : Int × Int × Int), l[i.toNat]? = some y -> (0 <= i /\ i < (↑m.length : Int)) /\ ∀ (y_1 : Int × Int × Int), m[i.toNat]? = some y_1 -> bif !(y.fst == y_1.fst && (y.snd.fst == y_1.snd.fst && (y.snd.snd == y_1.snd.snd && true))) then k [.bool false] [] else A (td Tryz.f47 4) (envAt 26 [(0, .sl (Int × Int × Int) e_api_Act l), (1, .sl (Int × Int × Int) e_api_Act m), (5, .int .i64 (IntKind.i64.wrap (i + 1)))]) []
else k [PV.bool true] []) := by kernel_rfl
theorem ok_rSame11 : FunS B 47 rSame11S := by
 refine funS_of (N := 26) (f := ff_rSame11) env_AC2 mixed fn_rSame11 (by kernel_rfl) (by kernel_rfl) (by kernel_rfl) rSame11S_mono ?_
 intro A k ys hA hF
 obtain ⟨l, m, rfl, hl, hk⟩ := rSame11S_inv hF; clear hF
 refine ⟨by kernel_rfl, (hA.nf (nf_rSame11_a A k l m) ?_)⟩
 cases c : ((l.length : Int) != (m.length : Int)) with
 | true =>
  have : decide (l = m) = false := decide_eq_false fun h => by rw [h, bne_self_eq_false] at c; cases c
  rw [this] at hk; exact hk
 | false =>
 have hlm : l.length = m.length := by
  have : ((l.length : Int) == (m.length : Int)) = true := by rw [<- Bool.not_eq_false']; exact c
  rw [beq_iff_eq] at this; omega
 rw [cond_false]
 refine down_loop l (fun i => k [.bool (decide (l.drop i = m.drop i))] [] -> A (td Tryz.f47 4) (envAt 26 [(0, .sl _ e_api_Act l), (1, .sl _ e_api_Act m), (5, .int .i64 (i : Int))]) []) ?_ ?_ 0 (Nat.zero_le _) hk
 ·intro hk
  refine (hA.nf (nf_rSame11_b A k l m _) ?_)
  rw [ilt_false (Nat.lt_irrefl _)]
  have : decide (l.drop l.length = m.drop l.length) = true := decide_eq_true (by rw [List.drop_length, hlm, List.drop_length])
  rw [this] at hk; exact hk
 ·intro i y hy ih hk
  have hlt := lt_of_get hy
  obtain ⟨z, hz⟩ : ∃ z, m[i]? = some z := ⟨m[i]'(by omega), List.getElem?_eq_getElem (by omega)⟩
  refine (hA.nf (nf_rSame11_b A k l m _) ?_)
  rw [ilt_true hlt, cond_true]
  refine get_at hy (get_at hz ?_)
  rw [drop_cons' hy, drop_cons' hz] at hk
  rw [wrap_succ (by omega)]
  cases c1 : y.1 == z.1 with
  | false =>
   have : decide (y :: l.drop (i + 1) = z :: m.drop (i + 1)) = false := decide_eq_false fun h => by
    rw [List.cons.injEq] at h; rw [h.1, beq_self_eq_true] at c1; cases c1
   rw [this] at hk; exact hk
  | true =>
  cases c2 : y.2.1 == z.2.1 with
  | false =>
   have : decide (y :: l.drop (i + 1) = z :: m.drop (i + 1)) = false := decide_eq_false fun h => by
    rw [List.cons.injEq] at h; rw [h.1, beq_self_eq_true] at c2; cases c2
   rw [this] at hk; exact hk
  | true =>
  cases c3 : y.2.2 == z.2.2 with
  | false =>
   have : decide (y :: l.drop (i + 1) = z :: m.drop (i + 1)) = false := decide_eq_false fun h => by
    rw [List.cons.injEq] at h; rw [h.1, beq_self_eq_true] at c3; cases c3
   rw [this] at hk; exact hk
  | true =>
   have hyz : y = z := Prod.ext (eq_of_beq c1) (Prod.ext (eq_of_beq c2) (eq_of_beq c3))
   refine ih ?_
   have : decide (y :: l.drop (i + 1) = z :: m.drop (i + 1)) = decide (l.drop (i + 1) = m.drop (i + 1)) := by rw [hyz]; simp
   rw [this] at hk; exact hk
end Go.Ab.T
