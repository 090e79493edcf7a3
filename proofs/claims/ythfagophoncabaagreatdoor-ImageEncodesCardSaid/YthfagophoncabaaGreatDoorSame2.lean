import Derived.Test.YthfagophoncabaaGreatDoorImg2
import Derived.Test.YthfagophoncabaaGreatDoorMaB
set_option linter.unusedVariables false
set_option linter.unusedSimpArgs false
set_option linter.unusedSectionVars false
namespace Go.Ab.T
open Go Go.Ab Go.Proofs
set_option maxRecDepth 100000
set_option maxHeartbeats 4000000
noncomputable def SE0 := base (fun _ => none) (fun _ => none) (fun _ => none)
theorem env_SE0 : EnvOk SE0 := env_of (fun g F h => (by cases h)) (fun g F h => (by cases h)) (fun g F h => (by cases h))
def eqCellS : SpecS := fun ys Φ => match ys with
 | [x_0, x_1] => ∃ (l : List Cl), ∃ (m : List Cl), x_0 = .sl _ e_api_Cell l /\ x_1 = .sl _ e_api_Cell m /\ (l.length < 4611686018427387904) /\ Φ [.bool (decide (l = m))]
 | _ => False
theorem eqCellS_mono : MonoS eqCellS := by
 intro ys Φ Ψ h hF
 unfold eqCellS at hF ⊢
 split at hF
 ·obtain ⟨a0, a1, q0, q1, hp, hk⟩ := hF; exact ⟨a0, a1, q0, q1, hp, h _ hk⟩
 ·exact hF.elim
theorem eqCellS_inv {ys : List PV} {Φ : List PV -> Prop} (h : eqCellS ys Φ) : ∃ (l : List Cl) (m : List Cl), ys = [.sl _ e_api_Cell l, .sl _ e_api_Cell m] /\ (l.length < 4611686018427387904) /\ Φ [.bool (decide (l = m))] := by
 unfold eqCellS at h
 split at h
 ·obtain ⟨a0, a1, q0, q1, hz⟩ := h
  subst q0
  subst q1
  exact ⟨a0, a1, rfl, hz⟩
 ·exact h.elim
theorem fn_eqCell : FnOk Tryz.prog 137 Tryz.f137 (bodyOf Tryz.f137) := ⟨by kernel_rfl, by kernel_rfl, by kernel_rfl⟩
noncomputable def ff_eqCell : Fun := ⟨Tryz.f137.ntmps, 0, Tryz.f137.results.toList, fun i => match i with | 4 => some [0, 1, 12, 13] | _ => none, fun _ => false, fun _ => []⟩
theorem nf_eqCell_a (A : KA Kd) (k : List PV -> Heap Kd -> Prop) (l m : List Cl) : evT SE0 ff_eqCell A k 400 false [.code (bodyOf Tryz.f137)] (startEnv 26 [.sl _ e_api_Cell l, .sl _ e_api_Cell m]) [] = (bif (↑l.length : Int) != (↑m.length : Int) then k [.bool false] []
else A (td Tryz.f137 (4 : Nat)) (envAt (26 : Nat) [((0 : Nat), PV.sl (Int × Bool) e_api_Cell l), ((1 : Nat), PV.sl (Int × Bool) e_api_Cell m), ((12 : Nat), PV.int IntKind.i64 (↑l.length : Int)), ((13 : Nat), PV.int IntKind.i64 (0 : Int))]) []) := by kernel_rfl
theorem nf_eqCell_b (A : KA Kd) (k : List PV -> Heap Kd -> Prop) (l m : List Cl) (n i : Int) : evT SE0 ff_eqCell A k 400 true (td Tryz.f137 4) (envAt 26 [(0, .sl _ e_api_Cell l), (1, .sl _ e_api_Cell m), (12, .int .i64 (n)), (13, .int .i64 (i))]) [] = (bif decide (i < n) then (0 <= i /\ i < (↑l.length : Int)) /\ ∀ (y : Int × Bool), l[i.toNat]? = some y -> (0 <= i /\ i < (↑m.length : Int)) /\ ∀ (y_1 : Int × Bool), m[i.toNat]? = some y_1 -> bif !(y.fst == y_1.fst && (y.snd == y_1.snd && true)) then k [.bool false] [] else A (td Tryz.f137 4) (envAt 26 [(0, .sl (Int × Bool) e_api_Cell l), (1, .sl (Int × Bool) e_api_Cell m), (12, .int .i64 n), (13, .int .i64 (IntKind.i64.wrap (i + 1)))]) []
else k [PV.bool true] []) := by kernel_rfl
theorem ok_eqCell : FunS B 137 eqCellS := by
 refine funS_of (N := 26) (f := ff_eqCell) env_SE0 mixed fn_eqCell (by kernel_rfl) (by kernel_rfl) (by kernel_rfl) eqCellS_mono ?_
 intro A k ys hA hF
 obtain ⟨l, m, rfl, hl, hk⟩ := eqCellS_inv hF; clear hF
 refine ⟨by kernel_rfl, (hA.nf (nf_eqCell_a A k l m) ?_)⟩
 cases c : ((l.length : Int) != (m.length : Int)) with
 | true => rw [decide_eq_false (len_ne c)] at hk; exact hk
 | false =>
 have hlm := len_eq c
 rw [cond_false]
 refine same_loop l m hlm (fun i => A (td Tryz.f137 4) (envAt 26 [(0, .sl _ e_api_Cell l), (1, .sl _ e_api_Cell m), (12, .int .i64 ((l.length : Nat))), (13, .int .i64 ((i : Nat)))]) []) (fun b => k [.bool b] []) hk ?_ ?_
 ·intro hk
  refine (hA.nf (nf_eqCell_b A k l m _ _) ?_)
  rw [ilt_false (Nat.lt_irrefl _)]; exact hk
 ·intro i y z hy hz ih hno
  have hlt := lt_of_get hy
  refine (hA.nf (nf_eqCell_b A k l m _ _) ?_)
  rw [ilt_true hlt, cond_true]
  refine get_at hy (get_at hz ?_)
  rw [wrap_succ (by omega)]
  by_cases e : y = z
  ·subst e
   simp only [beq_self_eq_true, Bool.and_self, Bool.not_true, cond_false]
   exact ih rfl
  ·have hb : (y.1 == z.1 && (y.2 == z.2 && true)) = false := by
    rw [<- Bool.not_eq_true]
    intro h
    simp only [Bool.and_eq_true, beq_iff_eq, and_true] at h
    exact e (Prod.ext h.1 h.2)
   rw [hb, Bool.not_false, cond_true]
   exact hno e
def eqWindowS : SpecS := fun ys Φ => match ys with
 | [x_0, x_1] => ∃ (l : List W3), ∃ (m : List W3), x_0 = .sl _ e_api_Window l /\ x_1 = .sl _ e_api_Window m /\ (l.length < 4611686018427387904) /\ Φ [.bool (decide (l = m))]
 | _ => False
theorem eqWindowS_mono : MonoS eqWindowS := by
 intro ys Φ Ψ h hF
 unfold eqWindowS at hF ⊢
 split at hF
 ·obtain ⟨a0, a1, q0, q1, hp, hk⟩ := hF; exact ⟨a0, a1, q0, q1, hp, h _ hk⟩
 ·exact hF.elim
theorem eqWindowS_inv {ys : List PV} {Φ : List PV -> Prop} (h : eqWindowS ys Φ) : ∃ (l : List W3) (m : List W3), ys = [.sl _ e_api_Window l, .sl _ e_api_Window m] /\ (l.length < 4611686018427387904) /\ Φ [.bool (decide (l = m))] := by
 unfold eqWindowS at h
 split at h
 ·obtain ⟨a0, a1, q0, q1, hz⟩ := h
  subst q0
  subst q1
  exact ⟨a0, a1, rfl, hz⟩
 ·exact h.elim
theorem fn_eqWindow : FnOk Tryz.prog 138 Tryz.f138 (bodyOf Tryz.f138) := ⟨by kernel_rfl, by kernel_rfl, by kernel_rfl⟩
noncomputable def ff_eqWindow : Fun := ⟨Tryz.f138.ntmps, 0, Tryz.f138.results.toList, fun i => match i with | 4 => some [0, 1, 12, 13] | _ => none, fun _ => false, fun _ => []⟩
theorem nf_eqWindow_a (A : KA Kd) (k : List PV -> Heap Kd -> Prop) (l m : List W3) : evT SE0 ff_eqWindow A k 400 false [.code (bodyOf Tryz.f138)] (startEnv 26 [.sl _ e_api_Window l, .sl _ e_api_Window m]) [] = (bif (↑l.length : Int) != (↑m.length : Int) then k [.bool false] []
else A (td Tryz.f138 (4 : Nat)) (envAt (26 : Nat) [((0 : Nat), PV.sl (Int × Int × Int) e_api_Window l), ((1 : Nat), PV.sl (Int × Int × Int) e_api_Window m), ((12 : Nat), PV.int IntKind.i64 (↑l.length : Int)), ((13 : Nat), PV.int IntKind.i64 (0 : Int))]) []) := by kernel_rfl
theorem nf_eqWindow_b (A : KA Kd) (k : List PV -> Heap Kd -> Prop) (l m : List W3) (n i : Int) : evT SE0 ff_eqWindow A k 400 true (td Tryz.f138 4) (envAt 26 [(0, .sl _ e_api_Window l), (1, .sl _ e_api_Window m), (12, .int .i64 (n)), (13, .int .i64 (i))]) [] = (bif decide (i < n) then (0 <= i /\ i < (↑l.length : Int)) /\ ∀ (y : Int × Int × Int), l[i.toNat]? = some y -> (0 <= i /\ i < (↑m.length : Int)) /\ ∀ (y_1 : Int × Int × Int), m[i.toNat]? = some y_1 -> bif !(y.fst == y_1.fst && (y.snd.fst == y_1.snd.fst && (y.snd.snd == y_1.snd.snd && true))) then k [.bool false] [] else A (td Tryz.f138 4) (envAt 26 [(0, .sl (Int × Int × Int) e_api_Window l), (1, .sl (Int × Int × Int) e_api_Window m), (12, .int .i64 n), (13, .int .i64 (IntKind.i64.wrap (i + 1)))]) []
else k [PV.bool true] []) := by kernel_rfl
theorem ok_eqWindow : FunS B 138 eqWindowS := by
 refine funS_of (N := 26) (f := ff_eqWindow) env_SE0 mixed fn_eqWindow (by kernel_rfl) (by kernel_rfl) (by kernel_rfl) eqWindowS_mono ?_
 intro A k ys hA hF
 obtain ⟨l, m, rfl, hl, hk⟩ := eqWindowS_inv hF; clear hF
 refine ⟨by kernel_rfl, (hA.nf (nf_eqWindow_a A k l m) ?_)⟩
 cases c : ((l.length : Int) != (m.length : Int)) with
 | true => rw [decide_eq_false (len_ne c)] at hk; exact hk
 | false =>
 have hlm := len_eq c
 rw [cond_false]
 refine same_loop l m hlm (fun i => A (td Tryz.f138 4) (envAt 26 [(0, .sl _ e_api_Window l), (1, .sl _ e_api_Window m), (12, .int .i64 ((l.length : Nat))), (13, .int .i64 ((i : Nat)))]) []) (fun b => k [.bool b] []) hk ?_ ?_
 ·intro hk
  refine (hA.nf (nf_eqWindow_b A k l m _ _) ?_)
  rw [ilt_false (Nat.lt_irrefl _)]; exact hk
 ·intro i y z hy hz ih hno
  have hlt := lt_of_get hy
  refine (hA.nf (nf_eqWindow_b A k l m _ _) ?_)
  rw [ilt_true hlt, cond_true]
  refine get_at hy (get_at hz ?_)
  rw [wrap_succ (by omega)]
  by_cases e : y = z
  ·subst e
   simp only [beq_self_eq_true, Bool.and_self, Bool.not_true, cond_false]
   exact ih rfl
  ·have hb : (y.1 == z.1 && (y.2.1 == z.2.1 && (y.2.2 == z.2.2 && true))) = false := by
    rw [<- Bool.not_eq_true]
    intro h
    simp only [Bool.and_eq_true, beq_iff_eq, and_true] at h
    exact e (Prod.ext h.1 (Prod.ext h.2.1 h.2.2))
   rw [hb, Bool.not_false, cond_true]
   exact hno e
def eqNeedS : SpecS := fun ys Φ => match ys with
 | [x_0, x_1] => ∃ (l : List W3), ∃ (m : List W3), x_0 = .sl _ e_api_Need l /\ x_1 = .sl _ e_api_Need m /\ (l.length < 4611686018427387904) /\ Φ [.bool (decide (l = m))]
 | _ => False
theorem eqNeedS_mono : MonoS eqNeedS := by
 intro ys Φ Ψ h hF
 unfold eqNeedS at hF ⊢
 split at hF
 ·obtain ⟨a0, a1, q0, q1, hp, hk⟩ := hF; exact ⟨a0, a1, q0, q1, hp, h _ hk⟩
 ·exact hF.elim
theorem eqNeedS_inv {ys : List PV} {Φ : List PV -> Prop} (h : eqNeedS ys Φ) : ∃ (l : List W3) (m : List W3), ys = [.sl _ e_api_Need l, .sl _ e_api_Need m] /\ (l.length < 4611686018427387904) /\ Φ [.bool (decide (l = m))] := by
 unfold eqNeedS at h
 split at h
 ·obtain ⟨a0, a1, q0, q1, hz⟩ := h
  subst q0
  subst q1
  exact ⟨a0, a1, rfl, hz⟩
 ·exact h.elim
theorem fn_eqNeed : FnOk Tryz.prog 139 Tryz.f139 (bodyOf Tryz.f139) := ⟨by kernel_rfl, by kernel_rfl, by kernel_rfl⟩
noncomputable def ff_eqNeed : Fun := ⟨Tryz.f139.ntmps, 0, Tryz.f139.results.toList, fun i => match i with | 4 => some [0, 1, 12, 13] | _ => none, fun _ => false, fun _ => []⟩
theorem nf_eqNeed_a (A : KA Kd) (k : List PV -> Heap Kd -> Prop) (l m : List W3) : evT SE0 ff_eqNeed A k 400 false [.code (bodyOf Tryz.f139)] (startEnv 26 [.sl _ e_api_Need l, .sl _ e_api_Need m]) [] = (bif (↑l.length : Int) != (↑m.length : Int) then k [.bool false] []
else A (td Tryz.f139 (4 : Nat)) (envAt (26 : Nat) [((0 : Nat), PV.sl (Int × Int × Int) e_api_Need l), ((1 : Nat), PV.sl (Int × Int × Int) e_api_Need m), ((12 : Nat), PV.int IntKind.i64 (↑l.length : Int)), ((13 : Nat), PV.int IntKind.i64 (0 : Int))]) []) := by kernel_rfl
theorem nf_eqNeed_b (A : KA Kd) (k : List PV -> Heap Kd -> Prop) (l m : List W3) (n i : Int) : evT SE0 ff_eqNeed A k 400 true (td Tryz.f139 4) (envAt 26 [(0, .sl _ e_api_Need l), (1, .sl _ e_api_Need m), (12, .int .i64 (n)), (13, .int .i64 (i))]) [] = (bif decide (i < n) then (0 <= i /\ i < (↑l.length : Int)) /\ ∀ (y : Int × Int × Int), l[i.toNat]? = some y -> (0 <= i /\ i < (↑m.length : Int)) /\ ∀ (y_1 : Int × Int × Int), m[i.toNat]? = some y_1 -> bif !(y.fst == y_1.fst && (y.snd.fst == y_1.snd.fst && (y.snd.snd == y_1.snd.snd && true))) then k [.bool false] [] else A (td Tryz.f139 4) (envAt 26 [(0, .sl (Int × Int × Int) e_api_Need l), (1, .sl (Int × Int × Int) e_api_Need m), (12, .int .i64 n), (13, .int .i64 (IntKind.i64.wrap (i + 1)))]) []
else k [PV.bool true] []) := by kernel_rfl
theorem ok_eqNeed : FunS B 139 eqNeedS := by
 refine funS_of (N := 26) (f := ff_eqNeed) env_SE0 mixed fn_eqNeed (by kernel_rfl) (by kernel_rfl) (by kernel_rfl) eqNeedS_mono ?_
 intro A k ys hA hF
 obtain ⟨l, m, rfl, hl, hk⟩ := eqNeedS_inv hF; clear hF
 refine ⟨by kernel_rfl, (hA.nf (nf_eqNeed_a A k l m) ?_)⟩
 cases c : ((l.length : Int) != (m.length : Int)) with
 | true => rw [decide_eq_false (len_ne c)] at hk; exact hk
 | false =>
 have hlm := len_eq c
 rw [cond_false]
 refine same_loop l m hlm (fun i => A (td Tryz.f139 4) (envAt 26 [(0, .sl _ e_api_Need l), (1, .sl _ e_api_Need m), (12, .int .i64 ((l.length : Nat))), (13, .int .i64 ((i : Nat)))]) []) (fun b => k [.bool b] []) hk ?_ ?_
 ·intro hk
  refine (hA.nf (nf_eqNeed_b A k l m _ _) ?_)
  rw [ilt_false (Nat.lt_irrefl _)]; exact hk
 ·intro i y z hy hz ih hno
  have hlt := lt_of_get hy
  refine (hA.nf (nf_eqNeed_b A k l m _ _) ?_)
  rw [ilt_true hlt, cond_true]
  refine get_at hy (get_at hz ?_)
  rw [wrap_succ (by omega)]
  by_cases e : y = z
  ·subst e
   simp only [beq_self_eq_true, Bool.and_self, Bool.not_true, cond_false]
   exact ih rfl
  ·have hb : (y.1 == z.1 && (y.2.1 == z.2.1 && (y.2.2 == z.2.2 && true))) = false := by
    rw [<- Bool.not_eq_true]
    intro h
    simp only [Bool.and_eq_true, beq_iff_eq, and_true] at h
    exact e (Prod.ext h.1 (Prod.ext h.2.1 h.2.2))
   rw [hb, Bool.not_false, cond_true]
   exact hno e
def eqPairS : SpecS := fun ys Φ => match ys with
 | [x_0, x_1] => ∃ (l : List Pr), ∃ (m : List Pr), x_0 = .sl _ e_api_Pair l /\ x_1 = .sl _ e_api_Pair m /\ (l.length < 4611686018427387904) /\ Φ [.bool (decide (l = m))]
 | _ => False
theorem eqPairS_mono : MonoS eqPairS := by
 intro ys Φ Ψ h hF
 unfold eqPairS at hF ⊢
 split at hF
 ·obtain ⟨a0, a1, q0, q1, hp, hk⟩ := hF; exact ⟨a0, a1, q0, q1, hp, h _ hk⟩
 ·exact hF.elim
theorem eqPairS_inv {ys : List PV} {Φ : List PV -> Prop} (h : eqPairS ys Φ) : ∃ (l : List Pr) (m : List Pr), ys = [.sl _ e_api_Pair l, .sl _ e_api_Pair m] /\ (l.length < 4611686018427387904) /\ Φ [.bool (decide (l = m))] := by
 unfold eqPairS at h
 split at h
 ·obtain ⟨a0, a1, q0, q1, hz⟩ := h
  subst q0
  subst q1
  exact ⟨a0, a1, rfl, hz⟩
 ·exact h.elim
theorem fn_eqPair : FnOk Tryz.prog 73 Tryz.f73 (bodyOf Tryz.f73) := ⟨by kernel_rfl, by kernel_rfl, by kernel_rfl⟩
noncomputable def ff_eqPair : Fun := ⟨Tryz.f73.ntmps, 0, Tryz.f73.results.toList, fun i => match i with | 4 => some [0, 1, 12, 13] | _ => none, fun _ => false, fun _ => []⟩
theorem nf_eqPair_a (A : KA Kd) (k : List PV -> Heap Kd -> Prop) (l m : List Pr) : evT SE0 ff_eqPair A k 400 false [.code (bodyOf Tryz.f73)] (startEnv 26 [.sl _ e_api_Pair l, .sl _ e_api_Pair m]) [] = (bif (↑l.length : Int) != (↑m.length : Int) then k [.bool false] []
else A (td Tryz.f73 (4 : Nat)) (envAt (26 : Nat) [((0 : Nat), PV.sl (Int × Int) e_api_Pair l), ((1 : Nat), PV.sl (Int × Int) e_api_Pair m), ((12 : Nat), PV.int IntKind.i64 (↑l.length : Int)), ((13 : Nat), PV.int IntKind.i64 (0 : Int))]) []) := by kernel_rfl
theorem nf_eqPair_b (A : KA Kd) (k : List PV -> Heap Kd -> Prop) (l m : List Pr) (n i : Int) : evT SE0 ff_eqPair A k 400 true (td Tryz.f73 4) (envAt 26 [(0, .sl _ e_api_Pair l), (1, .sl _ e_api_Pair m), (12, .int .i64 (n)), (13, .int .i64 (i))]) [] = (bif decide (i < n) then (0 <= i /\ i < (↑l.length : Int)) /\ ∀ (y : Int × Int), l[i.toNat]? = some y -> (0 <= i /\ i < (↑m.length : Int)) /\ ∀ (y_1 : Int × Int), m[i.toNat]? = some y_1 -> bif !(y.fst == y_1.fst && (y.snd == y_1.snd && true)) then k [.bool false] [] else A (td Tryz.f73 4) (envAt 26 [(0, .sl (Int × Int) e_api_Pair l), (1, .sl (Int × Int) e_api_Pair m), (12, .int .i64 n), (13, .int .i64 (IntKind.i64.wrap (i + 1)))]) []
else k [PV.bool true] []) := by kernel_rfl
theorem ok_eqPair : FunS B 73 eqPairS := by
 refine funS_of (N := 26) (f := ff_eqPair) env_SE0 mixed fn_eqPair (by kernel_rfl) (by kernel_rfl) (by kernel_rfl) eqPairS_mono ?_
 intro A k ys hA hF
 obtain ⟨l, m, rfl, hl, hk⟩ := eqPairS_inv hF; clear hF
 refine ⟨by kernel_rfl, (hA.nf (nf_eqPair_a A k l m) ?_)⟩
 cases c : ((l.length : Int) != (m.length : Int)) with
 | true => rw [decide_eq_false (len_ne c)] at hk; exact hk
 | false =>
 have hlm := len_eq c
 rw [cond_false]
 refine same_loop l m hlm (fun i => A (td Tryz.f73 4) (envAt 26 [(0, .sl _ e_api_Pair l), (1, .sl _ e_api_Pair m), (12, .int .i64 ((l.length : Nat))), (13, .int .i64 ((i : Nat)))]) []) (fun b => k [.bool b] []) hk ?_ ?_
 ·intro hk
  refine (hA.nf (nf_eqPair_b A k l m _ _) ?_)
  rw [ilt_false (Nat.lt_irrefl _)]; exact hk
 ·intro i y z hy hz ih hno
  have hlt := lt_of_get hy
  refine (hA.nf (nf_eqPair_b A k l m _ _) ?_)
  rw [ilt_true hlt, cond_true]
  refine get_at hy (get_at hz ?_)
  rw [wrap_succ (by omega)]
  by_cases e : y = z
  ·subst e
   simp only [beq_self_eq_true, Bool.and_self, Bool.not_true, cond_false]
   exact ih rfl
  ·have hb : (y.1 == z.1 && (y.2 == z.2 && true)) = false := by
    rw [<- Bool.not_eq_true]
    intro h
    simp only [Bool.and_eq_true, beq_iff_eq, and_true] at h
    exact e (Prod.ext h.1 h.2)
   rw [hb, Bool.not_false, cond_true]
   exact hno e
def eqActS : SpecS := fun ys Φ => match ys with
 | [x_0, x_1] => ∃ (l : List Act3), ∃ (m : List Act3), x_0 = .sl _ e_api_Act l /\ x_1 = .sl _ e_api_Act m /\ (l.length < 4611686018427387904) /\ Φ [.bool (decide (l = m))]
 | _ => False
theorem eqActS_mono : MonoS eqActS := by
 intro ys Φ Ψ h hF
 unfold eqActS at hF ⊢
 split at hF
 ·obtain ⟨a0, a1, q0, q1, hp, hk⟩ := hF; exact ⟨a0, a1, q0, q1, hp, h _ hk⟩
 ·exact hF.elim
theorem eqActS_inv {ys : List PV} {Φ : List PV -> Prop} (h : eqActS ys Φ) : ∃ (l : List Act3) (m : List Act3), ys = [.sl _ e_api_Act l, .sl _ e_api_Act m] /\ (l.length < 4611686018427387904) /\ Φ [.bool (decide (l = m))] := by
 unfold eqActS at h
 split at h
 ·obtain ⟨a0, a1, q0, q1, hz⟩ := h
  subst q0
  subst q1
  exact ⟨a0, a1, rfl, hz⟩
 ·exact h.elim
theorem fn_eqAct : FnOk Tryz.prog 74 Tryz.f74 (bodyOf Tryz.f74) := ⟨by kernel_rfl, by kernel_rfl, by kernel_rfl⟩
noncomputable def ff_eqAct : Fun := ⟨Tryz.f74.ntmps, 0, Tryz.f74.results.toList, fun i => match i with | 4 => some [0, 1, 12, 13] | _ => none, fun _ => false, fun _ => []⟩
theorem nf_eqAct_a (A : KA Kd) (k : List PV -> Heap Kd -> Prop) (l m : List Act3) : evT SE0 ff_eqAct A k 400 false [.code (bodyOf Tryz.f74)] (startEnv 26 [.sl _ e_api_Act l, .sl _ e_api_Act m]) [] = (bif (↑l.length : Int) != (↑m.length : Int) then k [.bool false] []
else A (td Tryz.f74 (4 : Nat)) (envAt (26 : Nat) [((0 : Nat), PV.sl (Int × Int × Int) e_api_Act l), ((1 : Nat), PV.sl (Int × Int × Int) e_api_Act m), ((12 : Nat), PV.int IntKind.i64 (↑l.length : Int)), ((13 : Nat), PV.int IntKind.i64 (0 : Int))]) []) := by kernel_rfl
theorem nf_eqAct_b (A : KA Kd) (k : List PV -> Heap Kd -> Prop) (l m : List Act3) (n i : Int) : evT SE0 ff_eqAct A k 400 true (td Tryz.f74 4) (envAt 26 [(0, .sl _ e_api_Act l), (1, .sl _ e_api_Act m), (12, .int .i64 (n)), (13, .int .i64 (i))]) [] = (bif decide (i < n) then (0 <= i /\ i < (↑l.length : Int)) /\ ∀ (y : Int × Int × Int), l[i.toNat]? = some y -> (0 <= i /\ i < (↑m.length : Int)) /\ ∀ (y_1 : Int × Int × Int), m[i.toNat]? = some y_1 -> bif !(y.fst == y_1.fst && (y.snd.fst == y_1.snd.fst && (y.snd.snd == y_1.snd.snd && true))) then k [.bool false] [] else A (td Tryz.f74 4) (envAt 26 [(0, .sl (Int × Int × Int) e_api_Act l), (1, .sl (Int × Int × Int) e_api_Act m), (12, .int .i64 n), (13, .int .i64 (IntKind.i64.wrap (i + 1)))]) []
else k [PV.bool true] []) := by kernel_rfl
theorem ok_eqAct : FunS B 74 eqActS := by
 refine funS_of (N := 26) (f := ff_eqAct) env_SE0 mixed fn_eqAct (by kernel_rfl) (by kernel_rfl) (by kernel_rfl) eqActS_mono ?_
 intro A k ys hA hF
 obtain ⟨l, m, rfl, hl, hk⟩ := eqActS_inv hF; clear hF
 refine ⟨by kernel_rfl, (hA.nf (nf_eqAct_a A k l m) ?_)⟩
 cases c : ((l.length : Int) != (m.length : Int)) with
 | true => rw [decide_eq_false (len_ne c)] at hk; exact hk
 | false =>
 have hlm := len_eq c
 rw [cond_false]
 refine same_loop l m hlm (fun i => A (td Tryz.f74 4) (envAt 26 [(0, .sl _ e_api_Act l), (1, .sl _ e_api_Act m), (12, .int .i64 ((l.length : Nat))), (13, .int .i64 ((i : Nat)))]) []) (fun b => k [.bool b] []) hk ?_ ?_
 ·intro hk
  refine (hA.nf (nf_eqAct_b A k l m _ _) ?_)
  rw [ilt_false (Nat.lt_irrefl _)]; exact hk
 ·intro i y z hy hz ih hno
  have hlt := lt_of_get hy
  refine (hA.nf (nf_eqAct_b A k l m _ _) ?_)
  rw [ilt_true hlt, cond_true]
  refine get_at hy (get_at hz ?_)
  rw [wrap_succ (by omega)]
  by_cases e : y = z
  ·subst e
   simp only [beq_self_eq_true, Bool.and_self, Bool.not_true, cond_false]
   exact ih rfl
  ·have hb : (y.1 == z.1 && (y.2.1 == z.2.1 && (y.2.2 == z.2.2 && true))) = false := by
    rw [<- Bool.not_eq_true]
    intro h
    simp only [Bool.and_eq_true, beq_iff_eq, and_true] at h
    exact e (Prod.ext h.1 (Prod.ext h.2.1 h.2.2))
   rw [hb, Bool.not_false, cond_true]
   exact hno e
end Go.Ab.T
