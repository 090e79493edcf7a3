import Derived.Test.YthfagophoncabaaGreatDoorSched3
import Derived.Test.YthfagophoncabaaGreatDoorParts4
set_option linter.unusedVariables false
set_option linter.unusedSimpArgs false
set_option linter.unusedSectionVars false
namespace Go.Ab.T
open Go Go.Ab Go.Proofs
variable [DMode]
set_option maxRecDepth 100000
set_option maxHeartbeats 4000000
noncomputable def H9 := base (fun _ => none) (fun _ => none) (fun _ => none)
theorem env_H9 : EnvOk H9 := env_of (fun g F h => (by cases h)) (fun g F h => (by cases h)) (fun g F h => (by cases h))
def rSame9S : SpecS := fun ys Φ => match ys with
 | [x_0, x_1] => ∃ (l : List Sch), x_0 = .sl _ e_api_Schedule l /\ x_1 = .sl _ e_api_Schedule l /\ (l.length < 4611686018427387904 /\ (∀ x, x ∈ l -> x.2.2.1.length < 4611686018427387904 /\ x.2.2.2.length < 4611686018427387904)) /\ Φ [.bool true]
 | _ => False
theorem rSame9S_mono : MonoS rSame9S := by
 intro ys Φ Ψ h hF
 unfold rSame9S at hF ⊢
 split at hF
 ·obtain ⟨a0, q0, q1, hp, hk⟩ := hF; exact ⟨a0, q0, q1, hp, h _ hk⟩
 ·exact hF.elim
theorem rSame9S_inv {ys : List PV} {Φ : List PV -> Prop} (h : rSame9S ys Φ) : ∃ (l : List Sch), ys = [.sl _ e_api_Schedule l, .sl _ e_api_Schedule l] /\ (l.length < 4611686018427387904 /\ (∀ x, x ∈ l -> x.2.2.1.length < 4611686018427387904 /\ x.2.2.2.length < 4611686018427387904)) /\ Φ [.bool true] := by
 unfold rSame9S at h
 split at h
 ·obtain ⟨a0, q0, q1, hz⟩ := h
  subst q0
  subst q1
  exact ⟨a0, rfl, hz⟩
 ·exact h.elim
theorem fn_rSame9 : FnOk Tryz.prog 45 Tryz.f45 (bodyOf Tryz.f45) := ⟨by kernel_rfl, by kernel_rfl, by kernel_rfl⟩
noncomputable def ff_rSame9 : Fun := ⟨Tryz.f45.ntmps, 0, Tryz.f45.results.toList, fun i => match i with | 14 => some [0, 1, 5, 7] | 9 => some [0, 1, 5, 6] | 4 => some [0, 1, 5] | _ => none, fun _ => false, fun _ => []⟩
theorem nf_rSame9_a (A : KA Kd) (k : List PV -> Heap Kd -> Prop) (l : List Sch) : evT H9 ff_rSame9 A k 400 false [.code (bodyOf Tryz.f45)] (startEnv 127 [.sl _ e_api_Schedule l, .sl _ e_api_Schedule l]) [] = (bif (↑l.length : Int) != (↑l.length : Int) then k [.bool false] []
else A (td Tryz.f45 (4 : Nat)) (envAt (127 : Nat) [((0 : Nat), PV.sl (Int × Int × List (Int × Int × Int) × List (Int × Int × Int)) e_api_Schedule l), ((1 : Nat), PV.sl (Int × Int × List (Int × Int × Int) × List (Int × Int × Int)) e_api_Schedule l), ((5 : Nat), PV.int IntKind.i64 (0 : Int))]) []) := by kernel_rfl
theorem nf_rSame9_b (A : KA Kd) (k : List PV -> Heap Kd -> Prop) (l : List Sch) (i : Int) : evT H9 ff_rSame9 A k 400 true (td Tryz.f45 4) (envAt 127 [(0, .sl _ e_api_Schedule l), (1, .sl _ e_api_Schedule l), (5, .int .i64 i)]) [] = (bif decide (i < (↑l.length : Int)) then (0 <= i /\ i < (↑l.length : Int)) /\ ∀ (y : Int × Int × List (Int × Int × Int) × List (Int × Int × Int)), l[i.toNat]? = some y -> (0 <= i /\ i < (↑l.length : Int)) /\ ∀ (y_1 : Int × Int × List (Int × Int × Int) × List (Int × Int × Int)), l[i.toNat]? = some y_1 -> bif y.fst != y_1.fst then k [.bool false] [] else (0 <= i /\ i < (↑l.length : Int)) /\ ∀ (y : Int × Int × List (Int × Int × Int) × List (Int × Int × Int)), l[i.toNat]? = some y -> (0 <= i /\ i < (↑l.length : Int)) /\ ∀ (y_2 : Int × Int × List (Int × Int × Int) × List (Int × Int × Int)), l[i.toNat]? = some y_2 -> bif y.snd.fst != y_2.snd.fst then k [.bool false] [] else (0 <= i /\ i < (↑l.length : Int)) /\ ∀ (y : Int × Int × List (Int × Int × Int) × List (Int × Int × Int)), l[i.toNat]? = some y -> (0 <= i /\ i < (↑l.length : Int)) /\ ∀ (y_3 : Int × Int × List (Int × Int × Int) × List (Int × Int × Int)), l[i.toNat]? = some y_3 -> bif (↑y.snd.snd.fst.length : Int) != (↑y_3.snd.snd.fst.length : Int) then k [.bool false] [] else (0 <= i /\ i < (↑l.length : Int)) /\ ∀ (y : Int × Int × List (Int × Int × Int) × List (Int × Int × Int)), l[i.toNat]? = some y -> (0 <= i /\ i < (↑l.length : Int)) /\ ∀ (y_4 : Int × Int × List (Int × Int × Int) × List (Int × Int × Int)), l[i.toNat]? = some y_4 -> bif (↑y.snd.snd.snd.length : Int) != (↑y_4.snd.snd.snd.length : Int) then k [.bool false] [] else A (td Tryz.f45 9) (envAt 127 [(0, .sl (Int × Int × List (Int × Int × Int) × List (Int × Int × Int)) e_api_Schedule l), (1, .sl (Int × Int × List (Int × Int × Int) × List (Int × Int × Int)) e_api_Schedule l), (5, .int .i64 i), (6, .int .i64 0)]) []
else k [PV.bool true] []) := by kernel_rfl
theorem nf_rSame9_c (A : KA Kd) (k : List PV -> Heap Kd -> Prop) (l : List Sch) (i j : Int) : evT H9 ff_rSame9 A k 400 true (td Tryz.f45 9) (envAt 127 [(0, .sl _ e_api_Schedule l), (1, .sl _ e_api_Schedule l), (5, .int .i64 i), (6, .int .i64 j)]) [] = ((0 <= i /\ i < (↑l.length : Int)) /\ ∀ (y : Int × Int × List (Int × Int × Int) × List (Int × Int × Int)), l[i.toNat]? = some y -> bif decide (j < (↑y.snd.snd.fst.length : Int)) then (0 <= i /\ i < (↑l.length : Int)) /\ ∀ (y : Int × Int × List (Int × Int × Int) × List (Int × Int × Int)), l[i.toNat]? = some y -> (0 <= j /\ j < (↑y.snd.snd.fst.length : Int)) /\ ∀ (y_1 : Int × Int × Int), y.snd.snd.fst[j.toNat]? = some y_1 -> (0 <= i /\ i < (↑l.length : Int)) /\ ∀ (y : Int × Int × List (Int × Int × Int) × List (Int × Int × Int)), l[i.toNat]? = some y -> (0 <= j /\ j < (↑y.snd.snd.fst.length : Int)) /\ ∀ (y_2 : Int × Int × Int), y.snd.snd.fst[j.toNat]? = some y_2 -> bif !(y_1.fst == y_2.fst && (y_1.snd.fst == y_2.snd.fst && (y_1.snd.snd == y_2.snd.snd && true))) then k [.bool false] [] else A (td Tryz.f45 9) (envAt 127 [(0, .sl (Int × Int × List (Int × Int × Int) × List (Int × Int × Int)) e_api_Schedule l), (1, .sl (Int × Int × List (Int × Int × Int) × List (Int × Int × Int)) e_api_Schedule l), (5, .int .i64 i), (6, .int .i64 (IntKind.i64.wrap (j + 1)))]) [] else A (td Tryz.f45 14) (envAt 127 [(0, .sl (Int × Int × List (Int × Int × Int) × List (Int × Int × Int)) e_api_Schedule l), (1, .sl (Int × Int × List (Int × Int × Int) × List (Int × Int × Int)) e_api_Schedule l), (5, .int .i64 i), (7, .int .i64 0)]) []) := by kernel_rfl
theorem nf_rSame9_d (A : KA Kd) (k : List PV -> Heap Kd -> Prop) (l : List Sch) (i j : Int) : evT H9 ff_rSame9 A k 400 true (td Tryz.f45 14) (envAt 127 [(0, .sl _ e_api_Schedule l), (1, .sl _ e_api_Schedule l), (5, .int .i64 i), (7, .int .i64 j)]) [] = ((0 <= i /\ i < (↑l.length : Int)) /\ ∀ (y : Int × Int × List (Int × Int × Int) × List (Int × Int × Int)), l[i.toNat]? = some y -> bif decide (j < (↑y.snd.snd.snd.length : Int)) then (0 <= i /\ i < (↑l.length : Int)) /\ ∀ (y : Int × Int × List (Int × Int × Int) × List (Int × Int × Int)), l[i.toNat]? = some y -> (0 <= j /\ j < (↑y.snd.snd.snd.length : Int)) /\ ∀ (y_1 : Int × Int × Int), y.snd.snd.snd[j.toNat]? = some y_1 -> (0 <= i /\ i < (↑l.length : Int)) /\ ∀ (y : Int × Int × List (Int × Int × Int) × List (Int × Int × Int)), l[i.toNat]? = some y -> (0 <= j /\ j < (↑y.snd.snd.snd.length : Int)) /\ ∀ (y_2 : Int × Int × Int), y.snd.snd.snd[j.toNat]? = some y_2 -> bif !(y_1.fst == y_2.fst && (y_1.snd.fst == y_2.snd.fst && (y_1.snd.snd == y_2.snd.snd && true))) then k [.bool false] [] else A (td Tryz.f45 14) (envAt 127 [(0, .sl (Int × Int × List (Int × Int × Int) × List (Int × Int × Int)) e_api_Schedule l), (1, .sl (Int × Int × List (Int × Int × Int) × List (Int × Int × Int)) e_api_Schedule l), (5, .int .i64 i), (7, .int .i64 (IntKind.i64.wrap (j + 1)))]) [] else A (td Tryz.f45 4) (envAt 127 [(0, .sl (Int × Int × List (Int × Int × Int) × List (Int × Int × Int)) e_api_Schedule l), (1, .sl (Int × Int × List (Int × Int × Int) × List (Int × Int × Int)) e_api_Schedule l), (5, .int .i64 (IntKind.i64.wrap (i + 1)))]) []) := by kernel_rfl
theorem ok_rSame9 : FunS B 45 rSame9S := by
 refine funS_of (N := 127) (f := ff_rSame9) env_H9 mixed fn_rSame9 (by kernel_rfl) (by kernel_rfl) (by kernel_rfl) rSame9S_mono ?_
 intro A k ys hA hF
 obtain ⟨l, rfl, ⟨hl, hw⟩, hk⟩ := rSame9S_inv hF; clear hF
 refine ⟨by kernel_rfl, (hA.nf (nf_rSame9_a A k l) ?_)⟩
 have nb : ∀ n : Int, (n != n) = false := fun n => bne_self_eq_false n
 rw [nb, cond_false]
 refine down_loop l (fun i => A (td Tryz.f45 4) (envAt 127 [(0, .sl _ e_api_Schedule l), (1, .sl _ e_api_Schedule l), (5, .int .i64 (i : Int))]) []) ?_ ?_ 0 (Nat.zero_le _)
 ·refine (hA.nf (nf_rSame9_b A k l _) ?_)
  rw [ilt_false (Nat.lt_irrefl _)]; exact hk
 ·intro i y hy ih
  have hlt := lt_of_get hy
  obtain ⟨w1, w2⟩ := hw y (List.mem_of_getElem? hy)
  refine (hA.nf (nf_rSame9_b A k l _) ?_)
  rw [ilt_true hlt]
  have two : ∀ {p : Sch -> Sch -> Prop}, p y y -> ((0 : Int) <= (i : Int) /\ (i : Int) < (l.length : Int)) /\ ∀ z, l[(i : Int).toNat]? = some z -> ((0 : Int) <= (i : Int) /\ (i : Int) < (l.length : Int)) /\ ∀ z2, l[(i : Int).toNat]? = some z2 -> p z z2 :=
   fun {p} hp => get_at hy (get_at hy hp)
  refine two ?_
  rw [nb, cond_false]
  refine two ?_
  rw [nb, cond_false]
  refine two ?_
  rw [nb, cond_false]
  refine two ?_
  rw [nb, cond_false]
  refine down_loop y.2.2.1 (fun j => A (td Tryz.f45 9) (envAt 127 [(0, .sl _ e_api_Schedule l), (1, .sl _ e_api_Schedule l), (5, .int .i64 (i : Int)), (6, .int .i64 (j : Int))]) []) ?_ ?_ 0 (Nat.zero_le _)
  ·refine (hA.nf (nf_rSame9_c A k l _ _) (get_at hy ?_))
   rw [ilt_false (Nat.lt_irrefl _), cond_false]
   refine down_loop y.2.2.2 (fun j => A (td Tryz.f45 14) (envAt 127 [(0, .sl _ e_api_Schedule l), (1, .sl _ e_api_Schedule l), (5, .int .i64 (i : Int)), (7, .int .i64 (j : Int))]) []) ?_ ?_ 0 (Nat.zero_le _)
   ·refine (hA.nf (nf_rSame9_d A k l _ _) (get_at hy ?_))
    rw [ilt_false (Nat.lt_irrefl _), cond_false, wrap_succ (by omega)]
    exact ih
   ·intro j z hz ih2
    have hj := lt_of_get hz
    refine (hA.nf (nf_rSame9_d A k l _ _) (get_at hy ?_))
    rw [ilt_true hj, cond_true]
    refine get_at hy (get_at hz (get_at hy (get_at hz ?_)))
    simp only [beq_self_eq_true, Bool.and_self, Bool.not_true, cond_false]
    rw [wrap_succ (by omega)]
    exact ih2
  ·intro j z hz ih2
   have hj := lt_of_get hz
   refine (hA.nf (nf_rSame9_c A k l _ _) (get_at hy ?_))
   rw [ilt_true hj, cond_true]
   refine get_at hy (get_at hz (get_at hy (get_at hz ?_)))
   simp only [beq_self_eq_true, Bool.and_self, Bool.not_true, cond_false]
   rw [wrap_succ (by omega)]
   exact ih2
noncomputable def H9b := base (fun _ => none) (fun g => match g with | 112 => some rSC8S | _ => none) (fun _ => none)
theorem env_H9b : EnvOk H9b := env_of (by
 intro g F h
 split at h
 ·cases h; exact ok_rSC8
 ·cases h) (fun g F h => (by cases h)) (fun g F h => (by cases h))
theorem fn_rSame8 : FnOk Tryz.prog 44 Tryz.f44 (bodyOf Tryz.f44) := ⟨by kernel_rfl, by kernel_rfl, by kernel_rfl⟩
noncomputable def ff_rSame8 : Fun := ⟨Tryz.f44.ntmps, 0, Tryz.f44.results.toList, fun i => match i with | 4 => some [0, 1, 5] | _ => none, fun _ => false, fun _ => []⟩
theorem nf_rSame8_a (A : KA Kd) (k : List PV -> Heap Kd -> Prop) (l : List Prt) : evT H9b ff_rSame8 A k 400 false [.code (bodyOf Tryz.f44)] (startEnv 68 [.sl _ e_api_Partition l, .sl _ e_api_Partition l]) [] = (bif (↑l.length : Int) != (↑l.length : Int) then k [.bool false] []
else A (td Tryz.f44 (4 : Nat)) (envAt (68 : Nat) [((0 : Nat), PV.sl (Int × ByteArray × Bool × List (Int × Bool)) e_api_Partition l), ((1 : Nat), PV.sl (Int × ByteArray × Bool × List (Int × Bool)) e_api_Partition l), ((5 : Nat), PV.int IntKind.i64 (0 : Int))]) []) := by kernel_rfl
theorem nf_rSame8_b (A : KA Kd) (k : List PV -> Heap Kd -> Prop) (l : List Prt) (i : Int) : evT H9b ff_rSame8 A k 400 true (td Tryz.f44 4) (envAt 68 [(0, .sl _ e_api_Partition l), (1, .sl _ e_api_Partition l), (5, .int .i64 i)]) [] = (bif decide (i < (↑l.length : Int)) then (0 <= i /\ i < (↑l.length : Int)) /\ ∀ (y : Int × ByteArray × Bool × List (Int × Bool)), l[i.toNat]? = some y -> (0 <= i /\ i < (↑l.length : Int)) /\ ∀ (y_1 : Int × ByteArray × Bool × List (Int × Bool)), l[i.toNat]? = some y_1 -> bif y.fst != y_1.fst then k [.bool false] [] else (0 <= i /\ i < (↑l.length : Int)) /\ ∀ (y : Int × ByteArray × Bool × List (Int × Bool)), l[i.toNat]? = some y -> (0 <= i /\ i < (↑l.length : Int)) /\ ∀ (y_2 : Int × ByteArray × Bool × List (Int × Bool)), l[i.toNat]? = some y_2 -> bif !y.snd.fst.toList == y_2.snd.fst.toList then k [.bool false] [] else (0 <= i /\ i < (↑l.length : Int)) /\ ∀ (y : Int × ByteArray × Bool × List (Int × Bool)), l[i.toNat]? = some y -> (0 <= i /\ i < (↑l.length : Int)) /\ ∀ (y_3 : Int × ByteArray × Bool × List (Int × Bool)), l[i.toNat]? = some y_3 -> bif !y.snd.snd.fst == y_3.snd.snd.fst then k [.bool false] [] else (0 <= i /\ i < (↑l.length : Int)) /\ ∀ (y : Int × ByteArray × Bool × List (Int × Bool)), l[i.toNat]? = some y -> (0 <= i /\ i < (↑l.length : Int)) /\ ∀ (y_4 : Int × ByteArray × Bool × List (Int × Bool)), l[i.toNat]? = some y_4 -> ∃ (l_1 : List Cl), PV.sl (Int × Bool) e_api_Cell y.snd.snd.snd = PV.sl (Int × Bool) e_api_Cell l_1 /\ PV.sl (Int × Bool) e_api_Cell y_4.snd.snd.snd = PV.sl (Int × Bool) e_api_Cell l_1 /\ l_1.length < 4611686018427387904 /\ A (td Tryz.f44 4) (envAt 68 [(0, .sl (Int × ByteArray × Bool × List (Int × Bool)) e_api_Partition l), (1, .sl (Int × ByteArray × Bool × List (Int × Bool)) e_api_Partition l), (5, .int .i64 (IntKind.i64.wrap (i + 1)))]) []
else k [PV.bool true] []) := by kernel_rfl
def rSame8S : SpecS := fun ys Φ => match ys with
 | [x_0, x_1] => ∃ (l : List Prt), x_0 = .sl _ e_api_Partition l /\ x_1 = .sl _ e_api_Partition l /\ (l.length < 4611686018427387904 /\ (∀ x, x ∈ l -> x.2.2.2.length < 4611686018427387904)) /\ Φ [.bool true]
 | _ => False
theorem rSame8S_mono : MonoS rSame8S := by
 intro ys Φ Ψ h hF
 unfold rSame8S at hF ⊢
 split at hF
 ·obtain ⟨a0, q0, q1, hp, hk⟩ := hF; exact ⟨a0, q0, q1, hp, h _ hk⟩
 ·exact hF.elim
theorem rSame8S_inv {ys : List PV} {Φ : List PV -> Prop} (h : rSame8S ys Φ) : ∃ (l : List Prt), ys = [.sl _ e_api_Partition l, .sl _ e_api_Partition l] /\ (l.length < 4611686018427387904 /\ (∀ x, x ∈ l -> x.2.2.2.length < 4611686018427387904)) /\ Φ [.bool true] := by
 unfold rSame8S at h
 split at h
 ·obtain ⟨a0, q0, q1, hz⟩ := h
  subst q0
  subst q1
  exact ⟨a0, rfl, hz⟩
 ·exact h.elim
theorem ok_rSame8 : FunS B 44 rSame8S := by
 refine funS_of (N := 68) (f := ff_rSame8) env_H9b mixed fn_rSame8 (by kernel_rfl) (by kernel_rfl) (by kernel_rfl) rSame8S_mono ?_
 intro A k ys hA hF
 obtain ⟨l, rfl, ⟨hl, hw⟩, hk⟩ := rSame8S_inv hF; clear hF
 refine ⟨by kernel_rfl, (hA.nf (nf_rSame8_a A k l) ?_)⟩
 have nb : ∀ n : Int, (n != n) = false := fun n => bne_self_eq_false n
 rw [nb, cond_false]
 refine down_loop l (fun i => A (td Tryz.f44 4) (envAt 68 [(0, .sl _ e_api_Partition l), (1, .sl _ e_api_Partition l), (5, .int .i64 (i : Int))]) []) ?_ ?_ 0 (Nat.zero_le _)
 ·refine (hA.nf (nf_rSame8_b A k l _) ?_)
  rw [ilt_false (Nat.lt_irrefl _)]; exact hk
 ·intro i y hy ih
  have hlt := lt_of_get hy
  refine (hA.nf (nf_rSame8_b A k l _) ?_)
  rw [ilt_true hlt, cond_true]
  refine get_at hy (get_at hy ?_)
  rw [nb, cond_false]
  refine get_at hy (get_at hy ?_)
  rw [beq_self_eq_true, Bool.not_true, cond_false]
  refine get_at hy (get_at hy ?_)
  rw [beq_self_eq_true, Bool.not_true, cond_false]
  refine get_at hy (get_at hy ⟨y.2.2.2, rfl, rfl, hw y (List.mem_of_getElem? hy), ?_⟩)
  rw [wrap_succ (by omega)]
  exact ih
end Go.Ab.T
