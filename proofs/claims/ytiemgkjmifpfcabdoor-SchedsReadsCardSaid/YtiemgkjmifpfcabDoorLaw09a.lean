import Derived.Test.YtiemgkjmifpfcabDoorSched3
import Derived.Test.YtiemgkjmifpfcabDoorOp
import Derived.Test.YtiemgkjmifpfcabDoorMaB
set_option linter.unusedVariables false
set_option linter.unusedSimpArgs false
namespace Go.Ab.T
open Go Go.Ab Go.Proofs
set_option maxRecDepth 100000
set_option maxHeartbeats 4000000
noncomputable def H9 := base (fun g => match g with | 86 => some (lift 0 namesF) | 92 => some (lift 0 namesF) | 39 => some (lift 0 cloneS) | 40 => some (eitherOwn (lift 1 putIS) (lift 0 putS)) | 54 => some (lift 1 sPutS) | 55 => some (lift 1 prWindowS) | 56 => some (lift 1 prNeedS) | 25 => some (frzAll B (lift 0 sPutAS)) | 7 => some (lift 0 NewS) | 9 => some (lift 1 EnterS) | 71 => some (lift 1 FailS) | 37 => some (lift 1 NeedS) | 52 => some (lift 1 ErrS) | 70 => some (lift 1 numberS) | 36 => some (lift 1 U8S) | 51 => some (lift 1 U16S) | 49 => some (lift 1 U32S) | 50 => some (lift 1 U64S) | 38 => some (lift 1 TextS) | 59 => some (lift 1 tkS) | 60 => some (lift 1 rowsWS) | 62 => some (lift 1 rowsNS) | 28 => some (lift 1 sReadS) | _ => none) (fun g => match g with | 77 => some nameS | 68 => some nameS | 45 => some newS | 44 => some atS | 43 => some inS | 88 => some sizeS | 85 => some rSizeS | 87 => some getS | 67 => some getS | 72 => some fitsS | 48 => some r01TS | 78 => some wiS | 83 => some wiS | 81 => some num3S | 82 => some num3S | 79 => some rrWindowS | 80 => some rrNeedS | 58 => some num9S | 53 => some schRS | 57 => some schRS | 26 => some rWrong9S | 27 => some rText9S | 18 => some ofS | 12 => some FaultS | 13 => some PlaceS | 22 => some LeftS | 61 => some mk3S | 63 => some mk3S | _ => none) (fun _ => none)
theorem env_H9 : EnvOk H9 := env_of (by
    intro g F h
    split at h
    · cases h; exact ok_Name
    · cases h; exact ok_rName
    · cases h; exact ok_New
    · cases h; exact ok_At
    · cases h; exact ok_In
    · cases h; exact ok_size
    · cases h; exact ok_rSize
    · cases h; exact ok_Get
    · cases h; exact ok_rGet
    · cases h; exact ok_fits
    · cases h; exact ok_r01T
    · cases h; exact ok_within
    · cases h; exact ok_rin
    · cases h; exact ok_numWindow
    · cases h; exact ok_numNeed
    · cases h; exact ok_rrWindow
    · cases h; exact ok_rrNeed
    · cases h; exact ok_num9
    · cases h; exact ok_schR
    · cases h; exact ok_rschR
    · cases h; exact ok_rWrong9
    · cases h; exact ok_rText9
    · cases h; exact of_ok
    · cases h; exact ok_rFault
    · cases h; exact ok_Place
    · cases h; exact ok_Left
    · cases h; exact ok_mkW
    · cases h; exact ok_mkN
    · cases h) (by
    intro g F h
    split at h
    · cases h; exact (lift_ok ok_rnames)
    · cases h; exact (lift_ok ok_names)
    · cases h; exact (lift_ok ok_clone)
    · cases h; exact (eitherOwn_ok (lift_ok ok_putI) (lift_ok ok_put))
    · cases h; exact (lift_ok ok_sPut)
    · cases h; exact (lift_ok ok_prWindow)
    · cases h; exact (lift_ok ok_prNeed)
    · cases h; exact (frzAll_ok (lift_ok ok_sPutA))
    · cases h; exact (lift_ok ok_rNew)
    · cases h; exact (lift_ok ok_Enter)
    · cases h; exact (lift_ok ok_Fail)
    · cases h; exact (lift_ok ok_Need)
    · cases h; exact (lift_ok ok_rErr)
    · cases h; exact (lift_ok ok_number)
    · cases h; exact (lift_ok ok_U8)
    · cases h; exact (lift_ok ok_U16)
    · cases h; exact (lift_ok ok_U32)
    · cases h; exact (lift_ok ok_U64)
    · cases h; exact (lift_ok ok_Text)
    · cases h; exact (lift_ok ok_tk)
    · cases h; exact (lift_ok ok_rowsW)
    · cases h; exact (lift_ok ok_rowsN)
    · cases h; exact (lift_ok ok_sRead)
    · cases h) (fun g F h => (by cases h))
def rSame9S : SpecS := fun ys Φ => match ys with
  | [x_0, x_1] => ∃ (l : List Sch), x_0 = .sl _ e_api_Schedule l ∧ x_1 = .sl _ e_api_Schedule l ∧ (l.length < 4611686018427387904 ∧ (∀ x, x ∈ l → x.2.2.1.length < 4611686018427387904 ∧ x.2.2.2.length < 4611686018427387904)) ∧ Φ [.bool true]
  | _ => False
theorem rSame9S_mono : MonoS rSame9S := by
  intro ys Φ Ψ h hF
  unfold rSame9S at hF ⊢
  split at hF
  · obtain ⟨a0, q0, q1, hp, hk⟩ := hF; exact ⟨a0, q0, q1, hp, h _ hk⟩
  · exact hF.elim
theorem rSame9S_inv {ys : List PV} {Φ : List PV → Prop} (h : rSame9S ys Φ) : ∃ (l : List Sch), ys = [.sl _ e_api_Schedule l, .sl _ e_api_Schedule l] ∧ (l.length < 4611686018427387904 ∧ (∀ x, x ∈ l → x.2.2.1.length < 4611686018427387904 ∧ x.2.2.2.length < 4611686018427387904)) ∧ Φ [.bool true] := by
  unfold rSame9S at h
  split at h
  · obtain ⟨a0, q0, q1, hz⟩ := h
    subst q0
    subst q1
    exact ⟨a0, rfl, hz⟩
  · exact h.elim
theorem fn_rSame9 : FnOk Tryd.prog 29 Tryd.f29 (bodyOf Tryd.f29) := ⟨by kernel_rfl, by kernel_rfl, by kernel_rfl⟩
noncomputable def ff_rSame9 : Fun := ⟨Tryd.f29.ntmps, 0, Tryd.f29.results.toList, fun i => match i with | 14 => some [0, 1, 5, 7] | 9 => some [0, 1, 5, 6] | 4 => some [0, 1, 5] | _ => none, fun _ => false, fun _ => []⟩
theorem nf_rSame9_a (A : KA Kd) (k : List PV → Heap Kd → Prop) (l : List Sch) : evT H9 ff_rSame9 A k 400 false [.code (bodyOf Tryd.f29)] (startEnv 127 [.sl _ e_api_Schedule l, .sl _ e_api_Schedule l]) [] = (bif (↑l.length : Int) != (↑l.length : Int) then k [PV.bool false] []
else A (td Tryd.f29 (4 : Nat)) (envAt (127 : Nat) [((0 : Nat), PV.sl (Int × Int × List (Int × Int × Int) × List (Int × Int × Int)) e_api_Schedule l), ((1 : Nat), PV.sl (Int × Int × List (Int × Int × Int) × List (Int × Int × Int)) e_api_Schedule l), ((5 : Nat), PV.int IntKind.i64 (0 : Int))]) []) := by kernel_rfl
theorem nf_rSame9_b (A : KA Kd) (k : List PV → Heap Kd → Prop) (l : List Sch) (i : Int) : evT H9 ff_rSame9 A k 400 true (td Tryd.f29 4) (envAt 127 [(0, .sl _ e_api_Schedule l), (1, .sl _ e_api_Schedule l), (5, .int .i64 i)]) [] = (bif decide (i < (↑l.length : Int)) then ((0 : Int) ≤ i ∧ i < (↑l.length : Int)) ∧ ∀ (y : Int × Int × List (Int × Int × Int) × List (Int × Int × Int)), l[i.toNat]? = some y → ((0 : Int) ≤ i ∧ i < (↑l.length : Int)) ∧ ∀ (y_1 : Int × Int × List (Int × Int × Int) × List (Int × Int × Int)), l[i.toNat]? = some y_1 → bif y.fst != y_1.fst then k [PV.bool false] [] else ((0 : Int) ≤ i ∧ i < (↑l.length : Int)) ∧ ∀ (y : Int × Int × List (Int × Int × Int) × List (Int × Int × Int)), l[i.toNat]? = some y → ((0 : Int) ≤ i ∧ i < (↑l.length : Int)) ∧ ∀ (y_2 : Int × Int × List (Int × Int × Int) × List (Int × Int × Int)), l[i.toNat]? = some y_2 → bif y.snd.fst != y_2.snd.fst then k [PV.bool false] [] else ((0 : Int) ≤ i ∧ i < (↑l.length : Int)) ∧ ∀ (y : Int × Int × List (Int × Int × Int) × List (Int × Int × Int)), l[i.toNat]? = some y → ((0 : Int) ≤ i ∧ i < (↑l.length : Int)) ∧ ∀ (y_3 : Int × Int × List (Int × Int × Int) × List (Int × Int × Int)), l[i.toNat]? = some y_3 → bif (↑y.snd.snd.fst.length : Int) != (↑y_3.snd.snd.fst.length : Int) then k [PV.bool false] [] else ((0 : Int) ≤ i ∧ i < (↑l.length : Int)) ∧ ∀ (y : Int × Int × List (Int × Int × Int) × List (Int × Int × Int)), l[i.toNat]? = some y → ((0 : Int) ≤ i ∧ i < (↑l.length : Int)) ∧ ∀ (y_4 : Int × Int × List (Int × Int × Int) × List (Int × Int × Int)), l[i.toNat]? = some y_4 → bif (↑y.snd.snd.snd.length : Int) != (↑y_4.snd.snd.snd.length : Int) then k [PV.bool false] [] else A (td Tryd.f29 (9 : Nat)) (envAt (127 : Nat) [((0 : Nat), PV.sl (Int × Int × List (Int × Int × Int) × List (Int × Int × Int)) e_api_Schedule l), ((1 : Nat), PV.sl (Int × Int × List (Int × Int × Int) × List (Int × Int × Int)) e_api_Schedule l), ((5 : Nat), PV.int IntKind.i64 i), ((6 : Nat), PV.int IntKind.i64 (0 : Int))]) []
else k [PV.bool true] []) := by kernel_rfl
theorem nf_rSame9_c (A : KA Kd) (k : List PV → Heap Kd → Prop) (l : List Sch) (i j : Int) : evT H9 ff_rSame9 A k 400 true (td Tryd.f29 9) (envAt 127 [(0, .sl _ e_api_Schedule l), (1, .sl _ e_api_Schedule l), (5, .int .i64 i), (6, .int .i64 j)]) [] = (((0 : Int) ≤ i ∧ i < (↑l.length : Int)) ∧ ∀ (y : Int × Int × List (Int × Int × Int) × List (Int × Int × Int)), l[i.toNat]? = some y → bif decide (j < (↑y.snd.snd.fst.length : Int)) then ((0 : Int) ≤ i ∧ i < (↑l.length : Int)) ∧ ∀ (y : Int × Int × List (Int × Int × Int) × List (Int × Int × Int)), l[i.toNat]? = some y → ((0 : Int) ≤ j ∧ j < (↑y.snd.snd.fst.length : Int)) ∧ ∀ (y_1 : Int × Int × Int), y.snd.snd.fst[j.toNat]? = some y_1 → ((0 : Int) ≤ i ∧ i < (↑l.length : Int)) ∧ ∀ (y : Int × Int × List (Int × Int × Int) × List (Int × Int × Int)), l[i.toNat]? = some y → ((0 : Int) ≤ j ∧ j < (↑y.snd.snd.fst.length : Int)) ∧ ∀ (y_2 : Int × Int × Int), y.snd.snd.fst[j.toNat]? = some y_2 → bif !(y_1.fst == y_2.fst && (y_1.snd.fst == y_2.snd.fst && (y_1.snd.snd == y_2.snd.snd && true))) then k [PV.bool false] [] else A (td Tryd.f29 (9 : Nat)) (envAt (127 : Nat) [((0 : Nat), PV.sl (Int × Int × List (Int × Int × Int) × List (Int × Int × Int)) e_api_Schedule l), ((1 : Nat), PV.sl (Int × Int × List (Int × Int × Int) × List (Int × Int × Int)) e_api_Schedule l), ((5 : Nat), PV.int IntKind.i64 i), ((6 : Nat), PV.int IntKind.i64 (IntKind.i64.wrap (j + (1 : Int))))]) [] else A (td Tryd.f29 (14 : Nat)) (envAt (127 : Nat) [((0 : Nat), PV.sl (Int × Int × List (Int × Int × Int) × List (Int × Int × Int)) e_api_Schedule l), ((1 : Nat), PV.sl (Int × Int × List (Int × Int × Int) × List (Int × Int × Int)) e_api_Schedule l), ((5 : Nat), PV.int IntKind.i64 i), ((7 : Nat), PV.int IntKind.i64 (0 : Int))]) []) := by kernel_rfl
theorem nf_rSame9_d (A : KA Kd) (k : List PV → Heap Kd → Prop) (l : List Sch) (i j : Int) : evT H9 ff_rSame9 A k 400 true (td Tryd.f29 14) (envAt 127 [(0, .sl _ e_api_Schedule l), (1, .sl _ e_api_Schedule l), (5, .int .i64 i), (7, .int .i64 j)]) [] = (((0 : Int) ≤ i ∧ i < (↑l.length : Int)) ∧ ∀ (y : Int × Int × List (Int × Int × Int) × List (Int × Int × Int)), l[i.toNat]? = some y → bif decide (j < (↑y.snd.snd.snd.length : Int)) then ((0 : Int) ≤ i ∧ i < (↑l.length : Int)) ∧ ∀ (y : Int × Int × List (Int × Int × Int) × List (Int × Int × Int)), l[i.toNat]? = some y → ((0 : Int) ≤ j ∧ j < (↑y.snd.snd.snd.length : Int)) ∧ ∀ (y_1 : Int × Int × Int), y.snd.snd.snd[j.toNat]? = some y_1 → ((0 : Int) ≤ i ∧ i < (↑l.length : Int)) ∧ ∀ (y : Int × Int × List (Int × Int × Int) × List (Int × Int × Int)), l[i.toNat]? = some y → ((0 : Int) ≤ j ∧ j < (↑y.snd.snd.snd.length : Int)) ∧ ∀ (y_2 : Int × Int × Int), y.snd.snd.snd[j.toNat]? = some y_2 → bif !(y_1.fst == y_2.fst && (y_1.snd.fst == y_2.snd.fst && (y_1.snd.snd == y_2.snd.snd && true))) then k [PV.bool false] [] else A (td Tryd.f29 (14 : Nat)) (envAt (127 : Nat) [((0 : Nat), PV.sl (Int × Int × List (Int × Int × Int) × List (Int × Int × Int)) e_api_Schedule l), ((1 : Nat), PV.sl (Int × Int × List (Int × Int × Int) × List (Int × Int × Int)) e_api_Schedule l), ((5 : Nat), PV.int IntKind.i64 i), ((7 : Nat), PV.int IntKind.i64 (IntKind.i64.wrap (j + (1 : Int))))]) [] else A (td Tryd.f29 (4 : Nat)) (envAt (127 : Nat) [((0 : Nat), PV.sl (Int × Int × List (Int × Int × Int) × List (Int × Int × Int)) e_api_Schedule l), ((1 : Nat), PV.sl (Int × Int × List (Int × Int × Int) × List (Int × Int × Int)) e_api_Schedule l), ((5 : Nat), PV.int IntKind.i64 (IntKind.i64.wrap (i + (1 : Int))))]) []) := by kernel_rfl
theorem ok_rSame9 : FunS B 29 rSame9S := by
  refine funS_of (N := 127) (f := ff_rSame9) env_H9 mixed fn_rSame9 (by kernel_rfl) (by kernel_rfl) (by kernel_rfl) rSame9S_mono ?_
  intro A k ys hA hF
  obtain ⟨l, rfl, ⟨hl, hw⟩, hk⟩ := rSame9S_inv hF; clear hF
  refine ⟨by kernel_rfl, (hA.nf (nf_rSame9_a A k l) ?_)⟩
  have nb : ∀ n : Int, (n != n) = false := fun n => bne_self_eq_false n
  rw [nb, cond_false]
  refine down_loop l (fun i => A (td Tryd.f29 4) (envAt 127 [(0, .sl _ e_api_Schedule l), (1, .sl _ e_api_Schedule l), (5, .int .i64 (i : Int))]) []) ?_ ?_ 0 (Nat.zero_le _)
  · refine (hA.nf (nf_rSame9_b A k l _) ?_)
    rw [ilt_false (Nat.lt_irrefl _)]; exact hk
  · intro i y hy ih
    have hlt := lt_of_get hy
    obtain ⟨w1, w2⟩ := hw y (List.mem_of_getElem? hy)
    refine (hA.nf (nf_rSame9_b A k l _) ?_)
    rw [ilt_true hlt]
    have two : ∀ {p : Sch → Sch → Prop}, p y y → ((0 : Int) ≤ (i : Int) ∧ (i : Int) < (l.length : Int)) ∧ ∀ z, l[(i : Int).toNat]? = some z → ((0 : Int) ≤ (i : Int) ∧ (i : Int) < (l.length : Int)) ∧ ∀ z2, l[(i : Int).toNat]? = some z2 → p z z2 :=
      fun {p} hp => get_at hy (get_at hy hp)
    refine two ?_
    rw [nb, cond_false]
    refine two ?_
    rw [nb, cond_false]
    refine two ?_
    rw [nb, cond_false]
    refine two ?_
    rw [nb, cond_false]
    refine down_loop y.2.2.1 (fun j => A (td Tryd.f29 9) (envAt 127 [(0, .sl _ e_api_Schedule l), (1, .sl _ e_api_Schedule l), (5, .int .i64 (i : Int)), (6, .int .i64 (j : Int))]) []) ?_ ?_ 0 (Nat.zero_le _)
    · refine (hA.nf (nf_rSame9_c A k l _ _) (get_at hy ?_))
      rw [ilt_false (Nat.lt_irrefl _), cond_false]
      refine down_loop y.2.2.2 (fun j => A (td Tryd.f29 14) (envAt 127 [(0, .sl _ e_api_Schedule l), (1, .sl _ e_api_Schedule l), (5, .int .i64 (i : Int)), (7, .int .i64 (j : Int))]) []) ?_ ?_ 0 (Nat.zero_le _)
      · refine (hA.nf (nf_rSame9_d A k l _ _) (get_at hy ?_))
        rw [ilt_false (Nat.lt_irrefl _), cond_false, wrap_succ (by omega)]
        exact ih
      · intro j z hz ih2
        have hj := lt_of_get hz
        refine (hA.nf (nf_rSame9_d A k l _ _) (get_at hy ?_))
        rw [ilt_true hj, cond_true]
        refine get_at hy (get_at hz (get_at hy (get_at hz ?_)))
        simp only [beq_self_eq_true, Bool.and_self, Bool.not_true, cond_false]
        rw [wrap_succ (by omega)]
        exact ih2
    · intro j z hz ih2
      have hj := lt_of_get hz
      refine (hA.nf (nf_rSame9_c A k l _ _) (get_at hy ?_))
      rw [ilt_true hj, cond_true]
      refine get_at hy (get_at hz (get_at hy (get_at hz ?_)))
      simp only [beq_self_eq_true, Bool.and_self, Bool.not_true, cond_false]
      rw [wrap_succ (by omega)]
      exact ih2
theorem fn_long9 : FnOk Tryd.prog 23 Tryd.f23 (bodyOf Tryd.f23) := ⟨by kernel_rfl, by kernel_rfl, by kernel_rfl⟩
noncomputable def ff_long9 : Fun := ⟨Tryd.f23.ntmps, 0, Tryd.f23.results.toList, fun i => match i with | 2 => some [0, 5, 6, 7] | _ => none, fun _ => false, fun _ => []⟩
theorem nf_long9_a (A : KA Kd) (k : List PV → Heap Kd → Prop) (l : List Sch) : evT H9 ff_long9 A k 400 false [.code (bodyOf Tryd.f23)] (startEnv 25 [.sl _ e_api_Schedule l]) [] = (A (td Tryd.f23 (2 : Nat)) (envAt (25 : Nat) [((0 : Nat), PV.sl (Int × Int × List (Int × Int × Int) × List (Int × Int × Int)) e_api_Schedule l), ((5 : Nat), PV.sl (Int × Int × List (Int × Int × Int) × List (Int × Int × Int)) e_api_Schedule l), ((6 : Nat), PV.int IntKind.i64 (↑l.length : Int)), ((7 : Nat), PV.int IntKind.i64 (0 : Int))]) []) := by kernel_rfl
theorem nf_long9_b (A : KA Kd) (k : List PV → Heap Kd → Prop) (l m : List Sch) (n i : Int) : evT H9 ff_long9 A k 400 true (td Tryd.f23 2) (envAt 25 [(0, .sl _ e_api_Schedule m), (5, .sl _ e_api_Schedule l), (6, .int .i64 n), (7, .int .i64 i)]) [] = (bif decide (i < n) then ((0 : Int) ≤ i ∧ i < (↑l.length : Int)) ∧ ∀ (y : Int × Int × List (Int × Int × Int) × List (Int × Int × Int)), l[i.toNat]? = some y → bif decide ((↑y.snd.snd.fst.length : Int) > (300 : Int)) then k [PV.bool true] [] else bif decide ((↑y.snd.snd.snd.length : Int) > (60 : Int)) then k [PV.bool true] [] else A (td Tryd.f23 (2 : Nat)) (envAt (25 : Nat) [((0 : Nat), PV.sl (Int × Int × List (Int × Int × Int) × List (Int × Int × Int)) e_api_Schedule m), ((5 : Nat), PV.sl (Int × Int × List (Int × Int × Int) × List (Int × Int × Int)) e_api_Schedule l), ((6 : Nat), PV.int IntKind.i64 n), ((7 : Nat), PV.int IntKind.i64 (IntKind.i64.wrap (i + (1 : Int))))]) []
else k [PV.bool (decide ((↑m.length : Int) > (20 : Int)))] []) := by kernel_rfl
def long9S : SpecS := fun ys Φ => match ys with
  | [x_0] => ∃ (l : List Sch), x_0 = .sl _ e_api_Schedule l ∧ (l.length ≤ 9223372036854775807) ∧ Φ [.bool (longS l)]
  | _ => False
theorem long9S_mono : MonoS long9S := by
  intro ys Φ Ψ h hF
  unfold long9S at hF ⊢
  split at hF
  · obtain ⟨a0, q0, hp, hk⟩ := hF; exact ⟨a0, q0, hp, h _ hk⟩
  · exact hF.elim
theorem long9S_inv {ys : List PV} {Φ : List PV → Prop} (h : long9S ys Φ) : ∃ (l : List Sch), ys = [.sl _ e_api_Schedule l] ∧ (l.length ≤ 9223372036854775807) ∧ Φ [.bool (longS l)] := by
  unfold long9S at h
  split at h
  · obtain ⟨a0, q0, hz⟩ := h
    subst q0
    exact ⟨a0, rfl, hz⟩
  · exact h.elim
theorem ok_long9 : FunS B 23 long9S := by
  refine funS_of (N := 25) (f := ff_long9) env_H9 mixed fn_long9 (by kernel_rfl) (by kernel_rfl) (by kernel_rfl) long9S_mono ?_
  intro A k ys hA hF
  obtain ⟨l, rfl, hl, hk⟩ := long9S_inv hF; clear hF
  refine ⟨by kernel_rfl, (hA.nf (nf_long9_a A k l) ?_)⟩
  unfold longS at hk
  refine down_loop l (fun i => k [.bool (longRows (l.drop i) || decide ((l.length : Int) > 20))] [] → A (td Tryd.f23 2) (envAt 25 [(0, .sl _ e_api_Schedule l), (5, .sl _ e_api_Schedule l), (6, .int .i64 (l.length : Int)), (7, .int .i64 (i : Int))]) []) ?_ ?_ 0 (Nat.zero_le _) hk
  · intro hk
    refine (hA.nf (nf_long9_b A k l l _ _) ?_)
    rw [ilt_false (Nat.lt_irrefl _)]
    rw [List.drop_length] at hk; exact hk
  · intro i y hy ih hk
    have hlt := lt_of_get hy
    refine (hA.nf (nf_long9_b A k l l _ _) ?_)
    rw [ilt_true hlt, cond_true]
    refine get_at hy ?_
    rw [drop_cons' hy, longRows] at hk
    cases c1 : decide ((y.2.2.1.length : Int) > 300) with
    | true => rw [c1] at hk; exact hk
    | false =>
    cases c2 : decide ((y.2.2.2.length : Int) > 60) with
    | true => rw [c1, c2] at hk; exact hk
    | false =>
    rw [c1, c2] at hk
    rw [cond_false, cond_false, wrap_succ' (by omega)]
    exact ih hk
theorem fn_awake9 : FnOk Tryd.prog 24 Tryd.f24 (bodyOf Tryd.f24) := ⟨by kernel_rfl, by kernel_rfl, by kernel_rfl⟩
noncomputable def ff_awake9 : Fun := ⟨Tryd.f24.ntmps, 0, Tryd.f24.results.toList, fun _ => none, fun _ => false, fun _ => []⟩
theorem nf_awake9 (A : KA Kd) (k : List PV → Heap Kd → Prop)  : evT H9 ff_awake9 A k 400 false [.code (bodyOf Tryd.f24)] (startEnv 18 []) [] = (∃ (zs : List (Int × Int × Int)), List.map e_api_Window zs = [PV.agg [PV.int IntKind.i64 (3 : Int), PV.int IntKind.i64 (0 : Int), PV.int IntKind.i64 (4 : Int)]] ∧ ∃ (zs_1 : List (Int × Int × (List (Int × Int × Int)) × (List (Int × Int × Int)))), List.map e_api_Schedule zs_1 = [PV.agg [PV.int IntKind.i64 (0 : Int), PV.int IntKind.i64 (10 : Int), PV.sl (Int × Int × Int) e_api_Window zs, PV.sl (Int × Int × Int) e_api_Need []]] ∧ ∃ (b : List UInt8), ∃ (l : List Sch), PV.sl UInt8 e_uint8 [] = PV.sl UInt8 e_uint8 b ∧ PV.sl (Int × Int × (List (Int × Int × Int)) × (List (Int × Int × Int))) e_api_Schedule zs_1 = PV.sl (Int × Int × List (Int × Int × Int) × List (Int × Int × Int)) e_api_Schedule l ∧ (b.length < (1000000 : Nat) ∧ l.length < (100000 : Nat) ∧ ∀ (x : Sch), x ∈ l → x.snd.snd.fst.length < (4611686018427387904 : Nat) ∧ x.snd.snd.snd.length < (4611686018427387904 : Nat)) ∧ bif (schsE none (0 : Nat) l).isNil then (∀ (y : UInt8), y ∈ outS b (schsE none (0 : Nat) l) b (schsB l) → isU8 (e_uint8 y) = true) ∧ k [PV.bool ((strPV (List.map e_uint8 (outS b (schsE none (0 : Nat) l) b (schsB l)))).toList == (ByteArray.mk #[(0 : UInt8), (0 : UInt8), (0 : UInt8), (0 : UInt8), (10 : UInt8), (0 : UInt8), (1 : UInt8), (3 : UInt8), (0 : UInt8), (0 : UInt8), (0 : UInt8), (0 : UInt8), (0 : UInt8), (0 : UInt8), (0 : UInt8), (4 : UInt8), (0 : UInt8)]).toList)] [] else k [PV.bool false] []) := by kernel_rfl
def trueS : SpecS := fun ys Φ => match ys with
  | [] => Φ [.bool true]
  | _ => False
theorem trueS_mono : MonoS trueS := by
  intro ys Φ Ψ h hF
  unfold trueS at hF ⊢
  split at hF
  · exact h _ hF
  · exact hF.elim
theorem trueS_inv {ys : List PV} {Φ : List PV → Prop} (h : trueS ys Φ) : ys = [] ∧ Φ [.bool true] := by
  unfold trueS at h
  split at h
  · exact ⟨rfl, h⟩
  · exact h.elim
theorem ok_awake9 : FunS B 24 trueS := by
  refine funS_of (N := 18) (f := ff_awake9) env_H9 mixed fn_awake9 (by kernel_rfl) (by kernel_rfl) (by kernel_rfl) trueS_mono ?_
  intro A k ys hA hF
  obtain ⟨rfl, hk⟩ := trueS_inv hF; clear hF
  refine ⟨by kernel_rfl, (hA.nf (nf_awake9 A k) ?_)⟩
  have hE : (schsE none 0 [(0, 10, [(3, 0, 4)], [])]).isNil = true := by decide
  have e : outS [] (schsE none 0 [(0, 10, [(3, 0, 4)], [])]) [] (schsB [(0, 10, [(3, 0, 4)], [])]) = [0, 0, 0, 0, 10, 0, 1, 3, 0, 0, 0, 0, 0, 0, 0, 4, 0] := by decide
  refine ⟨[(3, 0, 4)], rfl, [(0, 10, [(3, 0, 4)], [])], rfl, [], [(0, 10, [(3, 0, 4)], [])], rfl, rfl, ⟨by decide, by decide, fun x hx => ?_⟩, ?_⟩
  · rw [List.mem_singleton] at hx; subst hx; exact ⟨by decide, by decide⟩
  · rw [hE, cond_true]
    refine ⟨fun _ _ => rfl, ?_⟩
    rw [e, strPV_e]
    have : ((ByteArray.mk ([0, 0, 0, 0, 10, 0, 1, 3, 0, 0, 0, 0, 0, 0, 0, 4, 0] : List UInt8).toArray).toList == (ByteArray.mk #[0, 0, 0, 0, 10, 0, 1, 3, 0, 0, 0, 0, 0, 0, 0, 4, 0]).toList) = true := beq_self_eq_true _
    rw [this]; exact hk
end Go.Ab.T
