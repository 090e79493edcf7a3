import Derived.Test.YtgnhjhdmfhfilaaDoorWSort2
import Derived.Test.YtgnhjhdmfhfilaaDoorOp
set_option linter.unusedVariables false
set_option linter.unusedSimpArgs false
set_option linter.unusedSectionVars false
namespace Go.Ab.T
open Go Go.Ab Go.Proofs
variable [DMode]
set_option maxRecDepth 100000
set_option maxHeartbeats 4000000
noncomputable def WS2 := base (fun g => match g with | 133 => some (lift 0 namesF) | 106 => some (lift 0 namesF) | 64 => some (lift 0 cloneWS) | 65 => some sortWG | 28 => some (lift 0 winSortS) | 29 => some (lift 0 rSort13S) | _ => none) (fun g => match g with | 80 => some nanS | 43 => some cmpIS | 42 => some orS | 23 => some ofS | 83 => some nameS | 103 => some nameS | 48 => some newS | 50 => some atS | 71 => some inS | 107 => some idxIS | 84 => some hasIS | 85 => some fitsS | 49 => some wrongS | 17 => some CheckS | 16 => some trueS | 66 => some cmpWS | 67 => some ltWS | 27 => some sameWS | 19 => some touchS | _ => none) (fun _ => none)
theorem env_WS2 : EnvOk WS2 := env_of (by
    intro g F h
    split at h
    · cases h; exact ok_nanI
    · cases h; exact ok_cmpI
    · cases h; exact ok_orF
    · cases h; exact of_ok
    · cases h; exact ok_Name
    · cases h; exact ok_rName
    · cases h; exact ok_New
    · cases h; exact ok_At
    · cases h; exact ok_In
    · cases h; exact ok_idxI
    · cases h; exact ok_cont
    · cases h; exact ok_fits
    · cases h; exact ok_wrong
    · cases h; exact ok_Check
    · cases h; exact ok_awake13
    · cases h; exact ok_cmpWf
    · cases h; exact ok_ltWf
    · cases h; exact ok_sameW
    · cases h; exact ok_touchW
    · cases h) (by
    intro g F h
    split at h
    · cases h; exact (lift_ok ok_rnames)
    · cases h; exact (lift_ok ok_names)
    · cases h; exact (lift_ok ok_cloneW)
    · cases h; exact ok_sortF
    · cases h; exact (lift_ok ok_winSort)
    · cases h; exact (lift_ok ok_rSort13)
    · cases h) (fun g F h => (by cases h))
theorem fn_WindowSorts : FnOk Tryd.prog 7 Tryd.f7 (bodyOf Tryd.f7) := ⟨by kernel_rfl, by kernel_rfl, by kernel_rfl⟩
noncomputable def ff_WindowSorts : Fun := ⟨Tryd.f7.ntmps, 0, Tryd.f7.results.toList, fun i => match i with | 13 => some [4, 5, 9, 10] | 6 => some [4, 5, 23, 24, 25] | _ => none, fun _ => false, fun _ => []⟩
theorem nf_WSo_a (A : KA Kd) (k : List PV → Heap Kd → Prop) (l : List Win) (a1 a2 a3 b1 b2 b3 : Int) : evT WS2 ff_WindowSorts A k 400 false [.code (bodyOf Tryd.f7)] (startEnv 91 [.sl _ e_api_Window l, .agg [.int .i64 a1, .int .i64 a2, .int .i64 a3], .agg [.int .i64 b1, .int .i64 b2, .int .i64 b3]]) [] = (bif decide ((↑l.length : Int) > (40 : Int)) then k [PV.bool true] []
else ∃ (l_1 : List Win), PV.sl (Int × Int × Int) e_api_Window l = PV.sl (Int × Int × Int) e_api_Window l_1 ∧ l_1.length < (100000 : Nat) ∧ ∃ (l_2 : List Win), PV.sl (Int × Int × Int) e_api_Window l = PV.sl (Int × Int × Int) e_api_Window l_2 ∧ l_2.length < (100000 : Nat) ∧ ∃ (a : List Win), ∃ (b : List Win), PV.sl (Int × Int × Int) e_api_Window (isort ltW l_1) = PV.sl (Int × Int × Int) e_api_Window a ∧ PV.sl (Int × Int × Int) e_api_Window (isort ltW l_2) = PV.sl (Int × Int × Int) e_api_Window b ∧ a.length < (4611686018427387904 : Nat) ∧ bif !decide (a = b) then k [PV.bool false] [] else ∃ (zs : List (Int × Int × Int)), List.map e_api_Window zs = [PV.agg [PV.int IntKind.i64 a1, PV.int IntKind.i64 a2, PV.int IntKind.i64 a3], PV.agg [PV.int IntKind.i64 b1, PV.int IntKind.i64 b2, PV.int IntKind.i64 b3]] ∧ A (td Tryd.f7 (6 : Nat)) (envAt (91 : Nat) [((4 : Nat), PV.ptr (0 : Nat) (0 : Nat)), ((5 : Nat), PV.ptr (1 : Nat) (0 : Nat)), ((23 : Nat), PV.own (2 : Nat)), ((24 : Nat), PV.int IntKind.i64 (↑zs.length : Int)), ((25 : Nat), PV.int IntKind.i64 (0 : Int))]) [AObj.box [PV.int IntKind.i64 a1, PV.int IntKind.i64 a2, PV.int IntKind.i64 a3], AObj.box [PV.int IntKind.i64 b1, PV.int IntKind.i64 b2, PV.int IntKind.i64 b3], AObj.row (37 : Nat) zs]) := by kernel_rfl
theorem nf_WSo_b (A : KA Kd) (k : List PV → Heap Kd → Prop) (a1 a2 a3 b1 b2 b3 i n : Int) (l : List Win) : evT WS2 ff_WindowSorts A k 400 true (td Tryd.f7 6) (envAt 91 [(4, .ptr 0 0), (5, .ptr 1 0), (23, .own 2), (24, .int .i64 n), (25, .int .i64 i)]) [.box [.int .i64 a1, .int .i64 a2, .int .i64 a3], .box [.int .i64 b1, .int .i64 b2, .int .i64 b3], .row 37 l] = (bif decide (i < n) then ((0 : Int) ≤ i ∧ i < (↑l.length : Int)) ∧ ∀ (y : (Int × Int × Int)), l[i.toNat]? = some y → bif decide (y.snd.fst < (0 : Int)) then k [PV.bool true] [] else bif decide (y.snd.fst > (300 : Int)) then k [PV.bool true] [] else bif decide (y.snd.snd < (0 : Int)) then k [PV.bool true] [] else bif decide (y.snd.snd > (300 : Int)) then k [PV.bool true] [] else A (td Tryd.f7 (6 : Nat)) (envAt (91 : Nat) [((4 : Nat), PV.ptr (0 : Nat) (0 : Nat)), ((5 : Nat), PV.ptr (1 : Nat) (0 : Nat)), ((23 : Nat), PV.own (2 : Nat)), ((24 : Nat), PV.int IntKind.i64 n), ((25 : Nat), PV.int IntKind.i64 (IntKind.i64.wrap (i + (1 : Int))))]) [AObj.box [PV.int IntKind.i64 a1, PV.int IntKind.i64 a2, PV.int IntKind.i64 a3], AObj.box [PV.int IntKind.i64 b1, PV.int IntKind.i64 b2, PV.int IntKind.i64 b3], AObj.row (37 : Nat) l]
else A (td Tryd.f7 (13 : Nat)) (envAt (91 : Nat) [((4 : Nat), PV.ptr (0 : Nat) (0 : Nat)), ((5 : Nat), PV.ptr (1 : Nat) (0 : Nat)), ((9 : Nat), PV.bool false), ((10 : Nat), PV.int IntKind.i64 a2)]) [AObj.box [PV.int IntKind.i64 a1, PV.int IntKind.i64 a2, PV.int IntKind.i64 a3], AObj.box [PV.int IntKind.i64 b1, PV.int IntKind.i64 b2, PV.int IntKind.i64 b3]]) := by kernel_rfl
theorem nf_WSo_c (A : KA Kd) (k : List PV → Heap Kd → Prop) (a1 a2 a3 b1 b2 b3 t : Int) (d : Bool) : evT WS2 ff_WindowSorts A k 400 true (td Tryd.f7 13) (envAt 91 [(4, .ptr 0 0), (5, .ptr 1 0), (9, .bool d), (10, .int .i64 t)]) [.box [.int .i64 a1, .int .i64 a2, .int .i64 a3], .box [.int .i64 b1, .int .i64 b2, .int .i64 b3]] = (bif decide (t < IntKind.i64.wrap (a2 + a3)) then bif d then A (td Tryd.f7 (13 : Nat)) (envAt (91 : Nat) [((4 : Nat), PV.ptr (0 : Nat) (0 : Nat)), ((5 : Nat), PV.ptr (1 : Nat) (0 : Nat)), ((9 : Nat), PV.bool true), ((10 : Nat), PV.int IntKind.i64 (IntKind.i64.wrap (t + (1 : Int))))]) [AObj.box [PV.int IntKind.i64 a1, PV.int IntKind.i64 a2, PV.int IntKind.i64 a3], AObj.box [PV.int IntKind.i64 b1, PV.int IntKind.i64 b2, PV.int IntKind.i64 b3]] else bif decide (t ≥ b2) then A (td Tryd.f7 (13 : Nat)) (envAt (91 : Nat) [((4 : Nat), PV.ptr (0 : Nat) (0 : Nat)), ((5 : Nat), PV.ptr (1 : Nat) (0 : Nat)), ((9 : Nat), PV.bool (decide (t < IntKind.i64.wrap (b2 + b3)))), ((10 : Nat), PV.int IntKind.i64 (IntKind.i64.wrap (t + (1 : Int))))]) [AObj.box [PV.int IntKind.i64 a1, PV.int IntKind.i64 a2, PV.int IntKind.i64 a3], AObj.box [PV.int IntKind.i64 b1, PV.int IntKind.i64 b2, PV.int IntKind.i64 b3]] else A (td Tryd.f7 (13 : Nat)) (envAt (91 : Nat) [((4 : Nat), PV.ptr (0 : Nat) (0 : Nat)), ((5 : Nat), PV.ptr (1 : Nat) (0 : Nat)), ((9 : Nat), PV.bool false), ((10 : Nat), PV.int IntKind.i64 (IntKind.i64.wrap (t + (1 : Int))))]) [AObj.box [PV.int IntKind.i64 a1, PV.int IntKind.i64 a2, PV.int IntKind.i64 a3], AObj.box [PV.int IntKind.i64 b1, PV.int IntKind.i64 b2, PV.int IntKind.i64 b3]]
else bif decide (mmI true a2 b2 < mmI false (IntKind.i64.wrap (a2 + a3)) (IntKind.i64.wrap (b2 + b3))) == d then bif decide (mmI true b2 a2 < mmI false (IntKind.i64.wrap (b2 + b3)) (IntKind.i64.wrap (a2 + a3))) == d then k [PV.bool true] [] else k [PV.bool false] [] else k [PV.bool false] []) := by kernel_rfl
def lawWSS : SpecS := fun ys Φ => match ys with
  | [x_0, .agg [.int .i64 a1, .int .i64 a2, .int .i64 a3], .agg [.int .i64 b1, .int .i64 b2, .int .i64 b3]] => ∃ (l : List Win), x_0 = .sl _ e_api_Window l ∧ Φ [.bool true]
  | _ => False
theorem lawWSS_mono : MonoS lawWSS := by
  intro ys Φ Ψ h hF
  unfold lawWSS at hF ⊢
  split at hF
  · obtain ⟨a0, q0, hk⟩ := hF; exact ⟨a0, q0, h _ hk⟩
  · exact hF.elim
theorem lawWSS_inv {ys : List PV} {Φ : List PV → Prop} (h : lawWSS ys Φ) : ∃ (l : List Win) (a1 : Int) (a2 : Int) (a3 : Int) (b1 : Int) (b2 : Int) (b3 : Int), ys = [.sl _ e_api_Window l, .agg [.int .i64 a1, .int .i64 a2, .int .i64 a3], .agg [.int .i64 b1, .int .i64 b2, .int .i64 b3]] ∧ Φ [.bool true] := by
  unfold lawWSS at h
  split at h
  · obtain ⟨a0, q0, hz⟩ := h
    subst q0
    exact ⟨a0, _, _, _, _, _, _, rfl, hz⟩
  · exact h.elim
theorem touch_iff (a b c e : Int) : (mmI true a b < mmI false c e) ↔ (a < c ∧ a < e ∧ b < c ∧ b < e) := by
  unfold mmI
  simp only
  split <;> split <;> omega
theorem WSo_loop (A : KA Kd) (k : List PV → Heap Kd → Prop) (hA : Closed WS2 ff_WindowSorts k A) (a1 a2 a3 b1 b2 b3 : Int) (ha2 : 0 ≤ a2 ∧ a2 ≤ 300) (ha3 : 0 ≤ a3 ∧ a3 ≤ 300) (hb2 : 0 ≤ b2 ∧ b2 ≤ 300) (hb3 : 0 ≤ b3 ∧ b3 ≤ 300) (hk : k [.bool true] []) :
    ∀ (m : Nat) (t : Int) (d : Bool), (a2 + a3 - t).toNat ≤ m → a2 ≤ t → t ≤ a2 + a3 → d = decide (a2 < t ∧ a2 < b2 + b3 ∧ b2 < t ∧ b2 < b2 + b3) →
      A (td Tryd.f7 13) (envAt 91 [(4, .ptr 0 0), (5, .ptr 1 0), (9, .bool d), (10, .int .i64 t)]) [.box [.int .i64 a1, .int .i64 a2, .int .i64 a3], .box [.int .i64 b1, .int .i64 b2, .int .i64 b3]] := by
  have wa : IntKind.i64.wrap (a2 + a3) = a2 + a3 := wrap_id _ (by omega) (by omega)
  have wb : IntKind.i64.wrap (b2 + b3) = b2 + b3 := wrap_id _ (by omega) (by omega)
  have hend : ∀ (t : Int) (d : Bool), t = a2 + a3 → d = decide (a2 < t ∧ a2 < b2 + b3 ∧ b2 < t ∧ b2 < b2 + b3) →
      A (td Tryd.f7 13) (envAt 91 [(4, .ptr 0 0), (5, .ptr 1 0), (9, .bool d), (10, .int .i64 t)]) [.box [.int .i64 a1, .int .i64 a2, .int .i64 a3], .box [.int .i64 b1, .int .i64 b2, .int .i64 b3]] := by
    intro t d ht hd
    refine (hA.nf (nf_WSo_c A k a1 a2 a3 b1 b2 b3 t d) ?_)
    rw [wa, wb, decide_eq_false (by omega : ¬ t < a2 + a3), cond_false]
    have e1 : decide (mmI true a2 b2 < mmI false (a2 + a3) (b2 + b3)) = d := by
      rw [hd, ht]
      exact decide_eq_decide.2 (touch_iff _ _ _ _)
    have e2 : decide (mmI true b2 a2 < mmI false (b2 + b3) (a2 + a3)) = d := by
      rw [hd, ht]
      refine decide_eq_decide.2 ((touch_iff _ _ _ _).trans ?_)
      constructor <;> intro h <;> omega
    rw [e1, e2, beq_self_eq_true, cond_true]
    exact hk
  intro m
  induction m with
  | zero => intro t d hm h1 h2 hd; exact hend t d (by omega) hd
  | succ m ih =>
    intro t d hm h1 h2 hd
    by_cases ht : t < a2 + a3
    · refine (hA.nf (nf_WSo_c A k a1 a2 a3 b1 b2 b3 t d) ?_)
      have wt : IntKind.i64.wrap (t + 1) = t + 1 := wrap_id _ (by omega) (by omega)
      rw [wa, wb, wt, decide_eq_true ht, cond_true]
      cases d with
      | true =>
        rw [cond_true]
        have hd := of_decide_eq_true hd.symm
        exact ih _ _ (by omega) (by omega) (by omega) (decide_eq_true (by omega)).symm
      | false =>
        rw [cond_false]
        have hd := of_decide_eq_false hd.symm
        by_cases hb : t ≥ b2
        · rw [decide_eq_true hb, cond_true]
          exact ih _ _ (by omega) (by omega) (by omega) (decide_eq_decide.2 (by omega))
        · rw [decide_eq_false hb, cond_false]
          exact ih _ _ (by omega) (by omega) (by omega) (decide_eq_false (by omega)).symm
    · exact hend t d (by omega) hd
theorem ok_WSo : FunS B 7 lawWSS := by
  refine funS_of (N := 91) (f := ff_WindowSorts) env_WS2 mixed fn_WindowSorts (by kernel_rfl) (by kernel_rfl) (by kernel_rfl) lawWSS_mono ?_
  intro A k ys hA hF
  obtain ⟨l, a1, a2, a3, b1, b2, b3, rfl, hk⟩ := lawWSS_inv hF; clear hF
  refine ⟨by kernel_rfl, (hA.nf (nf_WSo_a A k l a1 a2 a3 b1 b2 b3) ?_)⟩
  cases hl : decide ((l.length : Int) > 40) with
  | true => exact hk
  | false =>
    rw [decide_eq_false_iff_not] at hl
    rw [cond_false]
    refine ⟨l, rfl, by omega, l, rfl, by omega, _, _, rfl, rfl, by rw [isort_len ltW_sto]; omega, ?_⟩
    rw [decide_eq_true rfl, Bool.not_true, cond_false]
    refine ⟨[(a1, a2, a3), (b1, b2, b3)], rfl, ?_⟩
    have w1 : IntKind.i64.wrap (0 + 1) = 1 := by decide
    have w2 : IntKind.i64.wrap (1 + 1) = 2 := by decide
    refine (hA.nf (nf_WSo_b A k a1 a2 a3 b1 b2 b3 _ _ _) ?_)
    rw [show decide ((0 : Int) < (([(a1, a2, a3), (b1, b2, b3)] : List Win).length : Int)) = true from rfl, cond_true]
    refine ⟨⟨by omega, by show (0 : Int) < 2; omega⟩, fun y hy => ?_⟩
    obtain rfl : y = (a1, a2, a3) := (Option.some.inj hy).symm
    cases c1 : decide (a2 < 0) with
    | true => exact hk
    | false =>
    cases c2 : decide (a2 > 300) with
    | true => exact hk
    | false =>
    cases c3 : decide (a3 < 0) with
    | true => exact hk
    | false =>
    cases c4 : decide (a3 > 300) with
    | true => exact hk
    | false =>
    rw [cond_false, cond_false, cond_false, cond_false, w1]
    refine (hA.nf (nf_WSo_b A k a1 a2 a3 b1 b2 b3 _ _ _) ?_)
    rw [show decide ((1 : Int) < (([(a1, a2, a3), (b1, b2, b3)] : List Win).length : Int)) = true from rfl, cond_true]
    refine ⟨⟨by omega, by show (1 : Int) < 2; omega⟩, fun y hy => ?_⟩
    obtain rfl : y = (b1, b2, b3) := (Option.some.inj hy).symm
    cases e1 : decide (b2 < 0) with
    | true => exact hk
    | false =>
    cases e2 : decide (b2 > 300) with
    | true => exact hk
    | false =>
    cases e3 : decide (b3 < 0) with
    | true => exact hk
    | false =>
    cases e4 : decide (b3 > 300) with
    | true => exact hk
    | false =>
    rw [cond_false, cond_false, cond_false, cond_false, w2]
    rw [decide_eq_false_iff_not] at c1 c2 c3 c4 e1 e2 e3 e4
    refine (hA.nf (nf_WSo_b A k a1 a2 a3 b1 b2 b3 _ _ _) ?_)
    rw [show decide ((2 : Int) < (([(a1, a2, a3), (b1, b2, b3)] : List Win).length : Int)) = false from rfl, cond_false]
    exact WSo_loop A k hA a1 a2 a3 b1 b2 b3 (by omega) (by omega) (by omega) (by omega) hk (a2 + a3 - a2).toNat a2 false (Nat.le_refl _) (by omega) (by omega) (decide_eq_false (by omega)).symm
theorem pre_WindowSorts (l : List (Int × Int × Int)) (a b : Int × Int × Int) (_ : g_o27 l) (_ : g_o37 a) (_ : g_o37 b) : lawWSS [a_o27 l, a_o37 a, a_o37 b] fun rs => rs = [.bool true] :=
  ⟨_, rfl, rfl⟩
end Go.Ab.T
