import Derived.Test.YtgnhjhdmfhfilaaDoorCmp
import Derived.Test.YtgnhjhdmfhfilaaDoorAwake13
import Derived.Test.YtgnhjhdmfhfilaaDoorMaB
import Derived.Test.YtgnhjhdmfhfilaaDoorAbC
set_option linter.unusedVariables false
set_option linter.unusedSimpArgs false
set_option linter.unusedSectionVars false
namespace Go.Ab.T
open Go Go.Ab Go.Proofs
variable [DMode]
set_option maxRecDepth 100000
set_option maxHeartbeats 4000000
noncomputable def WS0 := base (fun g => match g with | 133 => some (lift 0 namesF) | 106 => some (lift 0 namesF) | _ => none) (fun g => match g with | 80 => some nanS | 43 => some cmpIS | 42 => some orS | 23 => some ofS | 83 => some nameS | 103 => some nameS | 48 => some newS | 50 => some atS | 71 => some inS | 107 => some idxIS | 84 => some hasIS | 85 => some fitsS | 49 => some wrongS | 17 => some CheckS | 16 => some trueS | _ => none) (fun _ => none)
theorem env_WS0 : EnvOk WS0 := env_of (by
    intro g F h
    split at h
    · cases h; exact ok_nanI
    · cases h; exact ok_cmpI
    · cases h; exact ok_orF
    · cases h; exact of_ok
    · cases h; exact ok_Name
    · cases h; exact ok_rName
    · cases h; exact ok_New
    · cases h; exact ok_At
    · cases h; exact ok_In
    · cases h; exact ok_idxI
    · cases h; exact ok_cont
    · cases h; exact ok_fits
    · cases h; exact ok_wrong
    · cases h; exact ok_Check
    · cases h; exact ok_awake13
    · cases h) (by
    intro g F h
    split at h
    · cases h; exact (lift_ok ok_rnames)
    · cases h; exact (lift_ok ok_names)
    · cases h) (fun g F h => (by cases h))
def cmpWS : SpecS := fun ys Φ => match ys with
  | [.agg [.int .i64 a1, .int .i64 a2, .int .i64 a3], .agg [.int .i64 b1, .int .i64 b2, .int .i64 b3]] => Φ [.int .i64 (cmpW (a1, a2, a3) (b1, b2, b3))]
  | _ => False
theorem cmpWS_mono : MonoS cmpWS := by
  intro ys Φ Ψ h hF
  unfold cmpWS at hF ⊢
  split at hF
  · exact h _ hF
  · exact hF.elim
theorem cmpWS_inv {ys : List PV} {Φ : List PV → Prop} (h : cmpWS ys Φ) : ∃ (a1 : Int) (a2 : Int) (a3 : Int) (b1 : Int) (b2 : Int) (b3 : Int), ys = [.agg [.int .i64 a1, .int .i64 a2, .int .i64 a3], .agg [.int .i64 b1, .int .i64 b2, .int .i64 b3]] ∧ Φ [.int .i64 (cmpW (a1, a2, a3) (b1, b2, b3))] := by
  unfold cmpWS at h
  split at h
  · exact ⟨_, _, _, _, _, _, rfl, h⟩
  · exact h.elim
theorem fn_cmpWf : FnOk Tryd.prog 66 Tryd.f66 (bodyOf Tryd.f66) := ⟨by kernel_rfl, by kernel_rfl, by kernel_rfl⟩
noncomputable def ff_cmpWf : Fun := ⟨Tryd.f66.ntmps, 0, Tryd.f66.results.toList, fun _ => none, fun _ => false, fun _ => []⟩
theorem nf_cmpWf (A : KA Kd) (k : List PV → Heap Kd → Prop) (a1 a2 a3 b1 b2 b3 : Int) : evT WS0 ff_cmpWf A k 400 false [.code (bodyOf Tryd.f66)] (startEnv 22 [.agg [.int .i64 a1, .int .i64 a2, .int .i64 a3], .agg [.int .i64 b1, .int .i64 b2, .int .i64 b3]]) [] = (∃ (zs : List Int), List.map e_int zs = [PV.int IntKind.i64 (cmpI a2 b2), PV.int IntKind.i64 (cmpI a3 b3), PV.int IntKind.i64 (cmpI a1 b1)] ∧ ∃ (l : List Int), PV.sl Int e_int zs = PV.sl Int e_int l ∧ l.length < (4611686018427387904 : Nat) ∧ k [PV.int IntKind.i64 (orV l)] []) := by kernel_rfl
theorem ok_cmpWf : FunS B 66 cmpWS := by
  refine funS_of (N := 22) (f := ff_cmpWf) env_WS0 mixed fn_cmpWf (by kernel_rfl) (by kernel_rfl) (by kernel_rfl) cmpWS_mono ?_
  intro A k ys hA hF
  obtain ⟨a1, a2, a3, b1, b2, b3, rfl, hk⟩ := cmpWS_inv hF; clear hF
  refine ⟨by kernel_rfl, (hA.nf (nf_cmpWf A k a1 a2 a3 b1 b2 b3) ?_)⟩
  exact ⟨[cmpI a2 b2, cmpI a3 b3, cmpI a1 b1], rfl, [cmpI a2 b2, cmpI a3 b3, cmpI a1 b1], rfl, (by show (3 : Nat) < 4611686018427387904; decide), hk⟩
def ltWS : SpecS := fun ys Φ => match ys with
  | [.agg [.int .i64 a1, .int .i64 a2, .int .i64 a3], .agg [.int .i64 b1, .int .i64 b2, .int .i64 b3]] => Φ [.bool (ltW (a1, a2, a3) (b1, b2, b3))]
  | _ => False
theorem ltWS_mono : MonoS ltWS := by
  intro ys Φ Ψ h hF
  unfold ltWS at hF ⊢
  split at hF
  · exact h _ hF
  · exact hF.elim
theorem ltWS_inv {ys : List PV} {Φ : List PV → Prop} (h : ltWS ys Φ) : ∃ (a1 : Int) (a2 : Int) (a3 : Int) (b1 : Int) (b2 : Int) (b3 : Int), ys = [.agg [.int .i64 a1, .int .i64 a2, .int .i64 a3], .agg [.int .i64 b1, .int .i64 b2, .int .i64 b3]] ∧ Φ [.bool (ltW (a1, a2, a3) (b1, b2, b3))] := by
  unfold ltWS at h
  split at h
  · exact ⟨_, _, _, _, _, _, rfl, h⟩
  · exact h.elim
theorem fn_ltWf : FnOk Tryd.prog 67 Tryd.f67 (bodyOf Tryd.f67) := ⟨by kernel_rfl, by kernel_rfl, by kernel_rfl⟩
noncomputable def ff_ltWf : Fun := ⟨Tryd.f67.ntmps, 0, Tryd.f67.results.toList, fun _ => none, fun _ => false, fun _ => []⟩
theorem nf_ltWf (A : KA Kd) (k : List PV → Heap Kd → Prop) (a1 a2 a3 b1 b2 b3 : Int) : evT WS0 ff_ltWf A k 400 false [.code (bodyOf Tryd.f67)] (startEnv 30 [.agg [.int .i64 a1, .int .i64 a2, .int .i64 a3], .agg [.int .i64 b1, .int .i64 b2, .int .i64 b3]]) [] = (bif a2 != b2 then k [PV.bool (decide (a2 < b2))] []
else bif a3 != b3 then k [PV.bool (decide (a3 < b3))] [] else k [PV.bool (decide (a1 < b1))] []) := by kernel_rfl
theorem ok_ltWf : FunS B 67 ltWS := by
  refine funS_of (N := 30) (f := ff_ltWf) env_WS0 mixed fn_ltWf (by kernel_rfl) (by kernel_rfl) (by kernel_rfl) ltWS_mono ?_
  intro A k ys hA hF
  obtain ⟨a1, a2, a3, b1, b2, b3, rfl, hk⟩ := ltWS_inv hF; clear hF
  refine ⟨by kernel_rfl, (hA.nf (nf_ltWf A k a1 a2 a3 b1 b2 b3) ?_)⟩
  unfold ltW at hk
  simp only at hk
  cases h : a2 != b2 with
  | true => rw [h] at hk; exact hk
  | false =>
    rw [h] at hk
    cases h2 : a3 != b3 with
    | true => rw [h2] at hk; exact hk
    | false => rw [h2] at hk; exact hk
def sameWS : SpecS := fun ys Φ => match ys with
  | [x_0, x_1] => ∃ (a : List Win), ∃ (b : List Win), x_0 = .sl _ e_api_Window a ∧ x_1 = .sl _ e_api_Window b ∧ (a.length < 4611686018427387904) ∧ Φ [.bool (decide (a = b))]
  | _ => False
theorem sameWS_mono : MonoS sameWS := by
  intro ys Φ Ψ h hF
  unfold sameWS at hF ⊢
  split at hF
  · obtain ⟨a0, a1, q0, q1, hp, hk⟩ := hF; exact ⟨a0, a1, q0, q1, hp, h _ hk⟩
  · exact hF.elim
theorem sameWS_inv {ys : List PV} {Φ : List PV → Prop} (h : sameWS ys Φ) : ∃ (a : List Win) (b : List Win), ys = [.sl _ e_api_Window a, .sl _ e_api_Window b] ∧ (a.length < 4611686018427387904) ∧ Φ [.bool (decide (a = b))] := by
  unfold sameWS at h
  split at h
  · obtain ⟨a0, a1, q0, q1, hz⟩ := h
    subst q0
    subst q1
    exact ⟨a0, a1, rfl, hz⟩
  · exact h.elim
theorem fn_sameW : FnOk Tryd.prog 27 Tryd.f27 (bodyOf Tryd.f27) := ⟨by kernel_rfl, by kernel_rfl, by kernel_rfl⟩
noncomputable def ff_sameW : Fun := ⟨Tryd.f27.ntmps, 0, Tryd.f27.results.toList, fun i => match i with | 4 => some [0, 1, 5] | _ => none, fun _ => false, fun _ => []⟩
theorem nf_sameW_a (A : KA Kd) (k : List PV → Heap Kd → Prop) (a b : List Win) : evT WS0 ff_sameW A k 400 false [.code (bodyOf Tryd.f27)] (startEnv 26 [.sl _ e_api_Window a, .sl _ e_api_Window b]) [] = (bif (↑a.length : Int) != (↑b.length : Int) then k [PV.bool false] []
else A (td Tryd.f27 (4 : Nat)) (envAt (26 : Nat) [((0 : Nat), PV.sl (Int × Int × Int) e_api_Window a), ((1 : Nat), PV.sl (Int × Int × Int) e_api_Window b), ((5 : Nat), PV.int IntKind.i64 (0 : Int))]) []) := by kernel_rfl
theorem nf_sameW_b (A : KA Kd) (k : List PV → Heap Kd → Prop) (a b : List Win) (i : Int) : evT WS0 ff_sameW A k 400 true (td Tryd.f27 4) (envAt 26 [(0, .sl _ e_api_Window a), (1, .sl _ e_api_Window b), (5, .int .i64 i)]) [] = (bif decide (i < (↑a.length : Int)) then ((0 : Int) ≤ i ∧ i < (↑a.length : Int)) ∧ ∀ (y : Int × Int × Int), a[i.toNat]? = some y → ((0 : Int) ≤ i ∧ i < (↑b.length : Int)) ∧ ∀ (y_1 : Int × Int × Int), b[i.toNat]? = some y_1 → bif !(y.fst == y_1.fst && (y.snd.fst == y_1.snd.fst && (y.snd.snd == y_1.snd.snd && true))) then k [PV.bool false] [] else A (td Tryd.f27 (4 : Nat)) (envAt (26 : Nat) [((0 : Nat), PV.sl (Int × Int × Int) e_api_Window a), ((1 : Nat), PV.sl (Int × Int × Int) e_api_Window b), ((5 : Nat), PV.int IntKind.i64 (IntKind.i64.wrap (i + (1 : Int))))]) []
else k [PV.bool true] []) := by kernel_rfl
theorem ok_sameW : FunS B 27 sameWS := by
  refine funS_of (N := 26) (f := ff_sameW) env_WS0 mixed fn_sameW (by kernel_rfl) (by kernel_rfl) (by kernel_rfl) sameWS_mono ?_
  intro A k ys hA hF
  obtain ⟨a, b, rfl, hl, hk⟩ := sameWS_inv hF; clear hF
  refine ⟨by kernel_rfl, (hA.nf (nf_sameW_a A k a b) ?_)⟩
  cases c : ((a.length : Int) != (b.length : Int)) with
  | true =>
    rw [decide_eq_false (by rintro rfl; simp at c)] at hk
    exact hk
  | false =>
    have hab : a.length = b.length := Int.ofNat.inj (by simpa using c)
    refine down_loop a (fun i => (a.drop i = b.drop i ↔ a = b) → A (td Tryd.f27 4) (envAt 26 [(0, .sl _ e_api_Window a), (1, .sl _ e_api_Window b), (5, .int .i64 (i : Int))]) []) ?_ ?_ 0 (Nat.zero_le _) (by rw [List.drop_zero, List.drop_zero])
    · intro h
      refine (hA.nf (nf_sameW_b A k a b _) ?_)
      rw [ilt_false (Nat.lt_irrefl _), cond_false]
      rw [List.drop_length, hab, List.drop_length] at h
      rw [decide_eq_true (h.1 rfl)] at hk
      exact hk
    · intro i y hy ih h
      have hlt := lt_of_get hy
      refine (hA.nf (nf_sameW_b A k a b _) ?_)
      rw [ilt_true hlt, cond_true]
      refine get_at hy ?_
      obtain ⟨z, hz⟩ : ∃ z, b[i]? = some z := ⟨b[i]'(by omega), List.getElem?_eq_getElem (by omega)⟩
      refine get_at hz ?_
      rw [drop_cons' hy, drop_cons' hz] at h
      have e : (y.fst == z.fst && (y.snd.fst == z.snd.fst && (y.snd.snd == z.snd.snd && true))) = decide (y = z) := by
        rw [Bool.eq_iff_iff]
        simp [Prod.ext_iff]
      rw [e]
      by_cases q : y = z
      · rw [decide_eq_true q, Bool.not_true, cond_false, wrap_succ (by omega)]
        refine ih ?_
        rw [← h, q]
        constructor
        · intro t; rw [t]
        · intro t; exact (List.cons.inj t).2
      · rw [decide_eq_false q, Bool.not_false, cond_true]
        rw [decide_eq_false (fun t => q (List.cons.inj (h.2 t)).1)] at hk
        exact hk
def touchS : SpecS := fun ys Φ => match ys with
  | [.agg [.int .i64 a1, .int .i64 a2, .int .i64 a3], .agg [.int .i64 b1, .int .i64 b2, .int .i64 b3]] => Φ [.bool (decide (mmI true a2 b2 < mmI false (IntKind.i64.wrap (a2 + a3)) (IntKind.i64.wrap (b2 + b3))))]
  | _ => False
theorem touchS_mono : MonoS touchS := by
  intro ys Φ Ψ h hF
  unfold touchS at hF ⊢
  split at hF
  · exact h _ hF
  · exact hF.elim
theorem touchS_inv {ys : List PV} {Φ : List PV → Prop} (h : touchS ys Φ) : ∃ (a1 : Int) (a2 : Int) (a3 : Int) (b1 : Int) (b2 : Int) (b3 : Int), ys = [.agg [.int .i64 a1, .int .i64 a2, .int .i64 a3], .agg [.int .i64 b1, .int .i64 b2, .int .i64 b3]] ∧ Φ [.bool (decide (mmI true a2 b2 < mmI false (IntKind.i64.wrap (a2 + a3)) (IntKind.i64.wrap (b2 + b3))))] := by
  unfold touchS at h
  split at h
  · exact ⟨_, _, _, _, _, _, rfl, h⟩
  · exact h.elim
theorem fn_touchW : FnOk Tryd.prog 19 Tryd.f19 (bodyOf Tryd.f19) := ⟨by kernel_rfl, by kernel_rfl, by kernel_rfl⟩
noncomputable def ff_touchW : Fun := ⟨Tryd.f19.ntmps, 0, Tryd.f19.results.toList, fun _ => none, fun _ => false, fun _ => []⟩
theorem nf_touchW (A : KA Kd) (k : List PV → Heap Kd → Prop) (a1 a2 a3 b1 b2 b3 : Int) : evT WS0 ff_touchW A k 400 false [.code (bodyOf Tryd.f19)] (startEnv 22 [.agg [.int .i64 a1, .int .i64 a2, .int .i64 a3], .agg [.int .i64 b1, .int .i64 b2, .int .i64 b3]]) [] = (k [PV.bool (decide (mmI true a2 b2 < mmI false (IntKind.i64.wrap (a2 + a3)) (IntKind.i64.wrap (b2 + b3))))] []) := by kernel_rfl
theorem ok_touchW : FunS B 19 touchS := by
  refine funS_of (N := 22) (f := ff_touchW) env_WS0 mixed fn_touchW (by kernel_rfl) (by kernel_rfl) (by kernel_rfl) touchS_mono ?_
  intro A k ys hA hF
  obtain ⟨a1, a2, a3, b1, b2, b3, rfl, hk⟩ := touchS_inv hF; clear hF
  exact ⟨by kernel_rfl, (hA.nf (nf_touchW A k a1 a2 a3 b1 b2 b3) hk)⟩
def cloneWS : List PV → Heap Kd → (List PV → Heap Kd → Prop) → Prop := fun ys L k => match ys, L with
  | [x_0], [] => ∃ (l : List Win), x_0 = .sl _ e_api_Window l ∧ (l.length < 1099511627776) ∧ k [.own 0] [.row 37 l]
  | _, _ => False
theorem cloneWS_inv {ys : List PV} {L : Heap Kd} {k : List PV → Heap Kd → Prop} (h : cloneWS ys L k) : ∃ (l : List Win), ys = [.sl _ e_api_Window l] ∧ L = [] ∧ (l.length < 1099511627776) ∧ k [.own 0] [.row 37 l] := by
  unfold cloneWS at h
  split at h
  · obtain ⟨a0, q0, hz⟩ := h
    subst q0
    exact ⟨a0, rfl, rfl, hz⟩
  · exact h.elim
theorem fn_cloneW : FnOk Tryd.prog 64 Tryd.f64 (bodyOf Tryd.f64) := ⟨by kernel_rfl, by kernel_rfl, by kernel_rfl⟩
noncomputable def ff_cloneW : Fun := ⟨Tryd.f64.ntmps, 0, Tryd.f64.results.toList, fun _ => none, fun _ => false, fun _ => []⟩
theorem nf_cloneW (A : KA Kd) (k : List PV → Heap Kd → Prop) (l : List Win) : evT WS0 ff_cloneW A k 400 false [.code (bodyOf Tryd.f64)] (startEnv 8 [.sl _ e_api_Window l]) [] = (∀ (b : Bool), (l ≠ [] → b = false) → bif b then k [PV.own (0 : Nat)] [AObj.row (37 : Nat) []] else ∃ (zs : List (Int × Int × Int)), List.map e_api_Window zs = [] ∧ ∃ (ys : List (Int × Int × Int)), List.map e_api_Window ys = List.map e_api_Window l ∧ (zs.length + ys.length) * (TInfo.mk (TD.struct [((0 : Nat), (3 : TypeId)), ((1 : Nat), (3 : TypeId)), ((2 : Nat), (3 : TypeId))]) (3 : Nat) (24 : Nat) [PV.int IntKind.i64 (0 : Int), PV.int IntKind.i64 (0 : Int), PV.int IntKind.i64 (0 : Int)] true []).bytes ≤ (140737488355328 : Nat) ∧ k [PV.own (0 : Nat)] [AObj.row (37 : Nat) (zs ++ ys)]) := by kernel_rfl
theorem ok_cloneW : FunF B 64 0 cloneWS := by
  refine funF_of (N := 8) (f := ff_cloneW) env_WS0 mixed fn_cloneW (by kernel_rfl) (by kernel_rfl) ?_
  intro A k ys L hA hF
  obtain ⟨l, rfl, rfl, h1, hk⟩ := cloneWS_inv hF; clear hF
  refine ⟨by kernel_rfl, (hA.nf (nf_cloneW A k l) ?_)⟩
  intro b hb
  cases b with
  | false => exact ⟨[], rfl, l, rfl, by show (0 + l.length) * 24 ≤ _; omega, hk⟩
  | true =>
    cases l with
    | nil => exact hk
    | cons x r => exact absurd (hb (by simp)) (by simp)
end Go.Ab.T
