import Derived.Test.YtiflhpcbnnnddaaDoorText03
import Derived.Test.YtiflhpcbnnnddaaDoorAs2
import Derived.Test.YtiflhpcbnnnddaaDoorOp
set_option linter.unusedVariables false
set_option linter.unusedSimpArgs false
namespace Go.Ab.T
open Go Go.Ab Go.Proofs
set_option maxRecDepth 100000
set_option maxHeartbeats 4000000
noncomputable def Y0 := base (fun g => match g with | 40 => some (lift 0 namesF) | 54 => some (lift 0 namesF) | _ => none) (fun g => match g with | 39 => some nameS | 18 => some nameS | 17 => some newS | 16 => some atS | 22 => some inS | 86 => some itoaS | 85 => some fmtS | 84 => some itoaS | 83 => some itoaS | 38 => some e3S | 15 => some trueS | 19 => some firstS | 9 => some ofS | _ => none) (fun g => match g with | "Error" => some e3S | _ => none)
theorem env_Y0 : EnvOk Y0 := env_of (by
    intro g F h
    split at h
    · cases h; exact ok_Name
    · cases h; exact ok_rName
    · cases h; exact ok_New
    · cases h; exact ok_At
    · cases h; exact ok_In
    · cases h; exact ok_small
    · cases h; exact ok_fmt
    · cases h; exact ok_itoaI
    · cases h; exact ok_itoa
    · cases h; exact ok_text
    · cases h; exact ok_awake03
    · cases h; exact ok_first
    · cases h; exact of_ok
    · cases h) (by
    intro g F h
    split at h
    · cases h; exact (lift_ok ok_rnames)
    · cases h; exact (lift_ok ok_names)
    · cases h) (by
    intro g F h
    split at h
    · cases h; exact ok_e3
    · cases h)
theorem fn_FaultFirst : FnOk Tryd.prog 4 Tryd.f4 (bodyOf Tryd.f4) := ⟨by kernel_rfl, by kernel_rfl, by kernel_rfl⟩
noncomputable def ff_FaultFirst : Fun := ⟨Tryd.f4.ntmps, 0, Tryd.f4.results.toList, fun i => match i with | 6 => some [3, 4, 13, 14, 15] | _ => none, fun _ => false, fun _ => []⟩
theorem nf_FF_a (A : KA Kd) (k : List PV → Heap Kd → Prop) (l : List Int) : evT Y0 ff_FaultFirst A k 400 false [.code (bodyOf Tryd.f4)] (startEnv 48 [.sl _ e_int l]) [] = (bif decide ((↑l.length : Int) > (20 : Int)) then k [PV.bool true] []
else A (td Tryd.f4 (6 : Nat)) (envAt (48 : Nat) [((3 : Nat), PV.own (0 : Nat)), ((4 : Nat), PV.ptr (1 : Nat) (0 : Nat)), ((13 : Nat), PV.sl Int e_int l), ((14 : Nat), PV.int IntKind.i64 (↑l.length : Int)), ((15 : Nat), PV.int IntKind.i64 (0 : Int))]) [AObj.row (27 : Nat) [], AObj.box [PV.int IntKind.i64 (0 : Int), PV.int IntKind.i64 (0 : Int), PV.int IntKind.i64 (0 : Int)]]) := by kernel_rfl
theorem nf_FF_b (A : KA Kd) (k : List PV → Heap Kd → Prop) (l : List Int) (n i w1 w2 w3 : Int) (es : List Err) : evT Y0 ff_FaultFirst A k 400 true (td Tryd.f4 6) (envAt 48 [(3, .own 0), (4, .ptr 1 0), (13, .sl _ e_int l), (14, .int .i64 n), (15, .int .i64 i)]) [.row 27 es, .box [.int .i64 w1, .int .i64 w2, .int .i64 w3]] = (bif decide (i < n) then ((0 : Int) ≤ i ∧ i < (↑l.length : Int)) ∧ ∀ (y : Int), l[i.toNat]? = some y → ∃ (zs : List Err), List.map e_error zs = [PV.err (atE i (newE y))] ∧ (es.length + (zs).length) * (TInfo.mk TD.iface (1 : Nat) (16 : Nat) [PV.err Err.nil] false []).bytes ≤ (140737488355328 : Nat) ∧ bif w1 == (0 : Int) then bif !(nameOf y).toList == (ByteArray.mk #[]).toList then A (td Tryd.f4 (6 : Nat)) (envAt (48 : Nat) [((3 : Nat), PV.own (0 : Nat)), ((4 : Nat), PV.ptr (1 : Nat) (0 : Nat)), ((13 : Nat), PV.sl Int e_int l), ((14 : Nat), PV.int IntKind.i64 n), ((15 : Nat), PV.int IntKind.i64 (IntKind.i64.wrap (i + (1 : Int))))]) [AObj.row (27 : Nat) (es ++ zs), AObj.box [PV.int IntKind.i64 y, PV.int IntKind.i64 (0 : Int), PV.int IntKind.i64 i]] else A (td Tryd.f4 (6 : Nat)) (envAt (48 : Nat) [((3 : Nat), PV.own (0 : Nat)), ((4 : Nat), PV.ptr (1 : Nat) (0 : Nat)), ((13 : Nat), PV.sl Int e_int l), ((14 : Nat), PV.int IntKind.i64 n), ((15 : Nat), PV.int IntKind.i64 (IntKind.i64.wrap (i + (1 : Int))))]) [AObj.row (27 : Nat) (es ++ zs), AObj.box [PV.int IntKind.i64 w1, PV.int IntKind.i64 w2, PV.int IntKind.i64 w3]] else A (td Tryd.f4 (6 : Nat)) (envAt (48 : Nat) [((3 : Nat), PV.own (0 : Nat)), ((4 : Nat), PV.ptr (1 : Nat) (0 : Nat)), ((13 : Nat), PV.sl Int e_int l), ((14 : Nat), PV.int IntKind.i64 n), ((15 : Nat), PV.int IntKind.i64 (IntKind.i64.wrap (i + (1 : Int))))]) [AObj.row (27 : Nat) (es ++ zs), AObj.box [PV.int IntKind.i64 w1, PV.int IntKind.i64 w2, PV.int IntKind.i64 w3]]
else ∃ (l : List Err), PV.sl Err e_error es = PV.sl Err e_error l ∧ l.length < (4611686018427387904 : Nat) ∧ bif (ofE (firstE l)).fst == w1 && ((ofE (firstE l)).snd.fst == w2 && ((ofE (firstE l)).snd.snd == w3 && true)) then k [PV.bool true] [] else k [PV.bool false] []) := by kernel_rfl
def lawFFS : SpecS := fun ys Φ => match ys with
  | [x_0] => ∃ (l : List Int), x_0 = .sl _ e_int l ∧ Φ [.bool true]
  | _ => False
theorem lawFFS_mono : MonoS lawFFS := by
  intro ys Φ Ψ h hF
  unfold lawFFS at hF ⊢
  split at hF
  · obtain ⟨a0, q0, hk⟩ := hF; exact ⟨a0, q0, h _ hk⟩
  · exact hF.elim
theorem lawFFS_inv {ys : List PV} {Φ : List PV → Prop} (h : lawFFS ys Φ) : ∃ (l : List Int), ys = [.sl _ e_int l] ∧ Φ [.bool true] := by
  unfold lawFFS at h
  split at h
  · obtain ⟨a0, q0, hz⟩ := h
    subst q0
    exact ⟨a0, rfl, hz⟩
  · exact h.elim
theorem FF_loop (A : KA Kd) (k : List PV → Heap Kd → Prop) (hA : Closed Y0 ff_FaultFirst k A) (l : List Int) (hl : l.length ≤ 20) (hk : k [.bool true] []) :
    ∀ i, i ≤ l.length → ∀ es : List Err, es.length ≤ i → (∀ e, e ∈ es → PlcE e) →
      A (td Tryd.f4 6) (envAt 48 [(3, .own 0), (4, .ptr 1 0), (13, .sl _ e_int l), (14, .int .i64 (l.length : Int)), (15, .int .i64 (i : Int))]) [.row 27 es, .box [.int .i64 (ofE (firstE es)).1, .int .i64 (ofE (firstE es)).2.1, .int .i64 (ofE (firstE es)).2.2]] := by
  refine down_loop l _ ?_ ?_
  · intro es he hp
    refine (hA.nf (nf_FF_b A k l _ _ _ _ _ es) ?_)
    rw [ilt_false (Nat.lt_irrefl _), cond_false]
    refine ⟨es, rfl, by omega, ?_⟩
    simp only [beq_self_eq_true, Bool.and_self, cond_true]
    exact hk
  · intro i y hy ih es he hp
    have hlt := lt_of_get hy
    refine (hA.nf (nf_FF_b A k l _ _ _ _ _ es) ?_)
    rw [ilt_true hlt, cond_true, wrap_succ (by omega)]
    refine get_at hy ⟨[atE (i : Int) (newE y)], rfl, by show (es.length + 1) * 16 ≤ _; omega, ?_⟩
    have hp2 : ∀ e, e ∈ es ++ [atE (i : Int) (newE y)] → PlcE e := by
      intro e he
      rcases List.mem_append.1 he with h | h
      · exact hp e h
      · rw [List.mem_singleton] at h; subst h; exact plc_at _ _
    have hn := ih (es ++ [atE (i : Int) (newE y)]) (by rw [List.length_append, List.length_singleton]; omega) hp2
    rw [firstE_append] at hn
    have hf := (first_plc es hp).nil_iff
    show (bif (ofE (firstE es)).1 == 0 then _ else _ : Prop)
    rw [hf, nameOf_empty, Bool.not_not]
    cases c1 : (firstE es).isNil with
    | false => rw [c1] at hn; exact hn
    | true =>
      rw [c1] at hn
      have hnil : firstE es = .nil := isNil_eq' c1
      cases c2 : isCls y with
      | true =>
        have : atE (i : Int) (newE y) = .plc (i : Int) (.cls y) := by unfold newE; rw [c2]; rfl
        rw [this] at hn ⊢
        exact hn
      | false =>
        have : atE (i : Int) (newE y) = .nil := by unfold newE; rw [c2]; rfl
        rw [this] at hn ⊢
        rw [hnil]
        exact hn
theorem ok_FF : FunS B 4 lawFFS := by
  refine funS_of (N := 48) (f := ff_FaultFirst) env_Y0 mixed fn_FaultFirst (by kernel_rfl) (by kernel_rfl) (by kernel_rfl) lawFFS_mono ?_
  intro A k ys hA hF
  obtain ⟨l, rfl, hk⟩ := lawFFS_inv hF; clear hF
  refine ⟨by kernel_rfl, (hA.nf (nf_FF_a A k l) ?_)⟩
  cases hl : decide ((l.length : Int) > 20) with
  | true => exact hk
  | false =>
    rw [decide_eq_false_iff_not] at hl
    exact FF_loop A k hA l (by omega) hk 0 (Nat.zero_le _) [] (Nat.le_refl _) (fun e he => by cases he)
theorem pre_FaultFirst (l : List Int) (_ : g_o43 l) : lawFFS [a_o43 l] fun rs => rs = [.bool true] :=
  ⟨l, rfl, rfl⟩
end Go.Ab.T
