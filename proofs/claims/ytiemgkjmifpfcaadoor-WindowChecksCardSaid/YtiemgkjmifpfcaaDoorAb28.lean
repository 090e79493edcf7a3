import Derived.Test.YtiemgkjmifpfcaaDoorAb27
import Derived.Laws.StructEq
set_option linter.unusedVariables false
set_option linter.unusedSimpArgs false
namespace Go.Ab
open Go
variable {K : Codes} {C : Cfg K}

/-- The cells of a flat struct, by its fields. -/
def fitF (ty : TypeId → Option TInfo) : List Field → Nat → List PV → Bool
  | [], _, [] => true
  | f :: fs, o, x :: xs => f.name != "_" && Nat.beq f.offset o && (match ty f.type, x with
      | some { td := .bool, .. }, .bool _ => true
      | some { td := .int k, .. }, .int k' _ => decide (k = k')
      | some { td := .str, .. }, .str _ => true
      | _, _ => false) && fitF ty fs (o + 1) xs
  | _, _, _ => false

def eqsOf (P : Program) (ty : TypeId → Option TInfo) (t : TypeId) (xs : List PV) : Bool :=
  match P.underlying t with
  | some (.struct fields) => !P.stoodInHeld t && !P.eqGuardType P.depth t && fitF ty fields.toList 0 xs
  | _ => false

theorem isAgg_of {P : Program} {t : TypeId} {d : TypeDesc} (h : P.underlying t = some d) (hd : notAggD d = true) (w : World) : (isAgg t).run P w = .ok false w := by
  simp only [isAgg, Sem.run_bind, run_underlying h, Result.andThen_ok]
  cases d <;> simp_all [notAggD]

theorem part_run {P : Program} {t : TypeId} {d : TypeDesc} (h : P.underlying t = some d) (hd : notAggD d = true) {us : List Value} {o : Nat} {v : Value} (hv : us[o]? = some v) (w : World) : (part t ⟨us⟩ o).run P w = .ok v w := by
  simp [part, isAgg_of h hd, Result.andThen, hv]

theorem eqF (hty : ∀ t i, C.ty t = some i → TyOk C t i) (d : Nat) (us vs : List Value) (w : World) : ∀ (fields : List Field) (o : Nat) (xs ys : List PV) (r : Bool), fitF C.ty fields o xs = true → eqCells xs ys = some r →
    ScL xs (us.drop o) → ScL ys (vs.drop o) → (Op.eqFields (d + 1) ⟨us⟩ ⟨vs⟩ fields).run C.P w = .ok r w
  | [], o, xs, ys, r, hf, he, _, _ => by
    cases xs with
    | nil => cases ys <;> simp [eqCells] at he; subst he; simp [Op.eqFields]
    | cons x xs => simp [fitF] at hf
  | f :: fs, o, [], ys, r, hf, _, _, _ => by simp [fitF] at hf
  | f :: fs, o, x :: xs, [], r, _, he, _, _ => by cases x <;> simp [eqCells] at he
  | f :: fs, o, x :: xs, y :: ys, r, hf, he, hx, hy => by
    simp only [fitF, Bool.and_eq_true] at hf
    obtain ⟨⟨⟨h1, h2⟩, h3⟩, h4⟩ := hf
    have h1 : f.name ≠ "_" := by simpa using h1
    have h2 := Nat.eq_of_beq_eq_true h2
    obtain ⟨u, ur, hu, hsx, hxr⟩ := hx
    obtain ⟨v, vr, hv, hsy, hyr⟩ := hy
    have hu0 : us[o]? = some u := by
      have := congrArg (·[0]?) hu
      simpa using this
    have hv0 : vs[o]? = some v := by
      have := congrArg (·[0]?) hv
      simpa using this
    have hur : us.drop (o + 1) = ur := by
      have := congrArg List.tail hu
      simpa using this
    have hvr : vs.drop (o + 1) = vr := by
      have := congrArg List.tail hv
      simpa using this
    have key : ∃ (q r' : Bool) (dd : TypeDesc), C.P.underlying f.type = some dd ∧ notAggD dd = true ∧ eqCells xs ys = some r' ∧ r = (q && r') ∧ (Op.equalIn (d + 1) f.type u v).run C.P w = .ok q w := by
      split at h3
      · rename_i i1 i2 i3 i4 i5 b hq
        obtain ⟨i, hi⟩ : ∃ i, C.ty f.type = some i := ⟨_, hq⟩
        have htd := (hty _ _ hq).desc
        simp only [TDok] at htd
        cases y <;> first | (simp [eqCells] at he; done) | skip
        obtain ⟨r', h5, h6⟩ := Option.map_eq_some_iff.1 he
        simp only [Sc] at hsx hsy
        subst hsx hsy
        exact ⟨_, r', _, htd, rfl, h5, h6.symm, run_equalIn_bool' w d _ _ _ htd⟩
      · rename_i k i2 i3 i4 i5 k' n hq
        have htd := (hty _ _ hq).desc
        simp only [TDok] at htd
        simp only [decide_eq_true_eq] at h3
        subst h3
        cases y <;> first | (simp [eqCells] at he; done) | skip
        simp only [eqCells] at he
        split at he
        case isFalse => cases he
        rename_i hkk
        subst hkk
        obtain ⟨r', h5, h6⟩ := Option.map_eq_some_iff.1 he
        simp only [Sc] at hsx hsy
        subst hsx hsy
        exact ⟨_, r', _, htd, rfl, h5, h6.symm, run_equalIn_int w d _ _ _ _ _ htd⟩
      · rename_i i2 i3 i4 i5 b hq
        have htd := (hty _ _ hq).desc
        simp only [TDok] at htd
        cases y <;> first | (simp [eqCells] at he; done) | skip
        obtain ⟨r', h5, h6⟩ := Option.map_eq_some_iff.1 he
        simp only [Sc] at hsx hsy
        subst hsx hsy
        refine ⟨_, r', _, htd, rfl, h5, h6.symm, ?_⟩
        rw [beq_toListBytes]
        exact run_equalIn_string w d _ _ _ htd
      · cases h3
    obtain ⟨q, r', dd, k1, k2, k3, rfl, k5⟩ := key
    simp only [Op.eqFields, if_pos h1, h2, Sem.run_bind, part_run k1 k2 hu0, part_run k1 k2 hv0, Result.andThen_ok, k5]
    cases q with
    | false => simp
    | true =>
      simp only [Bool.not_true, Bool.false_eq_true, if_false, Bool.true_and]
      exact eqF hty d us vs w fs (o + 1) xs ys r' h4 k3 (by rw [hur]; exact hxr) (by rw [hvr]; exact hyr)

theorem eqs_ok (hty : ∀ t i, C.ty t = some i → TyOk C t i) {t : TypeId} {xs : List PV} (h : eqsOf C.P C.ty t xs = true) : EqOk C t xs := by
  unfold eqsOf at h
  split at h
  · rename_i fields hu
    simp only [Bool.and_eq_true, Bool.not_eq_true'] at h
    obtain ⟨⟨h1, h2⟩, h3⟩ := h
    refine ⟨h2, fun ys us vs r w he hx hy => ?_⟩
    have hfs : C.P.fieldsOf t = fields := by simp [Program.fieldsOf, hu]
    show (Op.equalIn (9998 + 1 + 1) t (.agg ⟨us⟩) (.agg ⟨vs⟩)).run C.P w = _
    rw [run_equalIn_struct w _ t _ _ (by rw [hfs]; exact hu) h1, hfs]
    exact eqF hty 9998 us vs w _ 0 xs ys r h3 he (by simpa using hx) (by simpa using hy)
  · cases h
end Go.Ab
