import Derived.Test.YtiemgkjmifpfcaaDoorMaFault
set_option linter.unusedVariables false
set_option linter.unusedSimpArgs false
namespace Go.Ab.T
open Go Go.Ab
theorem down_loop {α : Type} (l : List α) (Q : Nat → Prop) (h0 : Q l.length) (hs : ∀ (i : Nat) (y : α), l[i]? = some y → Q (i + 1) → Q i) : ∀ i, i ≤ l.length → Q i := by
  have key : ∀ n i, i + n = l.length → Q i := by
    intro n
    induction n with
    | zero => intro i h; have : i = l.length := by omega
              subst this; exact h0
    | succ n ih =>
      intro i h
      have hlt : i < l.length := by omega
      exact hs i l[i] (List.getElem?_eq_getElem hlt) (ih (i + 1) (by omega))
  intro i hi
  exact key (l.length - i) i (by omega)
theorem drop_cons' {α : Type} {l : List α} {i : Nat} {y : α} (h : l[i]? = some y) : l.drop i = y :: l.drop (i + 1) := by
  obtain ⟨h1, h2⟩ := List.getElem?_eq_some_iff.1 h
  rw [← h2]; exact List.drop_eq_getElem_cons h1
theorem lt_of_get {α : Type} {l : List α} {i : Nat} {y : α} (h : l[i]? = some y) : i < l.length := (List.getElem?_eq_some_iff.1 h).1
theorem ilt_true {a b : Nat} (h : a < b) : decide ((a : Int) < (b : Int)) = true := decide_eq_true (by omega)
theorem ilt_false {a b : Nat} (h : ¬ a < b) : decide ((a : Int) < (b : Int)) = false := decide_eq_false (by omega)
theorem get_at {α : Type} {l : List α} {i : Nat} {y : α} {p : α → Prop} (hy : l[i]? = some y) (h : p y) : (0 ≤ (i : Int) ∧ (i : Int) < (l.length : Int)) ∧ ∀ z, l[(i : Int).toNat]? = some z → p z := by
  have := lt_of_get hy
  refine ⟨⟨by omega, by omega⟩, fun z hz => ?_⟩
  rw [Int.toNat_natCast, hy] at hz
  cases hz; exact h
/-- The place in front of another one. -/
theorem get_at' {α : Type} {l : List α} {i : Nat} {x : Int} {y : α} {p : α → Prop} (hx : x = (i : Int)) (hy : l[i]? = some y) (h : p y) : (0 ≤ x ∧ x < (l.length : Int)) ∧ ∀ z, l[x.toNat]? = some z → p z := by
  subst hx; exact get_at hy h
theorem wrap_succ {i : Nat} (h : i < 4611686018427387904) : IntKind.i64.wrap ((i : Int) + 1) = ((i + 1 : Nat) : Int) := by
  rw [wrap_id _ (by omega) (by omega)]; omega
theorem wrap_nat {i : Nat} {x : Int} (hx : x = (i : Int)) (h : i < 4611686018427387904) : IntKind.i64.wrap x = (i : Int) := by
  subst hx; exact wrap_id _ (by omega) (by omega)
end Go.Ab.T
