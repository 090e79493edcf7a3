import Derived.Test.YtiemgkjmifpfcaaDoorMaLoop
import Derived.Test.YtiemgkjmifpfcaaDoorCod
set_option linter.unusedVariables false
set_option linter.unusedSimpArgs false
namespace Go.Ab.T
open Go Go.Ab
def hasI (v : Int) : List Int → Bool
  | [] => false
  | x :: r => bif v == x then true else hasI v r
def idxI (v : Int) : List Int → Int → Int
  | [], _ => -1
  | x :: r, i => bif v == x then i else idxI v r (i + 1)
theorem idxI_has (v : Int) : ∀ (l : List Int) (i : Int), 0 ≤ i → decide (idxI v l i ≥ 0) = hasI v l
  | [], i, h => rfl
  | x :: r, i, h => by
    by_cases hx : (v == x) = true
    · have e1 : idxI v (x :: r) i = i := by rw [idxI, hx]; rfl
      have e2 : hasI v (x :: r) = true := by rw [hasI, hx]; rfl
      rw [e1, e2]; simpa using h
    · have hx : (v == x) = false := by simpa using hx
      have e1 : idxI v (x :: r) i = idxI v r (i + 1) := by rw [idxI, hx]; rfl
      have e2 : hasI v (x :: r) = hasI v r := by rw [hasI, hx]; rfl
      rw [e1, e2]; exact idxI_has v r (i + 1) (by omega)
abbrev Win := Int × Int × Int
/-- Is a window within a frame? -/
def fitsW (w : Win) (fr : Int) : Bool := decide (w.2.2 > 0) && decide (w.2.1 ≥ 0) && decide (w.2.1 ≤ fr) && decide (w.2.2 ≤ IntKind.i64.wrap (fr - w.2.1))
def wrongW (fr : Int) (ids : List Int) (p w : Win) : Int :=
  bif !hasI w.1 ids then 10 else bif !fitsW w fr then 11 else bif decide (w.2.1 < p.2.1) then 9 else bif decide (w.2.1 < IntKind.i64.wrap (p.2.1 + p.2.2)) then 12 else 0
/-- The first window that is wrong: its number, the class. -/
def chkW (fr : Int) (ids : List Int) : Win → List Win → Int → Int × Int
  | _, [], _ => (0, 0)
  | p, w :: r, i => bif wrongW fr ids p w == 0 then chkW fr ids w r (i + 1) else (i, wrongW fr ids p w)
/-- The window in front of a place. -/
def prevW (ws : List Win) : Nat → Option Win
  | 0 => some (0, 0, 0)
  | m + 1 => ws[m]?
def errW (r : Int × Int) : Err := bif r.2 == 0 then .nil else .plc r.1 (.cls r.2)
theorem wrongW_cases (fr : Int) (ids : List Int) (p w : Win) : wrongW fr ids p w = 10 ∨ wrongW fr ids p w = 11 ∨ wrongW fr ids p w = 9 ∨ wrongW fr ids p w = 12 ∨ wrongW fr ids p w = 0 := by
  unfold wrongW
  cases hasI w.1 ids <;> cases fitsW w fr <;> cases decide (w.2.1 < p.2.1) <;> cases decide (w.2.1 < IntKind.i64.wrap (p.2.1 + p.2.2)) <;> simp
theorem isCls_wrongW (fr : Int) (ids : List Int) (p w : Win) : isCls (wrongW fr ids p w) = !(wrongW fr ids p w == 0) := by
  rcases wrongW_cases fr ids p w with h | h | h | h | h <;> rw [h] <;> decide
theorem at_new (i c : Int) (h : isCls c = true) : atE i (newE c) = .plc i (.cls c) := by
  unfold newE; rw [h]; rfl
theorem fitsW_not (w : Win) (fr : Int) : fitsW w fr = !(decide (w.2.2 < 1) || decide (w.2.1 < 0) || decide (w.2.1 > fr) || decide (w.2.2 > IntKind.i64.wrap (fr - w.2.1))) := by
  unfold fitsW
  generalize IntKind.i64.wrap (fr - w.2.1) = z
  rw [Bool.eq_iff_iff]
  simp only [Bool.and_eq_true, decide_eq_true_eq, Bool.not_eq_true', Bool.or_eq_false_iff, decide_eq_false_iff_not]
  omega
end Go.Ab.T
