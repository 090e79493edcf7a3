import Derived.Test.YtiemgkjmifpfcaaDoorMaErr
set_option linter.unusedVariables false
set_option linter.unusedSimpArgs false
namespace Go.Ab.T
open Go Go.Ab
theorem by_nf {p q : Prop} (h : p = q) (hq : q) : p := h ▸ hq
def nms : List ByteArray := [⟨#[]⟩, ⟨#[97, 114, 103, 117, 109, 101, 110, 116]⟩, ⟨#[115, 104, 111, 114, 116]⟩, ⟨#[109, 97, 103, 105, 99]⟩, ⟨#[108, 101, 110, 103, 116, 104]⟩, ⟨#[115, 117, 109]⟩, ⟨#[102, 111, 114, 109]⟩, ⟨#[110, 97, 109, 101]⟩, ⟨#[109, 97, 110, 121]⟩, ⟨#[111, 114, 100, 101, 114]⟩, ⟨#[114, 101, 102, 101, 114, 101, 110, 99, 101]⟩, ⟨#[119, 105, 110, 100, 111, 119]⟩, ⟨#[111, 118, 101, 114, 108, 97, 112]⟩, ⟨#[112, 101, 114, 105, 111, 100]⟩, ⟨#[98, 117, 100, 103, 101, 116]⟩, ⟨#[112, 97, 105, 114]⟩, ⟨#[104, 97, 108, 116]⟩, ⟨#[115, 116, 97, 116, 101]⟩, ⟨#[114, 97, 110, 103, 101]⟩]
/-- Is it a class? -/
def isCls (n : Int) : Bool := decide (1 ≤ n) && decide (n ≤ 18)
/-- A class's name. -/
def nameOf (n : Int) : ByteArray := bif isCls n then nms.getD n.toNat ⟨#[]⟩ else ⟨#[]⟩
theorem nms_len : nms.length = 19 := by decide
theorem nms_get {n : Int} (h : isCls n = true) {y : ByteArray} (hy : nms[n.toNat]? = some y) : nameOf n = y := by
  simp [nameOf, h, List.getD_eq_getElem?_getD, hy]
theorem nameOf_empty (n : Int) : ((nameOf n).toList == ByteArray.toList ⟨#[]⟩) = !isCls n := by
  rw [ByteArray.toList_eq, ByteArray.toList_eq]
  unfold nameOf
  cases h : isCls n with
  | false => rfl
  | true =>
    simp only [isCls, Bool.and_eq_true, decide_eq_true_eq] at h
    have key : ∀ k : Nat, k < 19 → 1 ≤ k → ((nms.getD k ⟨#[]⟩).data.toList == (⟨#[]⟩ : ByteArray).data.toList) = false := by decide
    exact key n.toNat (by omega) (by omega)
def newE (n : Int) : Err := bif isCls n then .cls n else .nil
def atE (n : Int) (e : Err) : Err := bif e.isNil then .nil else .plc n e
def inE (n : Int) (e : Err) : Err := bif e.isNil then .nil else .sec n e
theorem isNil_newE (n : Int) : (newE n).isNil = !isCls n := by
  unfold newE; cases isCls n <;> rfl
end Go.Ab.T
