import Derived.Test.YtohgjkogfmjpoaaDoorTB
import Derived.Test.YtohgjkogfmjpoaaDoorMaB
import Derived.Laws.StructEq
set_option linter.unusedVariables false
set_option linter.unusedSimpArgs false
namespace Go.Ab.T
open Go Go.Ab Go.Proofs
set_option maxRecDepth 100000
theorem go_scalar {M : Nat → Prop} {w : World} {x : PV} {cs : List Value} (h : RepF.go I M w [x] cs) : RepF I M w x cs := by
  obtain ⟨v, r, rfl, _, h1, h2⟩ := h
  simp only [RepF.go] at h2
  subst h2; exact h1
def c_o3 (v : Int) : List PV := [.int .i64 v]
def g_o3 (v : Int) : Prop := (Lit.int .i64 v).wf = true
def a_o3 (v : Int) : PV := .int .i64 v
theorem op_o3 : Opens Tryd.prog I 3 c_o3 g_o3 := opens_int (show Tryd.prog.underlying 3 = some (.int .i64) by kernel_rfl)
theorem ae_o3 (w : World) (a : Int) (cs : List Value) (h : RepF.go I NoM w (c_o3 a) cs) : RepF I NoM w (a_o3 a) cs := go_scalar h
theorem aa_o3 (a : Int) : (a_o3 a).isAgg = (match Tryd.prog.underlying 3 with | some (.struct _) | some (.array _ _) => true | _ => false) := by
  rw [show Tryd.prog.underlying 3 = some (.int .i64) from by kernel_rfl]; rfl
def c_o9 (v : ByteArray) : List PV := [.str v]
def g_o9 (v : ByteArray) : Prop := v.size ≤ maxLen
def a_o9 (v : ByteArray) : PV := .str v
theorem op_o9 : Opens Tryd.prog I 9 c_o9 g_o9 := opens_str (show Tryd.prog.underlying 9 = some (.string) by kernel_rfl)
theorem ae_o9 (w : World) (a : ByteArray) (cs : List Value) (h : RepF.go I NoM w (c_o9 a) cs) : RepF I NoM w (a_o9 a) cs := go_scalar h
theorem aa_o9 (a : ByteArray) : (a_o9 a).isAgg = (match Tryd.prog.underlying 9 with | some (.struct _) | some (.array _ _) => true | _ => false) := by
  rw [show Tryd.prog.underlying 9 = some (.string) from by kernel_rfl]; rfl
end Go.Ab.T
