import Derived.Test.YthfagophoncabaaGreatDoorTB
import Derived.Test.YthfagophoncabaaGreatDoorMaB
import Derived.Laws.StructEq
set_option linter.unusedVariables false
set_option linter.unusedSimpArgs false
set_option linter.unusedSectionVars false
namespace Go.Ab.T
open Go Go.Ab Go.Proofs
set_option maxRecDepth 100000
theorem go_scalar {M : Nat → Prop} {w : World} {x : PV} {cs : List Value} (h : RepF.go I M w [x] cs) : RepF I M w x cs := by
  obtain ⟨v, r, rfl, _, h1, h2⟩ := h
  simp only [RepF.go] at h2
  subst h2; exact h1
def c_o4 (v : Bool) : List PV := [.bool v]
def g_o4 (v : Bool) : Prop := True
def a_o4 (v : Bool) : PV := .bool v
theorem op_o4 : Opens Tryz.prog I 4 c_o4 g_o4 := opens_bool (show Tryz.prog.underlying 4 = some (.bool) by kernel_rfl)
theorem ae_o4 (w : World) (a : Bool) (cs : List Value) (h : RepF.go I NoM w (c_o4 a) cs) : RepF I NoM w (a_o4 a) cs := go_scalar h
theorem aa_o4 (a : Bool) : (a_o4 a).isAgg = (match Tryz.prog.underlying 4 with | some (.struct _) | some (.array _ _) => true | _ => false) := by
  rw [show Tryz.prog.underlying 4 = some (.bool) from by kernel_rfl]; rfl
def c_o9 (v : ByteArray) : List PV := [.str v]
def g_o9 (v : ByteArray) : Prop := v.size ≤ reachBytes
def a_o9 (v : ByteArray) : PV := .str v
theorem op_o9 : Opens Tryz.prog I 9 c_o9 g_o9 := opens_str (show Tryz.prog.underlying 9 = some (.string) by kernel_rfl)
theorem ae_o9 (w : World) (a : ByteArray) (cs : List Value) (h : RepF.go I NoM w (c_o9 a) cs) : RepF I NoM w (a_o9 a) cs := go_scalar h
theorem aa_o9 (a : ByteArray) : (a_o9 a).isAgg = (match Tryz.prog.underlying 9 with | some (.struct _) | some (.array _ _) => true | _ => false) := by
  rw [show Tryz.prog.underlying 9 = some (.string) from by kernel_rfl]; rfl
end Go.Ab.T
