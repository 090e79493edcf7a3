import Derived.Test.YtjopocnnngbpiaaDoorTB
import Derived.Test.YtjopocnnngbpiaaDoorMaB
import Derived.Laws.StructEq
set_option linter.unusedVariables false
set_option linter.unusedSimpArgs false
set_option linter.unusedSectionVars false
namespace Go.Ab.T
open Go Go.Ab Go.Proofs
set_option maxRecDepth 100000
theorem go_scalar {M : Nat → Prop} {w : World} {x : PV} {cs : List Value} (h : RepF.go I M w [x] cs) : RepF I M w x cs := by
  obtain ⟨v, r, rfl, _, h1, h2⟩ := h
  simp only [RepF.go] at h2
  subst h2; exact h1
def c_o9 (v : ByteArray) : List PV := [.str v]
def g_o9 (v : ByteArray) : Prop := v.size ≤ maxLen
def a_o9 (v : ByteArray) : PV := .str v
theorem op_o9 : Opens Tryd.prog I 9 c_o9 g_o9 := opens_str (show Tryd.prog.underlying 9 = some (.string) by kernel_rfl)
theorem ae_o9 (w : World) (a : ByteArray) (cs : List Value) (h : RepF.go I NoM w (c_o9 a) cs) : RepF I NoM w (a_o9 a) cs := go_scalar h
theorem aa_o9 (a : ByteArray) : (a_o9 a).isAgg = (match Tryd.prog.underlying 9 with | some (.struct _) | some (.array _ _) => true | _ => false) := by
  rw [show Tryd.prog.underlying 9 = some (.string) from by kernel_rfl]; rfl
def c_o22 (v : Int) : List PV := [.int .u64 v]
def g_o22 (v : Int) : Prop := (Lit.int .u64 v).wf = true
def a_o22 (v : Int) : PV := .int .u64 v
theorem op_o22 : Opens Tryd.prog I 22 c_o22 g_o22 := opens_int (show Tryd.prog.underlying 22 = some (.int .u64) by kernel_rfl)
theorem ae_o22 (w : World) (a : Int) (cs : List Value) (h : RepF.go I NoM w (c_o22 a) cs) : RepF I NoM w (a_o22 a) cs := go_scalar h
theorem aa_o22 (a : Int) : (a_o22 a).isAgg = (match Tryd.prog.underlying 22 with | some (.struct _) | some (.array _ _) => true | _ => false) := by
  rw [show Tryd.prog.underlying 22 = some (.int .u64) from by kernel_rfl]; rfl
def c_o3 (v : Int) : List PV := [.int .i64 v]
def g_o3 (v : Int) : Prop := (Lit.int .i64 v).wf = true
def a_o3 (v : Int) : PV := .int .i64 v
theorem op_o3 : Opens Tryd.prog I 3 c_o3 g_o3 := opens_int (show Tryd.prog.underlying 3 = some (.int .i64) by kernel_rfl)
theorem ae_o3 (w : World) (a : Int) (cs : List Value) (h : RepF.go I NoM w (c_o3 a) cs) : RepF I NoM w (a_o3 a) cs := go_scalar h
theorem aa_o3 (a : Int) : (a_o3 a).isAgg = (match Tryd.prog.underlying 3 with | some (.struct _) | some (.array _ _) => true | _ => false) := by
  rw [show Tryd.prog.underlying 3 = some (.int .i64) from by kernel_rfl]; rfl
def c_o24 (v : Int × Int × Int) : List PV := c_o22 (v.1) ++ (c_o3 (v.2.1) ++ (c_o3 (v.2.2)))
def g_o24 (v : Int × Int × Int) : Prop := g_o22 (v.1) ∧ (g_o3 (v.2.1) ∧ (g_o3 (v.2.2)))
def a_o24 (v : Int × Int × Int) : PV := .agg (c_o24 v)
theorem op_o24 : Opens Tryd.prog I 24 c_o24 g_o24 := opens_struct (ps := [(22, 0), (3, 1), (3, 2)]) (n := 3) (show Tryd.prog.underlying 24 = some (.struct (Tryd.prog.fieldsOf 24)) by kernel_rfl) (by kernel_rfl) (by kernel_rfl) (opensF_cons (o := 0) (c := 1) (by kernel_rfl) op_o22 (by kernel_rfl) (opensF_cons (o := 1) (c := 1) (by kernel_rfl) op_o3 (by kernel_rfl) (opensF_one (o := 2) (n := 1) (by kernel_rfl) op_o3)))
theorem ae_o24 (w : World) (a : Int × Int × Int) (cs : List Value) (h : RepF.go I NoM w (c_o24 a) cs) : RepF I NoM w (a_o24 a) cs := h
theorem aa_o24 (a : Int × Int × Int) : (a_o24 a).isAgg = (match Tryd.prog.underlying 24 with | some (.struct _) | some (.array _ _) => true | _ => false) := by
  rw [show Tryd.prog.underlying 24 = some (.struct (Tryd.prog.fieldsOf 24)) from by kernel_rfl]; rfl
end Go.Ab.T
