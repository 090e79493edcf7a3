import Derived.Test.YtajpmmjpkpgoeaaDoorTB
import Derived.Test.YtajpmmjpkpgoeaaDoorMaB
import Derived.Laws.StructEq
set_option linter.unusedVariables false
set_option linter.unusedSimpArgs false
set_option linter.unusedSectionVars false
namespace Go.Ab.T
open Go Go.Ab Go.Proofs
set_option maxRecDepth 100000
theorem go_scalar {M : Nat → Prop} {w : World} {x : PV} {cs : List Value} (h : RepF.go I M w [x] cs) : RepF I M w x cs := by
  obtain ⟨v, r, rfl, _, h1, h2⟩ := h
  simp only [RepF.go] at h2
  subst h2; exact h1
def c_o3 (v : Int) : List PV := [.int .i64 v]
def g_o3 (v : Int) : Prop := (Lit.int .i64 v).wf = true
theorem op_o3 : Opens Tryd.prog I 3 c_o3 g_o3 := opens_int (show Tryd.prog.underlying 3 = some (.int .i64) by kernel_rfl)
def c_o33 (v : Int × Int × Int) : List PV := c_o3 (v.1) ++ (c_o3 (v.2.1) ++ (c_o3 (v.2.2)))
def g_o33 (v : Int × Int × Int) : Prop := g_o3 (v.1) ∧ (g_o3 (v.2.1) ∧ (g_o3 (v.2.2)))
theorem op_o33 : Opens Tryd.prog I 33 c_o33 g_o33 := opens_struct (ps := [(3, 0), (3, 1), (3, 2)]) (n := 3) (show Tryd.prog.underlying 33 = some (.struct (Tryd.prog.fieldsOf 33)) by kernel_rfl) (by kernel_rfl) (by kernel_rfl) (opensF_cons (o := 0) (c := 1) (by kernel_rfl) op_o3 (by kernel_rfl) (opensF_cons (o := 1) (c := 1) (by kernel_rfl) op_o3 (by kernel_rfl) (opensF_one (o := 2) (n := 1) (by kernel_rfl) op_o3)))
def c_o22 (v : List (Int × Int × Int)) : List PV := [.sl _ e_api_Window v]
def g_o22 (v : List (Int × Int × Int)) : Prop := v.length ≤ maxLen ∧ (∀ a, a ∈ v → g_o33 a) ∧ v.length * 24 ≤ reachBytes
theorem op_o22 : Opens Tryd.prog I 22 c_o22 g_o22 := opens_slice (enc := e_api_Window) (show Tryd.prog.underlying 22 = some (.slice 33) by kernel_rfl) (s := 3) (by kernel_rfl) (by kernel_rfl) (b := 24) (by kernel_rfl) (fun _ _ _ h => h) op_o33
def c_o39 (v : Int × Int × Int) : List PV := c_o3 (v.1) ++ (c_o3 (v.2.1) ++ (c_o3 (v.2.2)))
def g_o39 (v : Int × Int × Int) : Prop := g_o3 (v.1) ∧ (g_o3 (v.2.1) ∧ (g_o3 (v.2.2)))
theorem op_o39 : Opens Tryd.prog I 39 c_o39 g_o39 := opens_struct (ps := [(3, 0), (3, 1), (3, 2)]) (n := 3) (show Tryd.prog.underlying 39 = some (.struct (Tryd.prog.fieldsOf 39)) by kernel_rfl) (by kernel_rfl) (by kernel_rfl) (opensF_cons (o := 0) (c := 1) (by kernel_rfl) op_o3 (by kernel_rfl) (opensF_cons (o := 1) (c := 1) (by kernel_rfl) op_o3 (by kernel_rfl) (opensF_one (o := 2) (n := 1) (by kernel_rfl) op_o3)))
def c_o23 (v : List (Int × Int × Int)) : List PV := [.sl _ e_api_Need v]
def g_o23 (v : List (Int × Int × Int)) : Prop := v.length ≤ maxLen ∧ (∀ a, a ∈ v → g_o39 a) ∧ v.length * 24 ≤ reachBytes
theorem op_o23 : Opens Tryd.prog I 23 c_o23 g_o23 := opens_slice (enc := e_api_Need) (show Tryd.prog.underlying 23 = some (.slice 39) by kernel_rfl) (s := 3) (by kernel_rfl) (by kernel_rfl) (b := 24) (by kernel_rfl) (fun _ _ _ h => h) op_o39
def c_o25 (v : Int × Int × (List (Int × Int × Int)) × (List (Int × Int × Int))) : List PV := c_o3 (v.1) ++ (c_o3 (v.2.1) ++ (c_o22 (v.2.2.1) ++ (c_o23 (v.2.2.2))))
def g_o25 (v : Int × Int × (List (Int × Int × Int)) × (List (Int × Int × Int))) : Prop := g_o3 (v.1) ∧ (g_o3 (v.2.1) ∧ (g_o22 (v.2.2.1) ∧ (g_o23 (v.2.2.2))))
def a_o25 (v : Int × Int × (List (Int × Int × Int)) × (List (Int × Int × Int))) : PV := .agg (c_o25 v)
theorem op_o25 : Opens Tryd.prog I 25 c_o25 g_o25 := opens_struct (ps := [(3, 0), (3, 1), (22, 2), (23, 3)]) (n := 4) (show Tryd.prog.underlying 25 = some (.struct (Tryd.prog.fieldsOf 25)) by kernel_rfl) (by kernel_rfl) (by kernel_rfl) (opensF_cons (o := 0) (c := 1) (by kernel_rfl) op_o3 (by kernel_rfl) (opensF_cons (o := 1) (c := 1) (by kernel_rfl) op_o3 (by kernel_rfl) (opensF_cons (o := 2) (c := 1) (by kernel_rfl) op_o22 (by kernel_rfl) (opensF_one (o := 3) (n := 1) (by kernel_rfl) op_o23))))
theorem ae_o25 (w : World) (a : Int × Int × (List (Int × Int × Int)) × (List (Int × Int × Int))) (cs : List Value) (h : RepF.go I NoM w (c_o25 a) cs) : RepF I NoM w (a_o25 a) cs := h
theorem aa_o25 (a : Int × Int × (List (Int × Int × Int)) × (List (Int × Int × Int))) : (a_o25 a).isAgg = (match Tryd.prog.underlying 25 with | some (.struct _) | some (.array _ _) => true | _ => false) := by
  rw [show Tryd.prog.underlying 25 = some (.struct (Tryd.prog.fieldsOf 25)) from by kernel_rfl]; rfl
def c_o26 (v : List Int) : List PV := [.sl _ e_int v]
def g_o26 (v : List Int) : Prop := v.length ≤ maxLen ∧ (∀ a, a ∈ v → g_o3 a) ∧ v.length * 8 ≤ reachBytes
def a_o26 (v : List Int) : PV := .sl _ e_int v
theorem op_o26 : Opens Tryd.prog I 26 c_o26 g_o26 := opens_slice (enc := e_int) (show Tryd.prog.underlying 26 = some (.slice 3) by kernel_rfl) (s := 1) (by kernel_rfl) (by kernel_rfl) (b := 8) (by kernel_rfl) (fun _ _ _ h => go_scalar h) op_o3
theorem ae_o26 (w : World) (a : List Int) (cs : List Value) (h : RepF.go I NoM w (c_o26 a) cs) : RepF I NoM w (a_o26 a) cs := go_scalar h
theorem aa_o26 (a : List Int) : (a_o26 a).isAgg = (match Tryd.prog.underlying 26 with | some (.struct _) | some (.array _ _) => true | _ => false) := by
  rw [show Tryd.prog.underlying 26 = some (.slice 3) from by kernel_rfl]; rfl
end Go.Ab.T
