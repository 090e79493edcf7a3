import Derived.Test.YtgnhjhdmfhfilaaDoorTB
import Derived.Test.YtgnhjhdmfhfilaaDoorMaB
import Derived.Laws.StructEq
set_option linter.unusedVariables false
set_option linter.unusedSimpArgs false
set_option linter.unusedSectionVars false
namespace Go.Ab.T
open Go Go.Ab Go.Proofs
set_option maxRecDepth 100000
theorem go_scalar {M : Nat → Prop} {w : World} {x : PV} {cs : List Value} (h : RepF.go I M w [x] cs) : RepF I M w x cs := by
  obtain ⟨v, r, rfl, _, h1, h2⟩ := h
  simp only [RepF.go] at h2
  subst h2; exact h1
def c_o3 (v : Int) : List PV := [.int .i64 v]
def g_o3 (v : Int) : Prop := (Lit.int .i64 v).wf = true
def a_o3 (v : Int) : PV := .int .i64 v
theorem op_o3 : Opens Tryd.prog I 3 c_o3 g_o3 := opens_int (show Tryd.prog.underlying 3 = some (.int .i64) by kernel_rfl)
theorem ae_o3 (w : World) (a : Int) (cs : List Value) (h : RepF.go I NoM w (c_o3 a) cs) : RepF I NoM w (a_o3 a) cs := go_scalar h
theorem aa_o3 (a : Int) : (a_o3 a).isAgg = (match Tryd.prog.underlying 3 with | some (.struct _) | some (.array _ _) => true | _ => false) := by
  rw [show Tryd.prog.underlying 3 = some (.int .i64) from by kernel_rfl]; rfl
def c_o9 (v : ByteArray) : List PV := [.str v]
def g_o9 (v : ByteArray) : Prop := v.size ≤ maxLen
def a_o9 (v : ByteArray) : PV := .str v
theorem op_o9 : Opens Tryd.prog I 9 c_o9 g_o9 := opens_str (show Tryd.prog.underlying 9 = some (.string) by kernel_rfl)
theorem ae_o9 (w : World) (a : ByteArray) (cs : List Value) (h : RepF.go I NoM w (c_o9 a) cs) : RepF I NoM w (a_o9 a) cs := go_scalar h
theorem aa_o9 (a : ByteArray) : (a_o9 a).isAgg = (match Tryd.prog.underlying 9 with | some (.struct _) | some (.array _ _) => true | _ => false) := by
  rw [show Tryd.prog.underlying 9 = some (.string) from by kernel_rfl]; rfl
def c_o37 (v : Int × Int × Int) : List PV := c_o3 (v.1) ++ (c_o3 (v.2.1) ++ (c_o3 (v.2.2)))
def g_o37 (v : Int × Int × Int) : Prop := g_o3 (v.1) ∧ (g_o3 (v.2.1) ∧ (g_o3 (v.2.2)))
def a_o37 (v : Int × Int × Int) : PV := .agg (c_o37 v)
theorem op_o37 : Opens Tryd.prog I 37 c_o37 g_o37 := opens_struct (ps := [(3, 0), (3, 1), (3, 2)]) (n := 3) (show Tryd.prog.underlying 37 = some (.struct (Tryd.prog.fieldsOf 37)) by kernel_rfl) (by kernel_rfl) (by kernel_rfl) (opensF_cons (o := 0) (c := 1) (by kernel_rfl) op_o3 (by kernel_rfl) (opensF_cons (o := 1) (c := 1) (by kernel_rfl) op_o3 (by kernel_rfl) (opensF_one (o := 2) (n := 1) (by kernel_rfl) op_o3)))
theorem ae_o37 (w : World) (a : Int × Int × Int) (cs : List Value) (h : RepF.go I NoM w (c_o37 a) cs) : RepF I NoM w (a_o37 a) cs := h
theorem aa_o37 (a : Int × Int × Int) : (a_o37 a).isAgg = (match Tryd.prog.underlying 37 with | some (.struct _) | some (.array _ _) => true | _ => false) := by
  rw [show Tryd.prog.underlying 37 = some (.struct (Tryd.prog.fieldsOf 37)) from by kernel_rfl]; rfl
def c_o27 (v : List (Int × Int × Int)) : List PV := [.sl _ e_api_Window v]
def g_o27 (v : List (Int × Int × Int)) : Prop := v.length ≤ maxLen ∧ ∀ a, a ∈ v → g_o37 a
def a_o27 (v : List (Int × Int × Int)) : PV := .sl _ e_api_Window v
theorem op_o27 : Opens Tryd.prog I 27 c_o27 g_o27 := opens_slice (enc := e_api_Window) (show Tryd.prog.underlying 27 = some (.slice 37) by kernel_rfl) (s := 3) (by kernel_rfl) (by kernel_rfl) (fun _ _ _ h => h) op_o37
theorem ae_o27 (w : World) (a : List (Int × Int × Int)) (cs : List Value) (h : RepF.go I NoM w (c_o27 a) cs) : RepF I NoM w (a_o27 a) cs := go_scalar h
theorem aa_o27 (a : List (Int × Int × Int)) : (a_o27 a).isAgg = (match Tryd.prog.underlying 27 with | some (.struct _) | some (.array _ _) => true | _ => false) := by
  rw [show Tryd.prog.underlying 27 = some (.slice 37) from by kernel_rfl]; rfl
def c_o80 (v : Int × Int × Int) : List PV := c_o3 (v.1) ++ (c_o3 (v.2.1) ++ (c_o3 (v.2.2)))
def g_o80 (v : Int × Int × Int) : Prop := g_o3 (v.1) ∧ (g_o3 (v.2.1) ∧ (g_o3 (v.2.2)))
def a_o80 (v : Int × Int × Int) : PV := .agg (c_o80 v)
theorem op_o80 : Opens Tryd.prog I 80 c_o80 g_o80 := opens_struct (ps := [(3, 0), (3, 1), (3, 2)]) (n := 3) (show Tryd.prog.underlying 80 = some (.struct (Tryd.prog.fieldsOf 80)) by kernel_rfl) (by kernel_rfl) (by kernel_rfl) (opensF_cons (o := 0) (c := 1) (by kernel_rfl) op_o3 (by kernel_rfl) (opensF_cons (o := 1) (c := 1) (by kernel_rfl) op_o3 (by kernel_rfl) (opensF_one (o := 2) (n := 1) (by kernel_rfl) op_o3)))
theorem ae_o80 (w : World) (a : Int × Int × Int) (cs : List Value) (h : RepF.go I NoM w (c_o80 a) cs) : RepF I NoM w (a_o80 a) cs := h
theorem aa_o80 (a : Int × Int × Int) : (a_o80 a).isAgg = (match Tryd.prog.underlying 80 with | some (.struct _) | some (.array _ _) => true | _ => false) := by
  rw [show Tryd.prog.underlying 80 = some (.struct (Tryd.prog.fieldsOf 80)) from by kernel_rfl]; rfl
def c_o28 (v : List (Int × Int × Int)) : List PV := [.sl _ e_api_Need v]
def g_o28 (v : List (Int × Int × Int)) : Prop := v.length ≤ maxLen ∧ ∀ a, a ∈ v → g_o80 a
def a_o28 (v : List (Int × Int × Int)) : PV := .sl _ e_api_Need v
theorem op_o28 : Opens Tryd.prog I 28 c_o28 g_o28 := opens_slice (enc := e_api_Need) (show Tryd.prog.underlying 28 = some (.slice 80) by kernel_rfl) (s := 3) (by kernel_rfl) (by kernel_rfl) (fun _ _ _ h => h) op_o80
theorem ae_o28 (w : World) (a : List (Int × Int × Int)) (cs : List Value) (h : RepF.go I NoM w (c_o28 a) cs) : RepF I NoM w (a_o28 a) cs := go_scalar h
theorem aa_o28 (a : List (Int × Int × Int)) : (a_o28 a).isAgg = (match Tryd.prog.underlying 28 with | some (.struct _) | some (.array _ _) => true | _ => false) := by
  rw [show Tryd.prog.underlying 28 = some (.slice 80) from by kernel_rfl]; rfl
def c_o30 (v : Int × Int × (List (Int × Int × Int)) × (List (Int × Int × Int))) : List PV := c_o3 (v.1) ++ (c_o3 (v.2.1) ++ (c_o27 (v.2.2.1) ++ (c_o28 (v.2.2.2))))
def g_o30 (v : Int × Int × (List (Int × Int × Int)) × (List (Int × Int × Int))) : Prop := g_o3 (v.1) ∧ (g_o3 (v.2.1) ∧ (g_o27 (v.2.2.1) ∧ (g_o28 (v.2.2.2))))
def a_o30 (v : Int × Int × (List (Int × Int × Int)) × (List (Int × Int × Int))) : PV := .agg (c_o30 v)
theorem op_o30 : Opens Tryd.prog I 30 c_o30 g_o30 := opens_struct (ps := [(3, 0), (3, 1), (27, 2), (28, 3)]) (n := 4) (show Tryd.prog.underlying 30 = some (.struct (Tryd.prog.fieldsOf 30)) by kernel_rfl) (by kernel_rfl) (by kernel_rfl) (opensF_cons (o := 0) (c := 1) (by kernel_rfl) op_o3 (by kernel_rfl) (opensF_cons (o := 1) (c := 1) (by kernel_rfl) op_o3 (by kernel_rfl) (opensF_cons (o := 2) (c := 1) (by kernel_rfl) op_o27 (by kernel_rfl) (opensF_one (o := 3) (n := 1) (by kernel_rfl) op_o28))))
theorem ae_o30 (w : World) (a : Int × Int × (List (Int × Int × Int)) × (List (Int × Int × Int))) (cs : List Value) (h : RepF.go I NoM w (c_o30 a) cs) : RepF I NoM w (a_o30 a) cs := h
theorem aa_o30 (a : Int × Int × (List (Int × Int × Int)) × (List (Int × Int × Int))) : (a_o30 a).isAgg = (match Tryd.prog.underlying 30 with | some (.struct _) | some (.array _ _) => true | _ => false) := by
  rw [show Tryd.prog.underlying 30 = some (.struct (Tryd.prog.fieldsOf 30)) from by kernel_rfl]; rfl
def c_o31 (v : List Int) : List PV := [.sl _ e_int v]
def g_o31 (v : List Int) : Prop := v.length ≤ maxLen ∧ ∀ a, a ∈ v → g_o3 a
def a_o31 (v : List Int) : PV := .sl _ e_int v
theorem op_o31 : Opens Tryd.prog I 31 c_o31 g_o31 := opens_slice (enc := e_int) (show Tryd.prog.underlying 31 = some (.slice 3) by kernel_rfl) (s := 1) (by kernel_rfl) (by kernel_rfl) (fun _ _ _ h => go_scalar h) op_o3
theorem ae_o31 (w : World) (a : List Int) (cs : List Value) (h : RepF.go I NoM w (c_o31 a) cs) : RepF I NoM w (a_o31 a) cs := go_scalar h
theorem aa_o31 (a : List Int) : (a_o31 a).isAgg = (match Tryd.prog.underlying 31 with | some (.struct _) | some (.array _ _) => true | _ => false) := by
  rw [show Tryd.prog.underlying 31 = some (.slice 3) from by kernel_rfl]; rfl
def c_o41 (v : Int) : List PV := [.int .u64 v]
def g_o41 (v : Int) : Prop := (Lit.int .u64 v).wf = true
def a_o41 (v : Int) : PV := .int .u64 v
theorem op_o41 : Opens Tryd.prog I 41 c_o41 g_o41 := opens_int (show Tryd.prog.underlying 41 = some (.int .u64) by kernel_rfl)
theorem ae_o41 (w : World) (a : Int) (cs : List Value) (h : RepF.go I NoM w (c_o41 a) cs) : RepF I NoM w (a_o41 a) cs := go_scalar h
theorem aa_o41 (a : Int) : (a_o41 a).isAgg = (match Tryd.prog.underlying 41 with | some (.struct _) | some (.array _ _) => true | _ => false) := by
  rw [show Tryd.prog.underlying 41 = some (.int .u64) from by kernel_rfl]; rfl
def c_o43 (v : Int × Int × Int) : List PV := c_o41 (v.1) ++ (c_o3 (v.2.1) ++ (c_o3 (v.2.2)))
def g_o43 (v : Int × Int × Int) : Prop := g_o41 (v.1) ∧ (g_o3 (v.2.1) ∧ (g_o3 (v.2.2)))
def a_o43 (v : Int × Int × Int) : PV := .agg (c_o43 v)
theorem op_o43 : Opens Tryd.prog I 43 c_o43 g_o43 := opens_struct (ps := [(41, 0), (3, 1), (3, 2)]) (n := 3) (show Tryd.prog.underlying 43 = some (.struct (Tryd.prog.fieldsOf 43)) by kernel_rfl) (by kernel_rfl) (by kernel_rfl) (opensF_cons (o := 0) (c := 1) (by kernel_rfl) op_o41 (by kernel_rfl) (opensF_cons (o := 1) (c := 1) (by kernel_rfl) op_o3 (by kernel_rfl) (opensF_one (o := 2) (n := 1) (by kernel_rfl) op_o3)))
theorem ae_o43 (w : World) (a : Int × Int × Int) (cs : List Value) (h : RepF.go I NoM w (c_o43 a) cs) : RepF I NoM w (a_o43 a) cs := h
theorem aa_o43 (a : Int × Int × Int) : (a_o43 a).isAgg = (match Tryd.prog.underlying 43 with | some (.struct _) | some (.array _ _) => true | _ => false) := by
  rw [show Tryd.prog.underlying 43 = some (.struct (Tryd.prog.fieldsOf 43)) from by kernel_rfl]; rfl
def c_o5 (v : UInt8) : List PV := [.int .u8 v.toNat]
def g_o5 (v : UInt8) : Prop := True
def a_o5 (v : UInt8) : PV := .int .u8 v.toNat
theorem op_o5 : Opens Tryd.prog I 5 c_o5 g_o5 := opens_u8 (show Tryd.prog.underlying 5 = some (.int .u8) by kernel_rfl)
theorem ae_o5 (w : World) (a : UInt8) (cs : List Value) (h : RepF.go I NoM w (c_o5 a) cs) : RepF I NoM w (a_o5 a) cs := go_scalar h
theorem aa_o5 (a : UInt8) : (a_o5 a).isAgg = (match Tryd.prog.underlying 5 with | some (.struct _) | some (.array _ _) => true | _ => false) := by
  rw [show Tryd.prog.underlying 5 = some (.int .u8) from by kernel_rfl]; rfl
def c_o51 (v : List UInt8) : List PV := [.sl _ e_uint8 v]
def g_o51 (v : List UInt8) : Prop := v.length ≤ maxLen ∧ ∀ a, a ∈ v → g_o5 a
def a_o51 (v : List UInt8) : PV := .sl _ e_uint8 v
theorem op_o51 : Opens Tryd.prog I 51 c_o51 g_o51 := opens_slice (enc := e_uint8) (show Tryd.prog.underlying 51 = some (.slice 5) by kernel_rfl) (s := 1) (by kernel_rfl) (by kernel_rfl) (fun _ _ _ h => go_scalar h) op_o5
theorem ae_o51 (w : World) (a : List UInt8) (cs : List Value) (h : RepF.go I NoM w (c_o51 a) cs) : RepF I NoM w (a_o51 a) cs := go_scalar h
theorem aa_o51 (a : List UInt8) : (a_o51 a).isAgg = (match Tryd.prog.underlying 51 with | some (.struct _) | some (.array _ _) => true | _ => false) := by
  rw [show Tryd.prog.underlying 51 = some (.slice 5) from by kernel_rfl]; rfl
def c_o112 (v : Int × Int) : List PV := c_o3 (v.1) ++ (c_o3 (v.2))
def g_o112 (v : Int × Int) : Prop := g_o3 (v.1) ∧ (g_o3 (v.2))
def a_o112 (v : Int × Int) : PV := .agg (c_o112 v)
theorem op_o112 : Opens Tryd.prog I 112 c_o112 g_o112 := opens_struct (ps := [(3, 0), (3, 1)]) (n := 2) (show Tryd.prog.underlying 112 = some (.struct (Tryd.prog.fieldsOf 112)) by kernel_rfl) (by kernel_rfl) (by kernel_rfl) (opensF_cons (o := 0) (c := 1) (by kernel_rfl) op_o3 (by kernel_rfl) (opensF_one (o := 1) (n := 1) (by kernel_rfl) op_o3))
theorem ae_o112 (w : World) (a : Int × Int) (cs : List Value) (h : RepF.go I NoM w (c_o112 a) cs) : RepF I NoM w (a_o112 a) cs := h
theorem aa_o112 (a : Int × Int) : (a_o112 a).isAgg = (match Tryd.prog.underlying 112 with | some (.struct _) | some (.array _ _) => true | _ => false) := by
  rw [show Tryd.prog.underlying 112 = some (.struct (Tryd.prog.fieldsOf 112)) from by kernel_rfl]; rfl
def c_o59 (v : List (Int × Int)) : List PV := [.sl _ e_api_Pair v]
def g_o59 (v : List (Int × Int)) : Prop := v.length ≤ maxLen ∧ ∀ a, a ∈ v → g_o112 a
def a_o59 (v : List (Int × Int)) : PV := .sl _ e_api_Pair v
theorem op_o59 : Opens Tryd.prog I 59 c_o59 g_o59 := opens_slice (enc := e_api_Pair) (show Tryd.prog.underlying 59 = some (.slice 112) by kernel_rfl) (s := 2) (by kernel_rfl) (by kernel_rfl) (fun _ _ _ h => h) op_o112
theorem ae_o59 (w : World) (a : List (Int × Int)) (cs : List Value) (h : RepF.go I NoM w (c_o59 a) cs) : RepF I NoM w (a_o59 a) cs := go_scalar h
theorem aa_o59 (a : List (Int × Int)) : (a_o59 a).isAgg = (match Tryd.prog.underlying 59 with | some (.struct _) | some (.array _ _) => true | _ => false) := by
  rw [show Tryd.prog.underlying 59 = some (.slice 112) from by kernel_rfl]; rfl
end Go.Ab.T
