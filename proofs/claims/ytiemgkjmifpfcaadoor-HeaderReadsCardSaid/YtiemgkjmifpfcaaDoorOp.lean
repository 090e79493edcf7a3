import Derived.Test.YtiemgkjmifpfcaaDoorTB
import Derived.Test.YtiemgkjmifpfcaaDoorMaB
import Derived.Laws.StructEq
set_option linter.unusedVariables false
set_option linter.unusedSimpArgs false
namespace Go.Ab.T
open Go Go.Ab Go.Proofs
set_option maxRecDepth 100000
theorem go_scalar {M : Nat → Prop} {w : World} {x : PV} {cs : List Value} (h : RepF.go I M w [x] cs) : RepF I M w x cs := by
  obtain ⟨v, r, rfl, _, h1, h2⟩ := h
  simp only [RepF.go] at h2
  subst h2; exact h1
def c_o3 (v : Int) : List PV := [.int .i64 v]
def g_o3 (v : Int) : Prop := (Lit.int .i64 v).wf = true
def a_o3 (v : Int) : PV := .int .i64 v
theorem op_o3 : Opens Tryd.prog I 3 c_o3 g_o3 := opens_int (show Tryd.prog.underlying 3 = some (.int .i64) by kernel_rfl)
theorem ae_o3 (w : World) (a : Int) (cs : List Value) (h : RepF.go I NoM w (c_o3 a) cs) : RepF I NoM w (a_o3 a) cs := go_scalar h
theorem aa_o3 (a : Int) : (a_o3 a).isAgg = (match Tryd.prog.underlying 3 with | some (.struct _) | some (.array _ _) => true | _ => false) := by
  rw [show Tryd.prog.underlying 3 = some (.int .i64) from by kernel_rfl]; rfl
def c_o5 (v : UInt8) : List PV := [.int .u8 v.toNat]
def g_o5 (v : UInt8) : Prop := True
def a_o5 (v : UInt8) : PV := .int .u8 v.toNat
theorem op_o5 : Opens Tryd.prog I 5 c_o5 g_o5 := opens_u8 (show Tryd.prog.underlying 5 = some (.int .u8) by kernel_rfl)
theorem ae_o5 (w : World) (a : UInt8) (cs : List Value) (h : RepF.go I NoM w (c_o5 a) cs) : RepF I NoM w (a_o5 a) cs := go_scalar h
theorem aa_o5 (a : UInt8) : (a_o5 a).isAgg = (match Tryd.prog.underlying 5 with | some (.struct _) | some (.array _ _) => true | _ => false) := by
  rw [show Tryd.prog.underlying 5 = some (.int .u8) from by kernel_rfl]; rfl
def c_o9 (v : ByteArray) : List PV := [.str v]
def g_o9 (v : ByteArray) : Prop := v.size ≤ maxLen
def a_o9 (v : ByteArray) : PV := .str v
theorem op_o9 : Opens Tryd.prog I 9 c_o9 g_o9 := opens_str (show Tryd.prog.underlying 9 = some (.string) by kernel_rfl)
theorem ae_o9 (w : World) (a : ByteArray) (cs : List Value) (h : RepF.go I NoM w (c_o9 a) cs) : RepF I NoM w (a_o9 a) cs := go_scalar h
theorem aa_o9 (a : ByteArray) : (a_o9 a).isAgg = (match Tryd.prog.underlying 9 with | some (.struct _) | some (.array _ _) => true | _ => false) := by
  rw [show Tryd.prog.underlying 9 = some (.string) from by kernel_rfl]; rfl
def c_o65 (v : Int × Int × Int) : List PV := c_o3 (v.1) ++ (c_o3 (v.2.1) ++ (c_o3 (v.2.2)))
def g_o65 (v : Int × Int × Int) : Prop := g_o3 (v.1) ∧ (g_o3 (v.2.1) ∧ (g_o3 (v.2.2)))
def a_o65 (v : Int × Int × Int) : PV := .agg (c_o65 v)
theorem op_o65 : Opens Tryd.prog I 65 c_o65 g_o65 := opens_struct (ps := [(3, 0), (3, 1), (3, 2)]) (n := 3) (show Tryd.prog.underlying 65 = some (.struct (Tryd.prog.fieldsOf 65)) by kernel_rfl) (by kernel_rfl) (by kernel_rfl) (opensF_cons (o := 0) (c := 1) (by kernel_rfl) op_o3 (by kernel_rfl) (opensF_cons (o := 1) (c := 1) (by kernel_rfl) op_o3 (by kernel_rfl) (opensF_one (o := 2) (n := 1) (by kernel_rfl) op_o3)))
theorem ae_o65 (w : World) (a : Int × Int × Int) (cs : List Value) (h : RepF.go I NoM w (c_o65 a) cs) : RepF I NoM w (a_o65 a) cs := h
theorem aa_o65 (a : Int × Int × Int) : (a_o65 a).isAgg = (match Tryd.prog.underlying 65 with | some (.struct _) | some (.array _ _) => true | _ => false) := by
  rw [show Tryd.prog.underlying 65 = some (.struct (Tryd.prog.fieldsOf 65)) from by kernel_rfl]; rfl
def c_o22 (v : List (Int × Int × Int)) : List PV := [.sl _ e_api_Window v]
def g_o22 (v : List (Int × Int × Int)) : Prop := v.length ≤ maxLen ∧ ∀ a, a ∈ v → g_o65 a
def a_o22 (v : List (Int × Int × Int)) : PV := .sl _ e_api_Window v
theorem op_o22 : Opens Tryd.prog I 22 c_o22 g_o22 := opens_slice (enc := e_api_Window) (show Tryd.prog.underlying 22 = some (.slice 65) by kernel_rfl) (s := 3) (by kernel_rfl) (by kernel_rfl) (fun _ _ _ h => h) op_o65
theorem ae_o22 (w : World) (a : List (Int × Int × Int)) (cs : List Value) (h : RepF.go I NoM w (c_o22 a) cs) : RepF I NoM w (a_o22 a) cs := go_scalar h
theorem aa_o22 (a : List (Int × Int × Int)) : (a_o22 a).isAgg = (match Tryd.prog.underlying 22 with | some (.struct _) | some (.array _ _) => true | _ => false) := by
  rw [show Tryd.prog.underlying 22 = some (.slice 65) from by kernel_rfl]; rfl
def c_o115 (v : Int × Int × Int) : List PV := c_o3 (v.1) ++ (c_o3 (v.2.1) ++ (c_o3 (v.2.2)))
def g_o115 (v : Int × Int × Int) : Prop := g_o3 (v.1) ∧ (g_o3 (v.2.1) ∧ (g_o3 (v.2.2)))
def a_o115 (v : Int × Int × Int) : PV := .agg (c_o115 v)
theorem op_o115 : Opens Tryd.prog I 115 c_o115 g_o115 := opens_struct (ps := [(3, 0), (3, 1), (3, 2)]) (n := 3) (show Tryd.prog.underlying 115 = some (.struct (Tryd.prog.fieldsOf 115)) by kernel_rfl) (by kernel_rfl) (by kernel_rfl) (opensF_cons (o := 0) (c := 1) (by kernel_rfl) op_o3 (by kernel_rfl) (opensF_cons (o := 1) (c := 1) (by kernel_rfl) op_o3 (by kernel_rfl) (opensF_one (o := 2) (n := 1) (by kernel_rfl) op_o3)))
theorem ae_o115 (w : World) (a : Int × Int × Int) (cs : List Value) (h : RepF.go I NoM w (c_o115 a) cs) : RepF I NoM w (a_o115 a) cs := h
theorem aa_o115 (a : Int × Int × Int) : (a_o115 a).isAgg = (match Tryd.prog.underlying 115 with | some (.struct _) | some (.array _ _) => true | _ => false) := by
  rw [show Tryd.prog.underlying 115 = some (.struct (Tryd.prog.fieldsOf 115)) from by kernel_rfl]; rfl
def c_o23 (v : List (Int × Int × Int)) : List PV := [.sl _ e_api_Need v]
def g_o23 (v : List (Int × Int × Int)) : Prop := v.length ≤ maxLen ∧ ∀ a, a ∈ v → g_o115 a
def a_o23 (v : List (Int × Int × Int)) : PV := .sl _ e_api_Need v
theorem op_o23 : Opens Tryd.prog I 23 c_o23 g_o23 := opens_slice (enc := e_api_Need) (show Tryd.prog.underlying 23 = some (.slice 115) by kernel_rfl) (s := 3) (by kernel_rfl) (by kernel_rfl) (fun _ _ _ h => h) op_o115
theorem ae_o23 (w : World) (a : List (Int × Int × Int)) (cs : List Value) (h : RepF.go I NoM w (c_o23 a) cs) : RepF I NoM w (a_o23 a) cs := go_scalar h
theorem aa_o23 (a : List (Int × Int × Int)) : (a_o23 a).isAgg = (match Tryd.prog.underlying 23 with | some (.struct _) | some (.array _ _) => true | _ => false) := by
  rw [show Tryd.prog.underlying 23 = some (.slice 115) from by kernel_rfl]; rfl
def c_o25 (v : Int × Int × (List (Int × Int × Int)) × (List (Int × Int × Int))) : List PV := c_o3 (v.1) ++ (c_o3 (v.2.1) ++ (c_o22 (v.2.2.1) ++ (c_o23 (v.2.2.2))))
def g_o25 (v : Int × Int × (List (Int × Int × Int)) × (List (Int × Int × Int))) : Prop := g_o3 (v.1) ∧ (g_o3 (v.2.1) ∧ (g_o22 (v.2.2.1) ∧ (g_o23 (v.2.2.2))))
def a_o25 (v : Int × Int × (List (Int × Int × Int)) × (List (Int × Int × Int))) : PV := .agg (c_o25 v)
theorem op_o25 : Opens Tryd.prog I 25 c_o25 g_o25 := opens_struct (ps := [(3, 0), (3, 1), (22, 2), (23, 3)]) (n := 4) (show Tryd.prog.underlying 25 = some (.struct (Tryd.prog.fieldsOf 25)) by kernel_rfl) (by kernel_rfl) (by kernel_rfl) (opensF_cons (o := 0) (c := 1) (by kernel_rfl) op_o3 (by kernel_rfl) (opensF_cons (o := 1) (c := 1) (by kernel_rfl) op_o3 (by kernel_rfl) (opensF_cons (o := 2) (c := 1) (by kernel_rfl) op_o22 (by kernel_rfl) (opensF_one (o := 3) (n := 1) (by kernel_rfl) op_o23))))
theorem ae_o25 (w : World) (a : Int × Int × (List (Int × Int × Int)) × (List (Int × Int × Int))) (cs : List Value) (h : RepF.go I NoM w (c_o25 a) cs) : RepF I NoM w (a_o25 a) cs := h
theorem aa_o25 (a : Int × Int × (List (Int × Int × Int)) × (List (Int × Int × Int))) : (a_o25 a).isAgg = (match Tryd.prog.underlying 25 with | some (.struct _) | some (.array _ _) => true | _ => false) := by
  rw [show Tryd.prog.underlying 25 = some (.struct (Tryd.prog.fieldsOf 25)) from by kernel_rfl]; rfl
def c_o26 (v : List Int) : List PV := [.sl _ e_int v]
def g_o26 (v : List Int) : Prop := v.length ≤ maxLen ∧ ∀ a, a ∈ v → g_o3 a
def a_o26 (v : List Int) : PV := .sl _ e_int v
theorem op_o26 : Opens Tryd.prog I 26 c_o26 g_o26 := opens_slice (enc := e_int) (show Tryd.prog.underlying 26 = some (.slice 3) by kernel_rfl) (s := 1) (by kernel_rfl) (by kernel_rfl) (fun _ _ _ h => go_scalar h) op_o3
theorem ae_o26 (w : World) (a : List Int) (cs : List Value) (h : RepF.go I NoM w (c_o26 a) cs) : RepF I NoM w (a_o26 a) cs := go_scalar h
theorem aa_o26 (a : List Int) : (a_o26 a).isAgg = (match Tryd.prog.underlying 26 with | some (.struct _) | some (.array _ _) => true | _ => false) := by
  rw [show Tryd.prog.underlying 26 = some (.slice 3) from by kernel_rfl]; rfl
def c_o4 (v : Bool) : List PV := [.bool v]
def g_o4 (v : Bool) : Prop := True
def a_o4 (v : Bool) : PV := .bool v
theorem op_o4 : Opens Tryd.prog I 4 c_o4 g_o4 := opens_bool (show Tryd.prog.underlying 4 = some (.bool) by kernel_rfl)
theorem ae_o4 (w : World) (a : Bool) (cs : List Value) (h : RepF.go I NoM w (c_o4 a) cs) : RepF I NoM w (a_o4 a) cs := go_scalar h
theorem aa_o4 (a : Bool) : (a_o4 a).isAgg = (match Tryd.prog.underlying 4 with | some (.struct _) | some (.array _ _) => true | _ => false) := by
  rw [show Tryd.prog.underlying 4 = some (.bool) from by kernel_rfl]; rfl
def c_o50 (v : Int × Int × Int × Bool) : List PV := c_o3 (v.1) ++ (c_o3 (v.2.1) ++ (c_o3 (v.2.2.1) ++ (c_o4 (v.2.2.2))))
def g_o50 (v : Int × Int × Int × Bool) : Prop := g_o3 (v.1) ∧ (g_o3 (v.2.1) ∧ (g_o3 (v.2.2.1) ∧ (g_o4 (v.2.2.2))))
def a_o50 (v : Int × Int × Int × Bool) : PV := .agg (c_o50 v)
theorem op_o50 : Opens Tryd.prog I 50 c_o50 g_o50 := opens_struct (ps := [(3, 0), (3, 1), (3, 2), (4, 3)]) (n := 4) (show Tryd.prog.underlying 50 = some (.struct (Tryd.prog.fieldsOf 50)) by kernel_rfl) (by kernel_rfl) (by kernel_rfl) (opensF_cons (o := 0) (c := 1) (by kernel_rfl) op_o3 (by kernel_rfl) (opensF_cons (o := 1) (c := 1) (by kernel_rfl) op_o3 (by kernel_rfl) (opensF_cons (o := 2) (c := 1) (by kernel_rfl) op_o3 (by kernel_rfl) (opensF_one (o := 3) (n := 1) (by kernel_rfl) op_o4))))
theorem ae_o50 (w : World) (a : Int × Int × Int × Bool) (cs : List Value) (h : RepF.go I NoM w (c_o50 a) cs) : RepF I NoM w (a_o50 a) cs := h
theorem aa_o50 (a : Int × Int × Int × Bool) : (a_o50 a).isAgg = (match Tryd.prog.underlying 50 with | some (.struct _) | some (.array _ _) => true | _ => false) := by
  rw [show Tryd.prog.underlying 50 = some (.struct (Tryd.prog.fieldsOf 50)) from by kernel_rfl]; rfl
def c_o46 (v : List (Int × Int × Int × Bool)) : List PV := [.sl _ e_countwheellaw05_Op v]
def g_o46 (v : List (Int × Int × Int × Bool)) : Prop := v.length ≤ maxLen ∧ ∀ a, a ∈ v → g_o50 a
def a_o46 (v : List (Int × Int × Int × Bool)) : PV := .sl _ e_countwheellaw05_Op v
theorem op_o46 : Opens Tryd.prog I 46 c_o46 g_o46 := opens_slice (enc := e_countwheellaw05_Op) (show Tryd.prog.underlying 46 = some (.slice 50) by kernel_rfl) (s := 4) (by kernel_rfl) (by kernel_rfl) (fun _ _ _ h => h) op_o50
theorem ae_o46 (w : World) (a : List (Int × Int × Int × Bool)) (cs : List Value) (h : RepF.go I NoM w (c_o46 a) cs) : RepF I NoM w (a_o46 a) cs := go_scalar h
theorem aa_o46 (a : List (Int × Int × Int × Bool)) : (a_o46 a).isAgg = (match Tryd.prog.underlying 46 with | some (.struct _) | some (.array _ _) => true | _ => false) := by
  rw [show Tryd.prog.underlying 46 = some (.slice 50) from by kernel_rfl]; rfl
def c_o54 (v : Int) : List PV := [.int .u64 v]
def g_o54 (v : Int) : Prop := (Lit.int .u64 v).wf = true
def a_o54 (v : Int) : PV := .int .u64 v
theorem op_o54 : Opens Tryd.prog I 54 c_o54 g_o54 := opens_int (show Tryd.prog.underlying 54 = some (.int .u64) by kernel_rfl)
theorem ae_o54 (w : World) (a : Int) (cs : List Value) (h : RepF.go I NoM w (c_o54 a) cs) : RepF I NoM w (a_o54 a) cs := go_scalar h
theorem aa_o54 (a : Int) : (a_o54 a).isAgg = (match Tryd.prog.underlying 54 with | some (.struct _) | some (.array _ _) => true | _ => false) := by
  rw [show Tryd.prog.underlying 54 = some (.int .u64) from by kernel_rfl]; rfl
def c_o56 (v : Int) : List PV := [.int .u32 v]
def g_o56 (v : Int) : Prop := (Lit.int .u32 v).wf = true
def a_o56 (v : Int) : PV := .int .u32 v
theorem op_o56 : Opens Tryd.prog I 56 c_o56 g_o56 := opens_int (show Tryd.prog.underlying 56 = some (.int .u32) by kernel_rfl)
theorem ae_o56 (w : World) (a : Int) (cs : List Value) (h : RepF.go I NoM w (c_o56 a) cs) : RepF I NoM w (a_o56 a) cs := go_scalar h
theorem aa_o56 (a : Int) : (a_o56 a).isAgg = (match Tryd.prog.underlying 56 with | some (.struct _) | some (.array _ _) => true | _ => false) := by
  rw [show Tryd.prog.underlying 56 = some (.int .u32) from by kernel_rfl]; rfl
def c_o207 (v : Int × Bool) : List PV := c_o56 (v.1) ++ (c_o4 (v.2))
def g_o207 (v : Int × Bool) : Prop := g_o56 (v.1) ∧ (g_o4 (v.2))
def a_o207 (v : Int × Bool) : PV := .agg (c_o207 v)
theorem op_o207 : Opens Tryd.prog I 207 c_o207 g_o207 := opens_struct (ps := [(56, 0), (4, 1)]) (n := 2) (show Tryd.prog.underlying 207 = some (.struct (Tryd.prog.fieldsOf 207)) by kernel_rfl) (by kernel_rfl) (by kernel_rfl) (opensF_cons (o := 0) (c := 1) (by kernel_rfl) op_o56 (by kernel_rfl) (opensF_one (o := 1) (n := 1) (by kernel_rfl) op_o4))
theorem ae_o207 (w : World) (a : Int × Bool) (cs : List Value) (h : RepF.go I NoM w (c_o207 a) cs) : RepF I NoM w (a_o207 a) cs := h
theorem aa_o207 (a : Int × Bool) : (a_o207 a).isAgg = (match Tryd.prog.underlying 207 with | some (.struct _) | some (.array _ _) => true | _ => false) := by
  rw [show Tryd.prog.underlying 207 = some (.struct (Tryd.prog.fieldsOf 207)) from by kernel_rfl]; rfl
def c_o195 (v : List (Int × Bool)) : List PV := [.sl _ e_api_Cell v]
def g_o195 (v : List (Int × Bool)) : Prop := v.length ≤ maxLen ∧ ∀ a, a ∈ v → g_o207 a
def a_o195 (v : List (Int × Bool)) : PV := .sl _ e_api_Cell v
theorem op_o195 : Opens Tryd.prog I 195 c_o195 g_o195 := opens_slice (enc := e_api_Cell) (show Tryd.prog.underlying 195 = some (.slice 207) by kernel_rfl) (s := 2) (by kernel_rfl) (by kernel_rfl) (fun _ _ _ h => h) op_o207
theorem ae_o195 (w : World) (a : List (Int × Bool)) (cs : List Value) (h : RepF.go I NoM w (c_o195 a) cs) : RepF I NoM w (a_o195 a) cs := go_scalar h
theorem aa_o195 (a : List (Int × Bool)) : (a_o195 a).isAgg = (match Tryd.prog.underlying 195 with | some (.struct _) | some (.array _ _) => true | _ => false) := by
  rw [show Tryd.prog.underlying 195 = some (.slice 207) from by kernel_rfl]; rfl
def c_o197 (v : Int × ByteArray × Bool × (List (Int × Bool))) : List PV := c_o3 (v.1) ++ (c_o9 (v.2.1) ++ (c_o4 (v.2.2.1) ++ (c_o195 (v.2.2.2))))
def g_o197 (v : Int × ByteArray × Bool × (List (Int × Bool))) : Prop := g_o3 (v.1) ∧ (g_o9 (v.2.1) ∧ (g_o4 (v.2.2.1) ∧ (g_o195 (v.2.2.2))))
def a_o197 (v : Int × ByteArray × Bool × (List (Int × Bool))) : PV := .agg (c_o197 v)
theorem op_o197 : Opens Tryd.prog I 197 c_o197 g_o197 := opens_struct (ps := [(3, 0), (9, 1), (4, 2), (195, 3)]) (n := 4) (show Tryd.prog.underlying 197 = some (.struct (Tryd.prog.fieldsOf 197)) by kernel_rfl) (by kernel_rfl) (by kernel_rfl) (opensF_cons (o := 0) (c := 1) (by kernel_rfl) op_o3 (by kernel_rfl) (opensF_cons (o := 1) (c := 1) (by kernel_rfl) op_o9 (by kernel_rfl) (opensF_cons (o := 2) (c := 1) (by kernel_rfl) op_o4 (by kernel_rfl) (opensF_one (o := 3) (n := 1) (by kernel_rfl) op_o195))))
theorem ae_o197 (w : World) (a : Int × ByteArray × Bool × (List (Int × Bool))) (cs : List Value) (h : RepF.go I NoM w (c_o197 a) cs) : RepF I NoM w (a_o197 a) cs := h
theorem aa_o197 (a : Int × ByteArray × Bool × (List (Int × Bool))) : (a_o197 a).isAgg = (match Tryd.prog.underlying 197 with | some (.struct _) | some (.array _ _) => true | _ => false) := by
  rw [show Tryd.prog.underlying 197 = some (.struct (Tryd.prog.fieldsOf 197)) from by kernel_rfl]; rfl
def c_o68 (v : List (Int × ByteArray × Bool × (List (Int × Bool)))) : List PV := [.sl _ e_api_Partition v]
def g_o68 (v : List (Int × ByteArray × Bool × (List (Int × Bool)))) : Prop := v.length ≤ maxLen ∧ ∀ a, a ∈ v → g_o197 a
def a_o68 (v : List (Int × ByteArray × Bool × (List (Int × Bool)))) : PV := .sl _ e_api_Partition v
theorem op_o68 : Opens Tryd.prog I 68 c_o68 g_o68 := opens_slice (enc := e_api_Partition) (show Tryd.prog.underlying 68 = some (.slice 197) by kernel_rfl) (s := 4) (by kernel_rfl) (by kernel_rfl) (fun _ _ _ h => h) op_o197
theorem ae_o68 (w : World) (a : List (Int × ByteArray × Bool × (List (Int × Bool)))) (cs : List Value) (h : RepF.go I NoM w (c_o68 a) cs) : RepF I NoM w (a_o68 a) cs := go_scalar h
theorem aa_o68 (a : List (Int × ByteArray × Bool × (List (Int × Bool)))) : (a_o68 a).isAgg = (match Tryd.prog.underlying 68 with | some (.struct _) | some (.array _ _) => true | _ => false) := by
  rw [show Tryd.prog.underlying 68 = some (.slice 197) from by kernel_rfl]; rfl
def c_o69 (v : List (Int × Int × (List (Int × Int × Int)) × (List (Int × Int × Int)))) : List PV := [.sl _ e_api_Schedule v]
def g_o69 (v : List (Int × Int × (List (Int × Int × Int)) × (List (Int × Int × Int)))) : Prop := v.length ≤ maxLen ∧ ∀ a, a ∈ v → g_o25 a
def a_o69 (v : List (Int × Int × (List (Int × Int × Int)) × (List (Int × Int × Int)))) : PV := .sl _ e_api_Schedule v
theorem op_o69 : Opens Tryd.prog I 69 c_o69 g_o69 := opens_slice (enc := e_api_Schedule) (show Tryd.prog.underlying 69 = some (.slice 25) by kernel_rfl) (s := 4) (by kernel_rfl) (by kernel_rfl) (fun _ _ _ h => h) op_o25
theorem ae_o69 (w : World) (a : List (Int × Int × (List (Int × Int × Int)) × (List (Int × Int × Int)))) (cs : List Value) (h : RepF.go I NoM w (c_o69 a) cs) : RepF I NoM w (a_o69 a) cs := go_scalar h
theorem aa_o69 (a : List (Int × Int × (List (Int × Int × Int)) × (List (Int × Int × Int)))) : (a_o69 a).isAgg = (match Tryd.prog.underlying 69 with | some (.struct _) | some (.array _ _) => true | _ => false) := by
  rw [show Tryd.prog.underlying 69 = some (.slice 25) from by kernel_rfl]; rfl
def c_o199 (v : Int × Int) : List PV := c_o3 (v.1) ++ (c_o3 (v.2))
def g_o199 (v : Int × Int) : Prop := g_o3 (v.1) ∧ (g_o3 (v.2))
def a_o199 (v : Int × Int) : PV := .agg (c_o199 v)
theorem op_o199 : Opens Tryd.prog I 199 c_o199 g_o199 := opens_struct (ps := [(3, 0), (3, 1)]) (n := 2) (show Tryd.prog.underlying 199 = some (.struct (Tryd.prog.fieldsOf 199)) by kernel_rfl) (by kernel_rfl) (by kernel_rfl) (opensF_cons (o := 0) (c := 1) (by kernel_rfl) op_o3 (by kernel_rfl) (opensF_one (o := 1) (n := 1) (by kernel_rfl) op_o3))
theorem ae_o199 (w : World) (a : Int × Int) (cs : List Value) (h : RepF.go I NoM w (c_o199 a) cs) : RepF I NoM w (a_o199 a) cs := h
theorem aa_o199 (a : Int × Int) : (a_o199 a).isAgg = (match Tryd.prog.underlying 199 with | some (.struct _) | some (.array _ _) => true | _ => false) := by
  rw [show Tryd.prog.underlying 199 = some (.struct (Tryd.prog.fieldsOf 199)) from by kernel_rfl]; rfl
def c_o70 (v : List (Int × Int)) : List PV := [.sl _ e_api_Pair v]
def g_o70 (v : List (Int × Int)) : Prop := v.length ≤ maxLen ∧ ∀ a, a ∈ v → g_o199 a
def a_o70 (v : List (Int × Int)) : PV := .sl _ e_api_Pair v
theorem op_o70 : Opens Tryd.prog I 70 c_o70 g_o70 := opens_slice (enc := e_api_Pair) (show Tryd.prog.underlying 70 = some (.slice 199) by kernel_rfl) (s := 2) (by kernel_rfl) (by kernel_rfl) (fun _ _ _ h => h) op_o199
theorem ae_o70 (w : World) (a : List (Int × Int)) (cs : List Value) (h : RepF.go I NoM w (c_o70 a) cs) : RepF I NoM w (a_o70 a) cs := go_scalar h
theorem aa_o70 (a : List (Int × Int)) : (a_o70 a).isAgg = (match Tryd.prog.underlying 70 with | some (.struct _) | some (.array _ _) => true | _ => false) := by
  rw [show Tryd.prog.underlying 70 = some (.slice 199) from by kernel_rfl]; rfl
def c_o201 (v : Int × Int × Int) : List PV := c_o3 (v.1) ++ (c_o3 (v.2.1) ++ (c_o3 (v.2.2)))
def g_o201 (v : Int × Int × Int) : Prop := g_o3 (v.1) ∧ (g_o3 (v.2.1) ∧ (g_o3 (v.2.2)))
def a_o201 (v : Int × Int × Int) : PV := .agg (c_o201 v)
theorem op_o201 : Opens Tryd.prog I 201 c_o201 g_o201 := opens_struct (ps := [(3, 0), (3, 1), (3, 2)]) (n := 3) (show Tryd.prog.underlying 201 = some (.struct (Tryd.prog.fieldsOf 201)) by kernel_rfl) (by kernel_rfl) (by kernel_rfl) (opensF_cons (o := 0) (c := 1) (by kernel_rfl) op_o3 (by kernel_rfl) (opensF_cons (o := 1) (c := 1) (by kernel_rfl) op_o3 (by kernel_rfl) (opensF_one (o := 2) (n := 1) (by kernel_rfl) op_o3)))
theorem ae_o201 (w : World) (a : Int × Int × Int) (cs : List Value) (h : RepF.go I NoM w (c_o201 a) cs) : RepF I NoM w (a_o201 a) cs := h
theorem aa_o201 (a : Int × Int × Int) : (a_o201 a).isAgg = (match Tryd.prog.underlying 201 with | some (.struct _) | some (.array _ _) => true | _ => false) := by
  rw [show Tryd.prog.underlying 201 = some (.struct (Tryd.prog.fieldsOf 201)) from by kernel_rfl]; rfl
def c_o71 (v : List (Int × Int × Int)) : List PV := [.sl _ e_api_Act v]
def g_o71 (v : List (Int × Int × Int)) : Prop := v.length ≤ maxLen ∧ ∀ a, a ∈ v → g_o201 a
def a_o71 (v : List (Int × Int × Int)) : PV := .sl _ e_api_Act v
theorem op_o71 : Opens Tryd.prog I 71 c_o71 g_o71 := opens_slice (enc := e_api_Act) (show Tryd.prog.underlying 71 = some (.slice 201) by kernel_rfl) (s := 3) (by kernel_rfl) (by kernel_rfl) (fun _ _ _ h => h) op_o201
theorem ae_o71 (w : World) (a : List (Int × Int × Int)) (cs : List Value) (h : RepF.go I NoM w (c_o71 a) cs) : RepF I NoM w (a_o71 a) cs := go_scalar h
theorem aa_o71 (a : List (Int × Int × Int)) : (a_o71 a).isAgg = (match Tryd.prog.underlying 71 with | some (.struct _) | some (.array _ _) => true | _ => false) := by
  rw [show Tryd.prog.underlying 71 = some (.slice 201) from by kernel_rfl]; rfl
def c_o73 (v : Int × Int × (List (Int × ByteArray × Bool × (List (Int × Bool)))) × (List (Int × Int × (List (Int × Int × Int)) × (List (Int × Int × Int)))) × (List (Int × Int)) × (List (Int × Int × Int))) : List PV := c_o54 (v.1) ++ (c_o3 (v.2.1) ++ (c_o68 (v.2.2.1) ++ (c_o69 (v.2.2.2.1) ++ (c_o70 (v.2.2.2.2.1) ++ (c_o71 (v.2.2.2.2.2))))))
def g_o73 (v : Int × Int × (List (Int × ByteArray × Bool × (List (Int × Bool)))) × (List (Int × Int × (List (Int × Int × Int)) × (List (Int × Int × Int)))) × (List (Int × Int)) × (List (Int × Int × Int))) : Prop := g_o54 (v.1) ∧ (g_o3 (v.2.1) ∧ (g_o68 (v.2.2.1) ∧ (g_o69 (v.2.2.2.1) ∧ (g_o70 (v.2.2.2.2.1) ∧ (g_o71 (v.2.2.2.2.2))))))
def a_o73 (v : Int × Int × (List (Int × ByteArray × Bool × (List (Int × Bool)))) × (List (Int × Int × (List (Int × Int × Int)) × (List (Int × Int × Int)))) × (List (Int × Int)) × (List (Int × Int × Int))) : PV := .agg (c_o73 v)
theorem op_o73 : Opens Tryd.prog I 73 c_o73 g_o73 := opens_struct (ps := [(54, 0), (3, 1), (68, 2), (69, 3), (70, 4), (71, 5)]) (n := 6) (show Tryd.prog.underlying 73 = some (.struct (Tryd.prog.fieldsOf 73)) by kernel_rfl) (by kernel_rfl) (by kernel_rfl) (opensF_cons (o := 0) (c := 1) (by kernel_rfl) op_o54 (by kernel_rfl) (opensF_cons (o := 1) (c := 1) (by kernel_rfl) op_o3 (by kernel_rfl) (opensF_cons (o := 2) (c := 1) (by kernel_rfl) op_o68 (by kernel_rfl) (opensF_cons (o := 3) (c := 1) (by kernel_rfl) op_o69 (by kernel_rfl) (opensF_cons (o := 4) (c := 1) (by kernel_rfl) op_o70 (by kernel_rfl) (opensF_one (o := 5) (n := 1) (by kernel_rfl) op_o71))))))
theorem ae_o73 (w : World) (a : Int × Int × (List (Int × ByteArray × Bool × (List (Int × Bool)))) × (List (Int × Int × (List (Int × Int × Int)) × (List (Int × Int × Int)))) × (List (Int × Int)) × (List (Int × Int × Int))) (cs : List Value) (h : RepF.go I NoM w (c_o73 a) cs) : RepF I NoM w (a_o73 a) cs := h
theorem aa_o73 (a : Int × Int × (List (Int × ByteArray × Bool × (List (Int × Bool)))) × (List (Int × Int × (List (Int × Int × Int)) × (List (Int × Int × Int)))) × (List (Int × Int)) × (List (Int × Int × Int))) : (a_o73 a).isAgg = (match Tryd.prog.underlying 73 with | some (.struct _) | some (.array _ _) => true | _ => false) := by
  rw [show Tryd.prog.underlying 73 = some (.struct (Tryd.prog.fieldsOf 73)) from by kernel_rfl]; rfl
end Go.Ab.T
