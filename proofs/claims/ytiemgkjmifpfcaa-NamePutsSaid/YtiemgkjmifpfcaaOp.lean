import Derived.Test.YtiemgkjmifpfcaaTB
import Derived.Test.YtiemgkjmifpfcaaMaB
import Derived.Laws.StructEq
set_option linter.unusedVariables false
set_option linter.unusedSimpArgs false
namespace Go.Ab.T
open Go Go.Ab Go.Proofs
set_option maxRecDepth 100000
theorem go_scalar {M : Nat → Prop} {w : World} {x : PV} {cs : List Value} (h : RepF.go I M w [x] cs) : RepF I M w x cs := by
  obtain ⟨v, r, rfl, _, h1, h2⟩ := h
  simp only [RepF.go] at h2
  subst h2; exact h1
def c_o3 (v : Int) : List PV := [.int .i64 v]
def g_o3 (v : Int) : Prop := (Lit.int .i64 v).wf = true
def a_o3 (v : Int) : PV := .int .i64 v
theorem op_o3 : Opens Try.prog I 3 c_o3 g_o3 := opens_int (show Try.prog.underlying 3 = some (.int .i64) by kernel_rfl)
theorem ae_o3 (w : World) (a : Int) (cs : List Value) (h : RepF.go I NoM w (c_o3 a) cs) : RepF I NoM w (a_o3 a) cs := go_scalar h
theorem aa_o3 (a : Int) : (a_o3 a).isAgg = (match Try.prog.underlying 3 with | some (.struct _) | some (.array _ _) => true | _ => false) := by
  rw [show Try.prog.underlying 3 = some (.int .i64) from by kernel_rfl]; rfl
def c_o9 (v : ByteArray) : List PV := [.str v]
def g_o9 (v : ByteArray) : Prop := v.size ≤ maxLen
def a_o9 (v : ByteArray) : PV := .str v
theorem op_o9 : Opens Try.prog I 9 c_o9 g_o9 := opens_str (show Try.prog.underlying 9 = some (.string) by kernel_rfl)
theorem ae_o9 (w : World) (a : ByteArray) (cs : List Value) (h : RepF.go I NoM w (c_o9 a) cs) : RepF I NoM w (a_o9 a) cs := go_scalar h
theorem aa_o9 (a : ByteArray) : (a_o9 a).isAgg = (match Try.prog.underlying 9 with | some (.struct _) | some (.array _ _) => true | _ => false) := by
  rw [show Try.prog.underlying 9 = some (.string) from by kernel_rfl]; rfl
def c_o5 (v : UInt8) : List PV := [.int .u8 v.toNat]
def g_o5 (v : UInt8) : Prop := True
def a_o5 (v : UInt8) : PV := .int .u8 v.toNat
theorem op_o5 : Opens Try.prog I 5 c_o5 g_o5 := opens_u8 (show Try.prog.underlying 5 = some (.int .u8) by kernel_rfl)
theorem ae_o5 (w : World) (a : UInt8) (cs : List Value) (h : RepF.go I NoM w (c_o5 a) cs) : RepF I NoM w (a_o5 a) cs := go_scalar h
theorem aa_o5 (a : UInt8) : (a_o5 a).isAgg = (match Try.prog.underlying 5 with | some (.struct _) | some (.array _ _) => true | _ => false) := by
  rw [show Try.prog.underlying 5 = some (.int .u8) from by kernel_rfl]; rfl
def c_o22 (v : List UInt8) : List PV := [.sl _ e_uint8 v]
def g_o22 (v : List UInt8) : Prop := v.length ≤ maxLen ∧ ∀ a, a ∈ v → g_o5 a
def a_o22 (v : List UInt8) : PV := .sl _ e_uint8 v
theorem op_o22 : Opens Try.prog I 22 c_o22 g_o22 := opens_slice (enc := e_uint8) (show Try.prog.underlying 22 = some (.slice 5) by kernel_rfl) (s := 1) (by kernel_rfl) (by kernel_rfl) (fun _ _ _ h => go_scalar h) op_o5
theorem ae_o22 (w : World) (a : List UInt8) (cs : List Value) (h : RepF.go I NoM w (c_o22 a) cs) : RepF I NoM w (a_o22 a) cs := go_scalar h
theorem aa_o22 (a : List UInt8) : (a_o22 a).isAgg = (match Try.prog.underlying 22 with | some (.struct _) | some (.array _ _) => true | _ => false) := by
  rw [show Try.prog.underlying 22 = some (.slice 5) from by kernel_rfl]; rfl
def c_o51 (v : Int × Int × Int) : List PV := c_o3 (v.1) ++ (c_o3 (v.2.1) ++ (c_o3 (v.2.2)))
def g_o51 (v : Int × Int × Int) : Prop := g_o3 (v.1) ∧ (g_o3 (v.2.1) ∧ (g_o3 (v.2.2)))
def a_o51 (v : Int × Int × Int) : PV := .agg (c_o51 v)
theorem op_o51 : Opens Try.prog I 51 c_o51 g_o51 := opens_struct (ps := [(3, 0), (3, 1), (3, 2)]) (n := 3) (show Try.prog.underlying 51 = some (.struct (Try.prog.fieldsOf 51)) by kernel_rfl) (by kernel_rfl) (by kernel_rfl) (opensF_cons (o := 0) (c := 1) (by kernel_rfl) op_o3 (by kernel_rfl) (opensF_cons (o := 1) (c := 1) (by kernel_rfl) op_o3 (by kernel_rfl) (opensF_one (o := 2) (n := 1) (by kernel_rfl) op_o3)))
theorem ae_o51 (w : World) (a : Int × Int × Int) (cs : List Value) (h : RepF.go I NoM w (c_o51 a) cs) : RepF I NoM w (a_o51 a) cs := h
theorem aa_o51 (a : Int × Int × Int) : (a_o51 a).isAgg = (match Try.prog.underlying 51 with | some (.struct _) | some (.array _ _) => true | _ => false) := by
  rw [show Try.prog.underlying 51 = some (.struct (Try.prog.fieldsOf 51)) from by kernel_rfl]; rfl
def c_o38 (v : List (Int × Int × Int)) : List PV := [.sl _ e_api_Window v]
def g_o38 (v : List (Int × Int × Int)) : Prop := v.length ≤ maxLen ∧ ∀ a, a ∈ v → g_o51 a
def a_o38 (v : List (Int × Int × Int)) : PV := .sl _ e_api_Window v
theorem op_o38 : Opens Try.prog I 38 c_o38 g_o38 := opens_slice (enc := e_api_Window) (show Try.prog.underlying 38 = some (.slice 51) by kernel_rfl) (s := 3) (by kernel_rfl) (by kernel_rfl) (fun _ _ _ h => h) op_o51
theorem ae_o38 (w : World) (a : List (Int × Int × Int)) (cs : List Value) (h : RepF.go I NoM w (c_o38 a) cs) : RepF I NoM w (a_o38 a) cs := go_scalar h
theorem aa_o38 (a : List (Int × Int × Int)) : (a_o38 a).isAgg = (match Try.prog.underlying 38 with | some (.struct _) | some (.array _ _) => true | _ => false) := by
  rw [show Try.prog.underlying 38 = some (.slice 51) from by kernel_rfl]; rfl
def c_o91 (v : Int × Int × Int) : List PV := c_o3 (v.1) ++ (c_o3 (v.2.1) ++ (c_o3 (v.2.2)))
def g_o91 (v : Int × Int × Int) : Prop := g_o3 (v.1) ∧ (g_o3 (v.2.1) ∧ (g_o3 (v.2.2)))
def a_o91 (v : Int × Int × Int) : PV := .agg (c_o91 v)
theorem op_o91 : Opens Try.prog I 91 c_o91 g_o91 := opens_struct (ps := [(3, 0), (3, 1), (3, 2)]) (n := 3) (show Try.prog.underlying 91 = some (.struct (Try.prog.fieldsOf 91)) by kernel_rfl) (by kernel_rfl) (by kernel_rfl) (opensF_cons (o := 0) (c := 1) (by kernel_rfl) op_o3 (by kernel_rfl) (opensF_cons (o := 1) (c := 1) (by kernel_rfl) op_o3 (by kernel_rfl) (opensF_one (o := 2) (n := 1) (by kernel_rfl) op_o3)))
theorem ae_o91 (w : World) (a : Int × Int × Int) (cs : List Value) (h : RepF.go I NoM w (c_o91 a) cs) : RepF I NoM w (a_o91 a) cs := h
theorem aa_o91 (a : Int × Int × Int) : (a_o91 a).isAgg = (match Try.prog.underlying 91 with | some (.struct _) | some (.array _ _) => true | _ => false) := by
  rw [show Try.prog.underlying 91 = some (.struct (Try.prog.fieldsOf 91)) from by kernel_rfl]; rfl
def c_o39 (v : List (Int × Int × Int)) : List PV := [.sl _ e_api_Need v]
def g_o39 (v : List (Int × Int × Int)) : Prop := v.length ≤ maxLen ∧ ∀ a, a ∈ v → g_o91 a
def a_o39 (v : List (Int × Int × Int)) : PV := .sl _ e_api_Need v
theorem op_o39 : Opens Try.prog I 39 c_o39 g_o39 := opens_slice (enc := e_api_Need) (show Try.prog.underlying 39 = some (.slice 91) by kernel_rfl) (s := 3) (by kernel_rfl) (by kernel_rfl) (fun _ _ _ h => h) op_o91
theorem ae_o39 (w : World) (a : List (Int × Int × Int)) (cs : List Value) (h : RepF.go I NoM w (c_o39 a) cs) : RepF I NoM w (a_o39 a) cs := go_scalar h
theorem aa_o39 (a : List (Int × Int × Int)) : (a_o39 a).isAgg = (match Try.prog.underlying 39 with | some (.struct _) | some (.array _ _) => true | _ => false) := by
  rw [show Try.prog.underlying 39 = some (.slice 91) from by kernel_rfl]; rfl
def c_o41 (v : Int × Int × (List (Int × Int × Int)) × (List (Int × Int × Int))) : List PV := c_o3 (v.1) ++ (c_o3 (v.2.1) ++ (c_o38 (v.2.2.1) ++ (c_o39 (v.2.2.2))))
def g_o41 (v : Int × Int × (List (Int × Int × Int)) × (List (Int × Int × Int))) : Prop := g_o3 (v.1) ∧ (g_o3 (v.2.1) ∧ (g_o38 (v.2.2.1) ∧ (g_o39 (v.2.2.2))))
def a_o41 (v : Int × Int × (List (Int × Int × Int)) × (List (Int × Int × Int))) : PV := .agg (c_o41 v)
theorem op_o41 : Opens Try.prog I 41 c_o41 g_o41 := opens_struct (ps := [(3, 0), (3, 1), (38, 2), (39, 3)]) (n := 4) (show Try.prog.underlying 41 = some (.struct (Try.prog.fieldsOf 41)) by kernel_rfl) (by kernel_rfl) (by kernel_rfl) (opensF_cons (o := 0) (c := 1) (by kernel_rfl) op_o3 (by kernel_rfl) (opensF_cons (o := 1) (c := 1) (by kernel_rfl) op_o3 (by kernel_rfl) (opensF_cons (o := 2) (c := 1) (by kernel_rfl) op_o38 (by kernel_rfl) (opensF_one (o := 3) (n := 1) (by kernel_rfl) op_o39))))
theorem ae_o41 (w : World) (a : Int × Int × (List (Int × Int × Int)) × (List (Int × Int × Int))) (cs : List Value) (h : RepF.go I NoM w (c_o41 a) cs) : RepF I NoM w (a_o41 a) cs := h
theorem aa_o41 (a : Int × Int × (List (Int × Int × Int)) × (List (Int × Int × Int))) : (a_o41 a).isAgg = (match Try.prog.underlying 41 with | some (.struct _) | some (.array _ _) => true | _ => false) := by
  rw [show Try.prog.underlying 41 = some (.struct (Try.prog.fieldsOf 41)) from by kernel_rfl]; rfl
def c_o37 (v : List (Int × Int × (List (Int × Int × Int)) × (List (Int × Int × Int)))) : List PV := [.sl _ e_api_Schedule v]
def g_o37 (v : List (Int × Int × (List (Int × Int × Int)) × (List (Int × Int × Int)))) : Prop := v.length ≤ maxLen ∧ ∀ a, a ∈ v → g_o41 a
def a_o37 (v : List (Int × Int × (List (Int × Int × Int)) × (List (Int × Int × Int)))) : PV := .sl _ e_api_Schedule v
theorem op_o37 : Opens Try.prog I 37 c_o37 g_o37 := opens_slice (enc := e_api_Schedule) (show Try.prog.underlying 37 = some (.slice 41) by kernel_rfl) (s := 4) (by kernel_rfl) (by kernel_rfl) (fun _ _ _ h => h) op_o41
theorem ae_o37 (w : World) (a : List (Int × Int × (List (Int × Int × Int)) × (List (Int × Int × Int)))) (cs : List Value) (h : RepF.go I NoM w (c_o37 a) cs) : RepF I NoM w (a_o37 a) cs := go_scalar h
theorem aa_o37 (a : List (Int × Int × (List (Int × Int × Int)) × (List (Int × Int × Int)))) : (a_o37 a).isAgg = (match Try.prog.underlying 37 with | some (.struct _) | some (.array _ _) => true | _ => false) := by
  rw [show Try.prog.underlying 37 = some (.slice 41) from by kernel_rfl]; rfl
def c_o4 (v : Bool) : List PV := [.bool v]
def g_o4 (v : Bool) : Prop := True
def a_o4 (v : Bool) : PV := .bool v
theorem op_o4 : Opens Try.prog I 4 c_o4 g_o4 := opens_bool (show Try.prog.underlying 4 = some (.bool) by kernel_rfl)
theorem ae_o4 (w : World) (a : Bool) (cs : List Value) (h : RepF.go I NoM w (c_o4 a) cs) : RepF I NoM w (a_o4 a) cs := go_scalar h
theorem aa_o4 (a : Bool) : (a_o4 a).isAgg = (match Try.prog.underlying 4 with | some (.struct _) | some (.array _ _) => true | _ => false) := by
  rw [show Try.prog.underlying 4 = some (.bool) from by kernel_rfl]; rfl
def c_o64 (v : Int) : List PV := [.int .u32 v]
def g_o64 (v : Int) : Prop := (Lit.int .u32 v).wf = true
def a_o64 (v : Int) : PV := .int .u32 v
theorem op_o64 : Opens Try.prog I 64 c_o64 g_o64 := opens_int (show Try.prog.underlying 64 = some (.int .u32) by kernel_rfl)
theorem ae_o64 (w : World) (a : Int) (cs : List Value) (h : RepF.go I NoM w (c_o64 a) cs) : RepF I NoM w (a_o64 a) cs := go_scalar h
theorem aa_o64 (a : Int) : (a_o64 a).isAgg = (match Try.prog.underlying 64 with | some (.struct _) | some (.array _ _) => true | _ => false) := by
  rw [show Try.prog.underlying 64 = some (.int .u32) from by kernel_rfl]; rfl
def c_o66 (v : Int × Bool) : List PV := c_o64 (v.1) ++ (c_o4 (v.2))
def g_o66 (v : Int × Bool) : Prop := g_o64 (v.1) ∧ (g_o4 (v.2))
def a_o66 (v : Int × Bool) : PV := .agg (c_o66 v)
theorem op_o66 : Opens Try.prog I 66 c_o66 g_o66 := opens_struct (ps := [(64, 0), (4, 1)]) (n := 2) (show Try.prog.underlying 66 = some (.struct (Try.prog.fieldsOf 66)) by kernel_rfl) (by kernel_rfl) (by kernel_rfl) (opensF_cons (o := 0) (c := 1) (by kernel_rfl) op_o64 (by kernel_rfl) (opensF_one (o := 1) (n := 1) (by kernel_rfl) op_o4))
theorem ae_o66 (w : World) (a : Int × Bool) (cs : List Value) (h : RepF.go I NoM w (c_o66 a) cs) : RepF I NoM w (a_o66 a) cs := h
theorem aa_o66 (a : Int × Bool) : (a_o66 a).isAgg = (match Try.prog.underlying 66 with | some (.struct _) | some (.array _ _) => true | _ => false) := by
  rw [show Try.prog.underlying 66 = some (.struct (Try.prog.fieldsOf 66)) from by kernel_rfl]; rfl
def c_o54 (v : List (Int × Bool)) : List PV := [.sl _ e_api_Cell v]
def g_o54 (v : List (Int × Bool)) : Prop := v.length ≤ maxLen ∧ ∀ a, a ∈ v → g_o66 a
def a_o54 (v : List (Int × Bool)) : PV := .sl _ e_api_Cell v
theorem op_o54 : Opens Try.prog I 54 c_o54 g_o54 := opens_slice (enc := e_api_Cell) (show Try.prog.underlying 54 = some (.slice 66) by kernel_rfl) (s := 2) (by kernel_rfl) (by kernel_rfl) (fun _ _ _ h => h) op_o66
theorem ae_o54 (w : World) (a : List (Int × Bool)) (cs : List Value) (h : RepF.go I NoM w (c_o54 a) cs) : RepF I NoM w (a_o54 a) cs := go_scalar h
theorem aa_o54 (a : List (Int × Bool)) : (a_o54 a).isAgg = (match Try.prog.underlying 54 with | some (.struct _) | some (.array _ _) => true | _ => false) := by
  rw [show Try.prog.underlying 54 = some (.slice 66) from by kernel_rfl]; rfl
def c_o56 (v : Int × ByteArray × Bool × (List (Int × Bool))) : List PV := c_o3 (v.1) ++ (c_o9 (v.2.1) ++ (c_o4 (v.2.2.1) ++ (c_o54 (v.2.2.2))))
def g_o56 (v : Int × ByteArray × Bool × (List (Int × Bool))) : Prop := g_o3 (v.1) ∧ (g_o9 (v.2.1) ∧ (g_o4 (v.2.2.1) ∧ (g_o54 (v.2.2.2))))
def a_o56 (v : Int × ByteArray × Bool × (List (Int × Bool))) : PV := .agg (c_o56 v)
theorem op_o56 : Opens Try.prog I 56 c_o56 g_o56 := opens_struct (ps := [(3, 0), (9, 1), (4, 2), (54, 3)]) (n := 4) (show Try.prog.underlying 56 = some (.struct (Try.prog.fieldsOf 56)) by kernel_rfl) (by kernel_rfl) (by kernel_rfl) (opensF_cons (o := 0) (c := 1) (by kernel_rfl) op_o3 (by kernel_rfl) (opensF_cons (o := 1) (c := 1) (by kernel_rfl) op_o9 (by kernel_rfl) (opensF_cons (o := 2) (c := 1) (by kernel_rfl) op_o4 (by kernel_rfl) (opensF_one (o := 3) (n := 1) (by kernel_rfl) op_o54))))
theorem ae_o56 (w : World) (a : Int × ByteArray × Bool × (List (Int × Bool))) (cs : List Value) (h : RepF.go I NoM w (c_o56 a) cs) : RepF I NoM w (a_o56 a) cs := h
theorem aa_o56 (a : Int × ByteArray × Bool × (List (Int × Bool))) : (a_o56 a).isAgg = (match Try.prog.underlying 56 with | some (.struct _) | some (.array _ _) => true | _ => false) := by
  rw [show Try.prog.underlying 56 = some (.struct (Try.prog.fieldsOf 56)) from by kernel_rfl]; rfl
def c_o53 (v : List (Int × ByteArray × Bool × (List (Int × Bool)))) : List PV := [.sl _ e_api_Partition v]
def g_o53 (v : List (Int × ByteArray × Bool × (List (Int × Bool)))) : Prop := v.length ≤ maxLen ∧ ∀ a, a ∈ v → g_o56 a
def a_o53 (v : List (Int × ByteArray × Bool × (List (Int × Bool)))) : PV := .sl _ e_api_Partition v
theorem op_o53 : Opens Try.prog I 53 c_o53 g_o53 := opens_slice (enc := e_api_Partition) (show Try.prog.underlying 53 = some (.slice 56) by kernel_rfl) (s := 4) (by kernel_rfl) (by kernel_rfl) (fun _ _ _ h => h) op_o56
theorem ae_o53 (w : World) (a : List (Int × ByteArray × Bool × (List (Int × Bool)))) (cs : List Value) (h : RepF.go I NoM w (c_o53 a) cs) : RepF I NoM w (a_o53 a) cs := go_scalar h
theorem aa_o53 (a : List (Int × ByteArray × Bool × (List (Int × Bool)))) : (a_o53 a).isAgg = (match Try.prog.underlying 53 with | some (.struct _) | some (.array _ _) => true | _ => false) := by
  rw [show Try.prog.underlying 53 = some (.slice 56) from by kernel_rfl]; rfl
end Go.Ab.T
