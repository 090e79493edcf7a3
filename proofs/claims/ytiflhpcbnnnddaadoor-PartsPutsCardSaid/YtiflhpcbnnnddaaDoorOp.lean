import Derived.Test.YtiflhpcbnnnddaaDoorTB
import Derived.Test.YtiflhpcbnnnddaaDoorMaB
import Derived.Laws.StructEq
set_option linter.unusedVariables false
set_option linter.unusedSimpArgs false
namespace Go.Ab.T
open Go Go.Ab Go.Proofs
set_option maxRecDepth 100000
theorem go_scalar {M : Nat → Prop} {w : World} {x : PV} {cs : List Value} (h : RepF.go I M w [x] cs) : RepF I M w x cs := by
  obtain ⟨v, r, rfl, _, h1, h2⟩ := h
  simp only [RepF.go] at h2
  subst h2; exact h1
def c_o5 (v : UInt8) : List PV := [.int .u8 v.toNat]
def g_o5 (v : UInt8) : Prop := True
def a_o5 (v : UInt8) : PV := .int .u8 v.toNat
theorem op_o5 : Opens Tryd.prog I 5 c_o5 g_o5 := opens_u8 (show Tryd.prog.underlying 5 = some (.int .u8) by kernel_rfl)
theorem ae_o5 (w : World) (a : UInt8) (cs : List Value) (h : RepF.go I NoM w (c_o5 a) cs) : RepF I NoM w (a_o5 a) cs := go_scalar h
theorem aa_o5 (a : UInt8) : (a_o5 a).isAgg = (match Tryd.prog.underlying 5 with | some (.struct _) | some (.array _ _) => true | _ => false) := by
  rw [show Tryd.prog.underlying 5 = some (.int .u8) from by kernel_rfl]; rfl
def c_o22 (v : List UInt8) : List PV := [.sl _ e_uint8 v]
def g_o22 (v : List UInt8) : Prop := v.length ≤ maxLen ∧ ∀ a, a ∈ v → g_o5 a
def a_o22 (v : List UInt8) : PV := .sl _ e_uint8 v
theorem op_o22 : Opens Tryd.prog I 22 c_o22 g_o22 := opens_slice (enc := e_uint8) (show Tryd.prog.underlying 22 = some (.slice 5) by kernel_rfl) (s := 1) (by kernel_rfl) (by kernel_rfl) (fun _ _ _ h => go_scalar h) op_o5
theorem ae_o22 (w : World) (a : List UInt8) (cs : List Value) (h : RepF.go I NoM w (c_o22 a) cs) : RepF I NoM w (a_o22 a) cs := go_scalar h
theorem aa_o22 (a : List UInt8) : (a_o22 a).isAgg = (match Tryd.prog.underlying 22 with | some (.struct _) | some (.array _ _) => true | _ => false) := by
  rw [show Tryd.prog.underlying 22 = some (.slice 5) from by kernel_rfl]; rfl
def c_o3 (v : Int) : List PV := [.int .i64 v]
def g_o3 (v : Int) : Prop := (Lit.int .i64 v).wf = true
def a_o3 (v : Int) : PV := .int .i64 v
theorem op_o3 : Opens Tryd.prog I 3 c_o3 g_o3 := opens_int (show Tryd.prog.underlying 3 = some (.int .i64) by kernel_rfl)
theorem ae_o3 (w : World) (a : Int) (cs : List Value) (h : RepF.go I NoM w (c_o3 a) cs) : RepF I NoM w (a_o3 a) cs := go_scalar h
theorem aa_o3 (a : Int) : (a_o3 a).isAgg = (match Tryd.prog.underlying 3 with | some (.struct _) | some (.array _ _) => true | _ => false) := by
  rw [show Tryd.prog.underlying 3 = some (.int .i64) from by kernel_rfl]; rfl
def c_o9 (v : ByteArray) : List PV := [.str v]
def g_o9 (v : ByteArray) : Prop := v.size ≤ maxLen
def a_o9 (v : ByteArray) : PV := .str v
theorem op_o9 : Opens Tryd.prog I 9 c_o9 g_o9 := opens_str (show Tryd.prog.underlying 9 = some (.string) by kernel_rfl)
theorem ae_o9 (w : World) (a : ByteArray) (cs : List Value) (h : RepF.go I NoM w (c_o9 a) cs) : RepF I NoM w (a_o9 a) cs := go_scalar h
theorem aa_o9 (a : ByteArray) : (a_o9 a).isAgg = (match Tryd.prog.underlying 9 with | some (.struct _) | some (.array _ _) => true | _ => false) := by
  rw [show Tryd.prog.underlying 9 = some (.string) from by kernel_rfl]; rfl
def c_o4 (v : Bool) : List PV := [.bool v]
def g_o4 (v : Bool) : Prop := True
def a_o4 (v : Bool) : PV := .bool v
theorem op_o4 : Opens Tryd.prog I 4 c_o4 g_o4 := opens_bool (show Tryd.prog.underlying 4 = some (.bool) by kernel_rfl)
theorem ae_o4 (w : World) (a : Bool) (cs : List Value) (h : RepF.go I NoM w (c_o4 a) cs) : RepF I NoM w (a_o4 a) cs := go_scalar h
theorem aa_o4 (a : Bool) : (a_o4 a).isAgg = (match Tryd.prog.underlying 4 with | some (.struct _) | some (.array _ _) => true | _ => false) := by
  rw [show Tryd.prog.underlying 4 = some (.bool) from by kernel_rfl]; rfl
def c_o73 (v : Int) : List PV := [.int .u32 v]
def g_o73 (v : Int) : Prop := (Lit.int .u32 v).wf = true
def a_o73 (v : Int) : PV := .int .u32 v
theorem op_o73 : Opens Tryd.prog I 73 c_o73 g_o73 := opens_int (show Tryd.prog.underlying 73 = some (.int .u32) by kernel_rfl)
theorem ae_o73 (w : World) (a : Int) (cs : List Value) (h : RepF.go I NoM w (c_o73 a) cs) : RepF I NoM w (a_o73 a) cs := go_scalar h
theorem aa_o73 (a : Int) : (a_o73 a).isAgg = (match Tryd.prog.underlying 73 with | some (.struct _) | some (.array _ _) => true | _ => false) := by
  rw [show Tryd.prog.underlying 73 = some (.int .u32) from by kernel_rfl]; rfl
def c_o75 (v : Int × Bool) : List PV := c_o73 (v.1) ++ (c_o4 (v.2))
def g_o75 (v : Int × Bool) : Prop := g_o73 (v.1) ∧ (g_o4 (v.2))
def a_o75 (v : Int × Bool) : PV := .agg (c_o75 v)
theorem op_o75 : Opens Tryd.prog I 75 c_o75 g_o75 := opens_struct (ps := [(73, 0), (4, 1)]) (n := 2) (show Tryd.prog.underlying 75 = some (.struct (Tryd.prog.fieldsOf 75)) by kernel_rfl) (by kernel_rfl) (by kernel_rfl) (opensF_cons (o := 0) (c := 1) (by kernel_rfl) op_o73 (by kernel_rfl) (opensF_one (o := 1) (n := 1) (by kernel_rfl) op_o4))
theorem ae_o75 (w : World) (a : Int × Bool) (cs : List Value) (h : RepF.go I NoM w (c_o75 a) cs) : RepF I NoM w (a_o75 a) cs := h
theorem aa_o75 (a : Int × Bool) : (a_o75 a).isAgg = (match Tryd.prog.underlying 75 with | some (.struct _) | some (.array _ _) => true | _ => false) := by
  rw [show Tryd.prog.underlying 75 = some (.struct (Tryd.prog.fieldsOf 75)) from by kernel_rfl]; rfl
def c_o50 (v : List (Int × Bool)) : List PV := [.sl _ e_api_Cell v]
def g_o50 (v : List (Int × Bool)) : Prop := v.length ≤ maxLen ∧ ∀ a, a ∈ v → g_o75 a
def a_o50 (v : List (Int × Bool)) : PV := .sl _ e_api_Cell v
theorem op_o50 : Opens Tryd.prog I 50 c_o50 g_o50 := opens_slice (enc := e_api_Cell) (show Tryd.prog.underlying 50 = some (.slice 75) by kernel_rfl) (s := 2) (by kernel_rfl) (by kernel_rfl) (fun _ _ _ h => h) op_o75
theorem ae_o50 (w : World) (a : List (Int × Bool)) (cs : List Value) (h : RepF.go I NoM w (c_o50 a) cs) : RepF I NoM w (a_o50 a) cs := go_scalar h
theorem aa_o50 (a : List (Int × Bool)) : (a_o50 a).isAgg = (match Tryd.prog.underlying 50 with | some (.struct _) | some (.array _ _) => true | _ => false) := by
  rw [show Tryd.prog.underlying 50 = some (.slice 75) from by kernel_rfl]; rfl
def c_o52 (v : Int × ByteArray × Bool × (List (Int × Bool))) : List PV := c_o3 (v.1) ++ (c_o9 (v.2.1) ++ (c_o4 (v.2.2.1) ++ (c_o50 (v.2.2.2))))
def g_o52 (v : Int × ByteArray × Bool × (List (Int × Bool))) : Prop := g_o3 (v.1) ∧ (g_o9 (v.2.1) ∧ (g_o4 (v.2.2.1) ∧ (g_o50 (v.2.2.2))))
def a_o52 (v : Int × ByteArray × Bool × (List (Int × Bool))) : PV := .agg (c_o52 v)
theorem op_o52 : Opens Tryd.prog I 52 c_o52 g_o52 := opens_struct (ps := [(3, 0), (9, 1), (4, 2), (50, 3)]) (n := 4) (show Tryd.prog.underlying 52 = some (.struct (Tryd.prog.fieldsOf 52)) by kernel_rfl) (by kernel_rfl) (by kernel_rfl) (opensF_cons (o := 0) (c := 1) (by kernel_rfl) op_o3 (by kernel_rfl) (opensF_cons (o := 1) (c := 1) (by kernel_rfl) op_o9 (by kernel_rfl) (opensF_cons (o := 2) (c := 1) (by kernel_rfl) op_o4 (by kernel_rfl) (opensF_one (o := 3) (n := 1) (by kernel_rfl) op_o50))))
theorem ae_o52 (w : World) (a : Int × ByteArray × Bool × (List (Int × Bool))) (cs : List Value) (h : RepF.go I NoM w (c_o52 a) cs) : RepF I NoM w (a_o52 a) cs := h
theorem aa_o52 (a : Int × ByteArray × Bool × (List (Int × Bool))) : (a_o52 a).isAgg = (match Tryd.prog.underlying 52 with | some (.struct _) | some (.array _ _) => true | _ => false) := by
  rw [show Tryd.prog.underlying 52 = some (.struct (Tryd.prog.fieldsOf 52)) from by kernel_rfl]; rfl
def c_o23 (v : List (Int × ByteArray × Bool × (List (Int × Bool)))) : List PV := [.sl _ e_api_Partition v]
def g_o23 (v : List (Int × ByteArray × Bool × (List (Int × Bool)))) : Prop := v.length ≤ maxLen ∧ ∀ a, a ∈ v → g_o52 a
def a_o23 (v : List (Int × ByteArray × Bool × (List (Int × Bool)))) : PV := .sl _ e_api_Partition v
theorem op_o23 : Opens Tryd.prog I 23 c_o23 g_o23 := opens_slice (enc := e_api_Partition) (show Tryd.prog.underlying 23 = some (.slice 52) by kernel_rfl) (s := 4) (by kernel_rfl) (by kernel_rfl) (fun _ _ _ h => h) op_o52
theorem ae_o23 (w : World) (a : List (Int × ByteArray × Bool × (List (Int × Bool)))) (cs : List Value) (h : RepF.go I NoM w (c_o23 a) cs) : RepF I NoM w (a_o23 a) cs := go_scalar h
theorem aa_o23 (a : List (Int × ByteArray × Bool × (List (Int × Bool)))) : (a_o23 a).isAgg = (match Tryd.prog.underlying 23 with | some (.struct _) | some (.array _ _) => true | _ => false) := by
  rw [show Tryd.prog.underlying 23 = some (.slice 52) from by kernel_rfl]; rfl
def c_o43 (v : List Int) : List PV := [.sl _ e_int v]
def g_o43 (v : List Int) : Prop := v.length ≤ maxLen ∧ ∀ a, a ∈ v → g_o3 a
def a_o43 (v : List Int) : PV := .sl _ e_int v
theorem op_o43 : Opens Tryd.prog I 43 c_o43 g_o43 := opens_slice (enc := e_int) (show Tryd.prog.underlying 43 = some (.slice 3) by kernel_rfl) (s := 1) (by kernel_rfl) (by kernel_rfl) (fun _ _ _ h => go_scalar h) op_o3
theorem ae_o43 (w : World) (a : List Int) (cs : List Value) (h : RepF.go I NoM w (c_o43 a) cs) : RepF I NoM w (a_o43 a) cs := go_scalar h
theorem aa_o43 (a : List Int) : (a_o43 a).isAgg = (match Tryd.prog.underlying 43 with | some (.struct _) | some (.array _ _) => true | _ => false) := by
  rw [show Tryd.prog.underlying 43 = some (.slice 3) from by kernel_rfl]; rfl
end Go.Ab.T
