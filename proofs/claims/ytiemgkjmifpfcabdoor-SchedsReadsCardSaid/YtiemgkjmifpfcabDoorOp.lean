import Derived.Test.YtiemgkjmifpfcabDoorTB
import Derived.Test.YtiemgkjmifpfcabDoorMaB
import Derived.Laws.StructEq
set_option linter.unusedVariables false
set_option linter.unusedSimpArgs false
namespace Go.Ab.T
open Go Go.Ab Go.Proofs
set_option maxRecDepth 100000
theorem go_scalar {M : Nat → Prop} {w : World} {x : PV} {cs : List Value} (h : RepF.go I M w [x] cs) : RepF I M w x cs := by
  obtain ⟨v, r, rfl, _, h1, h2⟩ := h
  simp only [RepF.go] at h2
  subst h2; exact h1
def c_o3 (v : Int) : List PV := [.int .i64 v]
def g_o3 (v : Int) : Prop := (Lit.int .i64 v).wf = true
def a_o3 (v : Int) : PV := .int .i64 v
theorem op_o3 : Opens Tryd.prog I 3 c_o3 g_o3 := opens_int (show Tryd.prog.underlying 3 = some (.int .i64) by kernel_rfl)
theorem ae_o3 (w : World) (a : Int) (cs : List Value) (h : RepF.go I NoM w (c_o3 a) cs) : RepF I NoM w (a_o3 a) cs := go_scalar h
theorem aa_o3 (a : Int) : (a_o3 a).isAgg = (match Tryd.prog.underlying 3 with | some (.struct _) | some (.array _ _) => true | _ => false) := by
  rw [show Tryd.prog.underlying 3 = some (.int .i64) from by kernel_rfl]; rfl
def c_o9 (v : ByteArray) : List PV := [.str v]
def g_o9 (v : ByteArray) : Prop := v.size ≤ maxLen
def a_o9 (v : ByteArray) : PV := .str v
theorem op_o9 : Opens Tryd.prog I 9 c_o9 g_o9 := opens_str (show Tryd.prog.underlying 9 = some (.string) by kernel_rfl)
theorem ae_o9 (w : World) (a : ByteArray) (cs : List Value) (h : RepF.go I NoM w (c_o9 a) cs) : RepF I NoM w (a_o9 a) cs := go_scalar h
theorem aa_o9 (a : ByteArray) : (a_o9 a).isAgg = (match Tryd.prog.underlying 9 with | some (.struct _) | some (.array _ _) => true | _ => false) := by
  rw [show Tryd.prog.underlying 9 = some (.string) from by kernel_rfl]; rfl
def c_o5 (v : UInt8) : List PV := [.int .u8 v.toNat]
def g_o5 (v : UInt8) : Prop := True
def a_o5 (v : UInt8) : PV := .int .u8 v.toNat
theorem op_o5 : Opens Tryd.prog I 5 c_o5 g_o5 := opens_u8 (show Tryd.prog.underlying 5 = some (.int .u8) by kernel_rfl)
theorem ae_o5 (w : World) (a : UInt8) (cs : List Value) (h : RepF.go I NoM w (c_o5 a) cs) : RepF I NoM w (a_o5 a) cs := go_scalar h
theorem aa_o5 (a : UInt8) : (a_o5 a).isAgg = (match Tryd.prog.underlying 5 with | some (.struct _) | some (.array _ _) => true | _ => false) := by
  rw [show Tryd.prog.underlying 5 = some (.int .u8) from by kernel_rfl]; rfl
def c_o37 (v : List UInt8) : List PV := [.sl _ e_uint8 v]
def g_o37 (v : List UInt8) : Prop := v.length ≤ maxLen ∧ ∀ a, a ∈ v → g_o5 a
def a_o37 (v : List UInt8) : PV := .sl _ e_uint8 v
theorem op_o37 : Opens Tryd.prog I 37 c_o37 g_o37 := opens_slice (enc := e_uint8) (show Tryd.prog.underlying 37 = some (.slice 5) by kernel_rfl) (s := 1) (by kernel_rfl) (by kernel_rfl) (fun _ _ _ h => go_scalar h) op_o5
theorem ae_o37 (w : World) (a : List UInt8) (cs : List Value) (h : RepF.go I NoM w (c_o37 a) cs) : RepF I NoM w (a_o37 a) cs := go_scalar h
theorem aa_o37 (a : List UInt8) : (a_o37 a).isAgg = (match Tryd.prog.underlying 37 with | some (.struct _) | some (.array _ _) => true | _ => false) := by
  rw [show Tryd.prog.underlying 37 = some (.slice 5) from by kernel_rfl]; rfl
def c_o38 (v : Int) : List PV := [.int .u32 v]
def g_o38 (v : Int) : Prop := (Lit.int .u32 v).wf = true
def a_o38 (v : Int) : PV := .int .u32 v
theorem op_o38 : Opens Tryd.prog I 38 c_o38 g_o38 := opens_int (show Tryd.prog.underlying 38 = some (.int .u32) by kernel_rfl)
theorem ae_o38 (w : World) (a : Int) (cs : List Value) (h : RepF.go I NoM w (c_o38 a) cs) : RepF I NoM w (a_o38 a) cs := go_scalar h
theorem aa_o38 (a : Int) : (a_o38 a).isAgg = (match Tryd.prog.underlying 38 with | some (.struct _) | some (.array _ _) => true | _ => false) := by
  rw [show Tryd.prog.underlying 38 = some (.int .u32) from by kernel_rfl]; rfl
def c_o39 (v : Int) : List PV := [.int .u64 v]
def g_o39 (v : Int) : Prop := (Lit.int .u64 v).wf = true
def a_o39 (v : Int) : PV := .int .u64 v
theorem op_o39 : Opens Tryd.prog I 39 c_o39 g_o39 := opens_int (show Tryd.prog.underlying 39 = some (.int .u64) by kernel_rfl)
theorem ae_o39 (w : World) (a : Int) (cs : List Value) (h : RepF.go I NoM w (c_o39 a) cs) : RepF I NoM w (a_o39 a) cs := go_scalar h
theorem aa_o39 (a : Int) : (a_o39 a).isAgg = (match Tryd.prog.underlying 39 with | some (.struct _) | some (.array _ _) => true | _ => false) := by
  rw [show Tryd.prog.underlying 39 = some (.int .u64) from by kernel_rfl]; rfl
def c_o41 (v : Int × Int × Int × Int × Int × Int × Int) : List PV := c_o38 (v.1) ++ (c_o39 (v.2.1) ++ (c_o3 (v.2.2.1) ++ (c_o3 (v.2.2.2.1) ++ (c_o3 (v.2.2.2.2.1) ++ (c_o3 (v.2.2.2.2.2.1) ++ (c_o3 (v.2.2.2.2.2.2)))))))
def g_o41 (v : Int × Int × Int × Int × Int × Int × Int) : Prop := g_o38 (v.1) ∧ (g_o39 (v.2.1) ∧ (g_o3 (v.2.2.1) ∧ (g_o3 (v.2.2.2.1) ∧ (g_o3 (v.2.2.2.2.1) ∧ (g_o3 (v.2.2.2.2.2.1) ∧ (g_o3 (v.2.2.2.2.2.2)))))))
def a_o41 (v : Int × Int × Int × Int × Int × Int × Int) : PV := .agg (c_o41 v)
theorem op_o41 : Opens Tryd.prog I 41 c_o41 g_o41 := opens_struct (ps := [(38, 0), (39, 1), (3, 2), (3, 3), (3, 4), (3, 5), (3, 6)]) (n := 7) (show Tryd.prog.underlying 41 = some (.struct (Tryd.prog.fieldsOf 41)) by kernel_rfl) (by kernel_rfl) (by kernel_rfl) (opensF_cons (o := 0) (c := 1) (by kernel_rfl) op_o38 (by kernel_rfl) (opensF_cons (o := 1) (c := 1) (by kernel_rfl) op_o39 (by kernel_rfl) (opensF_cons (o := 2) (c := 1) (by kernel_rfl) op_o3 (by kernel_rfl) (opensF_cons (o := 3) (c := 1) (by kernel_rfl) op_o3 (by kernel_rfl) (opensF_cons (o := 4) (c := 1) (by kernel_rfl) op_o3 (by kernel_rfl) (opensF_cons (o := 5) (c := 1) (by kernel_rfl) op_o3 (by kernel_rfl) (opensF_one (o := 6) (n := 1) (by kernel_rfl) op_o3)))))))
theorem ae_o41 (w : World) (a : Int × Int × Int × Int × Int × Int × Int) (cs : List Value) (h : RepF.go I NoM w (c_o41 a) cs) : RepF I NoM w (a_o41 a) cs := h
theorem aa_o41 (a : Int × Int × Int × Int × Int × Int × Int) : (a_o41 a).isAgg = (match Tryd.prog.underlying 41 with | some (.struct _) | some (.array _ _) => true | _ => false) := by
  rw [show Tryd.prog.underlying 41 = some (.struct (Tryd.prog.fieldsOf 41)) from by kernel_rfl]; rfl
def c_o108 (v : Int × Int × Int) : List PV := c_o3 (v.1) ++ (c_o3 (v.2.1) ++ (c_o3 (v.2.2)))
def g_o108 (v : Int × Int × Int) : Prop := g_o3 (v.1) ∧ (g_o3 (v.2.1) ∧ (g_o3 (v.2.2)))
def a_o108 (v : Int × Int × Int) : PV := .agg (c_o108 v)
theorem op_o108 : Opens Tryd.prog I 108 c_o108 g_o108 := opens_struct (ps := [(3, 0), (3, 1), (3, 2)]) (n := 3) (show Tryd.prog.underlying 108 = some (.struct (Tryd.prog.fieldsOf 108)) by kernel_rfl) (by kernel_rfl) (by kernel_rfl) (opensF_cons (o := 0) (c := 1) (by kernel_rfl) op_o3 (by kernel_rfl) (opensF_cons (o := 1) (c := 1) (by kernel_rfl) op_o3 (by kernel_rfl) (opensF_one (o := 2) (n := 1) (by kernel_rfl) op_o3)))
theorem ae_o108 (w : World) (a : Int × Int × Int) (cs : List Value) (h : RepF.go I NoM w (c_o108 a) cs) : RepF I NoM w (a_o108 a) cs := h
theorem aa_o108 (a : Int × Int × Int) : (a_o108 a).isAgg = (match Tryd.prog.underlying 108 with | some (.struct _) | some (.array _ _) => true | _ => false) := by
  rw [show Tryd.prog.underlying 108 = some (.struct (Tryd.prog.fieldsOf 108)) from by kernel_rfl]; rfl
def c_o103 (v : List (Int × Int × Int)) : List PV := [.sl _ e_api_Window v]
def g_o103 (v : List (Int × Int × Int)) : Prop := v.length ≤ maxLen ∧ ∀ a, a ∈ v → g_o108 a
def a_o103 (v : List (Int × Int × Int)) : PV := .sl _ e_api_Window v
theorem op_o103 : Opens Tryd.prog I 103 c_o103 g_o103 := opens_slice (enc := e_api_Window) (show Tryd.prog.underlying 103 = some (.slice 108) by kernel_rfl) (s := 3) (by kernel_rfl) (by kernel_rfl) (fun _ _ _ h => h) op_o108
theorem ae_o103 (w : World) (a : List (Int × Int × Int)) (cs : List Value) (h : RepF.go I NoM w (c_o103 a) cs) : RepF I NoM w (a_o103 a) cs := go_scalar h
theorem aa_o103 (a : List (Int × Int × Int)) : (a_o103 a).isAgg = (match Tryd.prog.underlying 103 with | some (.struct _) | some (.array _ _) => true | _ => false) := by
  rw [show Tryd.prog.underlying 103 = some (.slice 108) from by kernel_rfl]; rfl
def c_o114 (v : Int × Int × Int) : List PV := c_o3 (v.1) ++ (c_o3 (v.2.1) ++ (c_o3 (v.2.2)))
def g_o114 (v : Int × Int × Int) : Prop := g_o3 (v.1) ∧ (g_o3 (v.2.1) ∧ (g_o3 (v.2.2)))
def a_o114 (v : Int × Int × Int) : PV := .agg (c_o114 v)
theorem op_o114 : Opens Tryd.prog I 114 c_o114 g_o114 := opens_struct (ps := [(3, 0), (3, 1), (3, 2)]) (n := 3) (show Tryd.prog.underlying 114 = some (.struct (Tryd.prog.fieldsOf 114)) by kernel_rfl) (by kernel_rfl) (by kernel_rfl) (opensF_cons (o := 0) (c := 1) (by kernel_rfl) op_o3 (by kernel_rfl) (opensF_cons (o := 1) (c := 1) (by kernel_rfl) op_o3 (by kernel_rfl) (opensF_one (o := 2) (n := 1) (by kernel_rfl) op_o3)))
theorem ae_o114 (w : World) (a : Int × Int × Int) (cs : List Value) (h : RepF.go I NoM w (c_o114 a) cs) : RepF I NoM w (a_o114 a) cs := h
theorem aa_o114 (a : Int × Int × Int) : (a_o114 a).isAgg = (match Tryd.prog.underlying 114 with | some (.struct _) | some (.array _ _) => true | _ => false) := by
  rw [show Tryd.prog.underlying 114 = some (.struct (Tryd.prog.fieldsOf 114)) from by kernel_rfl]; rfl
def c_o104 (v : List (Int × Int × Int)) : List PV := [.sl _ e_api_Need v]
def g_o104 (v : List (Int × Int × Int)) : Prop := v.length ≤ maxLen ∧ ∀ a, a ∈ v → g_o114 a
def a_o104 (v : List (Int × Int × Int)) : PV := .sl _ e_api_Need v
theorem op_o104 : Opens Tryd.prog I 104 c_o104 g_o104 := opens_slice (enc := e_api_Need) (show Tryd.prog.underlying 104 = some (.slice 114) by kernel_rfl) (s := 3) (by kernel_rfl) (by kernel_rfl) (fun _ _ _ h => h) op_o114
theorem ae_o104 (w : World) (a : List (Int × Int × Int)) (cs : List Value) (h : RepF.go I NoM w (c_o104 a) cs) : RepF I NoM w (a_o104 a) cs := go_scalar h
theorem aa_o104 (a : List (Int × Int × Int)) : (a_o104 a).isAgg = (match Tryd.prog.underlying 104 with | some (.struct _) | some (.array _ _) => true | _ => false) := by
  rw [show Tryd.prog.underlying 104 = some (.slice 114) from by kernel_rfl]; rfl
def c_o106 (v : Int × Int × (List (Int × Int × Int)) × (List (Int × Int × Int))) : List PV := c_o3 (v.1) ++ (c_o3 (v.2.1) ++ (c_o103 (v.2.2.1) ++ (c_o104 (v.2.2.2))))
def g_o106 (v : Int × Int × (List (Int × Int × Int)) × (List (Int × Int × Int))) : Prop := g_o3 (v.1) ∧ (g_o3 (v.2.1) ∧ (g_o103 (v.2.2.1) ∧ (g_o104 (v.2.2.2))))
def a_o106 (v : Int × Int × (List (Int × Int × Int)) × (List (Int × Int × Int))) : PV := .agg (c_o106 v)
theorem op_o106 : Opens Tryd.prog I 106 c_o106 g_o106 := opens_struct (ps := [(3, 0), (3, 1), (103, 2), (104, 3)]) (n := 4) (show Tryd.prog.underlying 106 = some (.struct (Tryd.prog.fieldsOf 106)) by kernel_rfl) (by kernel_rfl) (by kernel_rfl) (opensF_cons (o := 0) (c := 1) (by kernel_rfl) op_o3 (by kernel_rfl) (opensF_cons (o := 1) (c := 1) (by kernel_rfl) op_o3 (by kernel_rfl) (opensF_cons (o := 2) (c := 1) (by kernel_rfl) op_o103 (by kernel_rfl) (opensF_one (o := 3) (n := 1) (by kernel_rfl) op_o104))))
theorem ae_o106 (w : World) (a : Int × Int × (List (Int × Int × Int)) × (List (Int × Int × Int))) (cs : List Value) (h : RepF.go I NoM w (c_o106 a) cs) : RepF I NoM w (a_o106 a) cs := h
theorem aa_o106 (a : Int × Int × (List (Int × Int × Int)) × (List (Int × Int × Int))) : (a_o106 a).isAgg = (match Tryd.prog.underlying 106 with | some (.struct _) | some (.array _ _) => true | _ => false) := by
  rw [show Tryd.prog.underlying 106 = some (.struct (Tryd.prog.fieldsOf 106)) from by kernel_rfl]; rfl
def c_o55 (v : List (Int × Int × (List (Int × Int × Int)) × (List (Int × Int × Int)))) : List PV := [.sl _ e_api_Schedule v]
def g_o55 (v : List (Int × Int × (List (Int × Int × Int)) × (List (Int × Int × Int)))) : Prop := v.length ≤ maxLen ∧ ∀ a, a ∈ v → g_o106 a
def a_o55 (v : List (Int × Int × (List (Int × Int × Int)) × (List (Int × Int × Int)))) : PV := .sl _ e_api_Schedule v
theorem op_o55 : Opens Tryd.prog I 55 c_o55 g_o55 := opens_slice (enc := e_api_Schedule) (show Tryd.prog.underlying 55 = some (.slice 106) by kernel_rfl) (s := 4) (by kernel_rfl) (by kernel_rfl) (fun _ _ _ h => h) op_o106
theorem ae_o55 (w : World) (a : List (Int × Int × (List (Int × Int × Int)) × (List (Int × Int × Int)))) (cs : List Value) (h : RepF.go I NoM w (c_o55 a) cs) : RepF I NoM w (a_o55 a) cs := go_scalar h
theorem aa_o55 (a : List (Int × Int × (List (Int × Int × Int)) × (List (Int × Int × Int)))) : (a_o55 a).isAgg = (match Tryd.prog.underlying 55 with | some (.struct _) | some (.array _ _) => true | _ => false) := by
  rw [show Tryd.prog.underlying 55 = some (.slice 106) from by kernel_rfl]; rfl
end Go.Ab.T
