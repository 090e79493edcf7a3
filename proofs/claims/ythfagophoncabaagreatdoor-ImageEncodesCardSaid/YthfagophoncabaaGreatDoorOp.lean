import Derived.Test.YthfagophoncabaaGreatDoorTB
import Derived.Test.YthfagophoncabaaGreatDoorMaB
import Derived.Laws.StructEq
set_option linter.unusedVariables false
set_option linter.unusedSimpArgs false
set_option linter.unusedSectionVars false
namespace Go.Ab.T
open Go Go.Ab Go.Proofs
set_option maxRecDepth 100000
def c_o4 (v : Bool) : List PV := [.bool v]
def g_o4 (v : Bool) : Prop := True
theorem op_o4 : Opens Tryz.prog I 4 c_o4 g_o4 := opens_bool (show Tryz.prog.underlying 4 = some (.bool) by kernel_rfl)
def c_o9 (v : ByteArray) : List PV := [.str v]
def g_o9 (v : ByteArray) : Prop := v.size ≤ reachBytes
theorem op_o9 : Opens Tryz.prog I 9 c_o9 g_o9 := opens_str (show Tryz.prog.underlying 9 = some (.string) by kernel_rfl)
def c_o22 (v : Int) : List PV := [.int .u64 v]
def g_o22 (v : Int) : Prop := (Lit.int .u64 v).wf = true
theorem op_o22 : Opens Tryz.prog I 22 c_o22 g_o22 := opens_int (show Tryz.prog.underlying 22 = some (.int .u64) by kernel_rfl)
def c_o3 (v : Int) : List PV := [.int .i64 v]
def g_o3 (v : Int) : Prop := (Lit.int .i64 v).wf = true
theorem op_o3 : Opens Tryz.prog I 3 c_o3 g_o3 := opens_int (show Tryz.prog.underlying 3 = some (.int .i64) by kernel_rfl)
def c_o61 (v : Int) : List PV := [.int .u32 v]
def g_o61 (v : Int) : Prop := (Lit.int .u32 v).wf = true
theorem op_o61 : Opens Tryz.prog I 61 c_o61 g_o61 := opens_int (show Tryz.prog.underlying 61 = some (.int .u32) by kernel_rfl)
def c_o154 (v : Int × Bool) : List PV := c_o61 (v.1) ++ (c_o4 (v.2))
def g_o154 (v : Int × Bool) : Prop := g_o61 (v.1) ∧ (g_o4 (v.2))
theorem op_o154 : Opens Tryz.prog I 154 c_o154 g_o154 := opens_struct (ps := [(61, 0), (4, 1)]) (n := 2) (show Tryz.prog.underlying 154 = some (.struct (Tryz.prog.fieldsOf 154)) by kernel_rfl) (by kernel_rfl) (by kernel_rfl) (opensF_cons (o := 0) (c := 1) (by kernel_rfl) op_o61 (by kernel_rfl) (opensF_one (o := 1) (n := 1) (by kernel_rfl) op_o4))
def c_o53 (v : List (Int × Bool)) : List PV := [.sl _ e_api_Cell v]
def g_o53 (v : List (Int × Bool)) : Prop := v.length ≤ maxLen ∧ (∀ a, a ∈ v → g_o154 a) ∧ v.length * 8 ≤ reachBytes
theorem op_o53 : Opens Tryz.prog I 53 c_o53 g_o53 := opens_slice (enc := e_api_Cell) (show Tryz.prog.underlying 53 = some (.slice 154) by kernel_rfl) (s := 2) (by kernel_rfl) (by kernel_rfl) (b := 8) (by kernel_rfl) (fun _ _ _ h => h) op_o154
def c_o55 (v : Int × ByteArray × Bool × (List (Int × Bool))) : List PV := c_o3 (v.1) ++ (c_o9 (v.2.1) ++ (c_o4 (v.2.2.1) ++ (c_o53 (v.2.2.2))))
def g_o55 (v : Int × ByteArray × Bool × (List (Int × Bool))) : Prop := g_o3 (v.1) ∧ (g_o9 (v.2.1) ∧ (g_o4 (v.2.2.1) ∧ (g_o53 (v.2.2.2))))
theorem op_o55 : Opens Tryz.prog I 55 c_o55 g_o55 := opens_struct (ps := [(3, 0), (9, 1), (4, 2), (53, 3)]) (n := 4) (show Tryz.prog.underlying 55 = some (.struct (Tryz.prog.fieldsOf 55)) by kernel_rfl) (by kernel_rfl) (by kernel_rfl) (opensF_cons (o := 0) (c := 1) (by kernel_rfl) op_o3 (by kernel_rfl) (opensF_cons (o := 1) (c := 1) (by kernel_rfl) op_o9 (by kernel_rfl) (opensF_cons (o := 2) (c := 1) (by kernel_rfl) op_o4 (by kernel_rfl) (opensF_one (o := 3) (n := 1) (by kernel_rfl) op_o53))))
def c_o23 (v : List (Int × ByteArray × Bool × (List (Int × Bool)))) : List PV := [.sl _ e_api_Partition v]
def g_o23 (v : List (Int × ByteArray × Bool × (List (Int × Bool)))) : Prop := v.length ≤ maxLen ∧ (∀ a, a ∈ v → g_o55 a) ∧ v.length * 56 ≤ reachBytes
theorem op_o23 : Opens Tryz.prog I 23 c_o23 g_o23 := opens_slice (enc := e_api_Partition) (show Tryz.prog.underlying 23 = some (.slice 55) by kernel_rfl) (s := 4) (by kernel_rfl) (by kernel_rfl) (b := 56) (by kernel_rfl) (fun _ _ _ h => h) op_o55
def c_o157 (v : Int × Int × Int) : List PV := c_o3 (v.1) ++ (c_o3 (v.2.1) ++ (c_o3 (v.2.2)))
def g_o157 (v : Int × Int × Int) : Prop := g_o3 (v.1) ∧ (g_o3 (v.2.1) ∧ (g_o3 (v.2.2)))
theorem op_o157 : Opens Tryz.prog I 157 c_o157 g_o157 := opens_struct (ps := [(3, 0), (3, 1), (3, 2)]) (n := 3) (show Tryz.prog.underlying 157 = some (.struct (Tryz.prog.fieldsOf 157)) by kernel_rfl) (by kernel_rfl) (by kernel_rfl) (opensF_cons (o := 0) (c := 1) (by kernel_rfl) op_o3 (by kernel_rfl) (opensF_cons (o := 1) (c := 1) (by kernel_rfl) op_o3 (by kernel_rfl) (opensF_one (o := 2) (n := 1) (by kernel_rfl) op_o3)))
def c_o56 (v : List (Int × Int × Int)) : List PV := [.sl _ e_api_Window v]
def g_o56 (v : List (Int × Int × Int)) : Prop := v.length ≤ maxLen ∧ (∀ a, a ∈ v → g_o157 a) ∧ v.length * 24 ≤ reachBytes
theorem op_o56 : Opens Tryz.prog I 56 c_o56 g_o56 := opens_slice (enc := e_api_Window) (show Tryz.prog.underlying 56 = some (.slice 157) by kernel_rfl) (s := 3) (by kernel_rfl) (by kernel_rfl) (b := 24) (by kernel_rfl) (fun _ _ _ h => h) op_o157
def c_o159 (v : Int × Int × Int) : List PV := c_o3 (v.1) ++ (c_o3 (v.2.1) ++ (c_o3 (v.2.2)))
def g_o159 (v : Int × Int × Int) : Prop := g_o3 (v.1) ∧ (g_o3 (v.2.1) ∧ (g_o3 (v.2.2)))
theorem op_o159 : Opens Tryz.prog I 159 c_o159 g_o159 := opens_struct (ps := [(3, 0), (3, 1), (3, 2)]) (n := 3) (show Tryz.prog.underlying 159 = some (.struct (Tryz.prog.fieldsOf 159)) by kernel_rfl) (by kernel_rfl) (by kernel_rfl) (opensF_cons (o := 0) (c := 1) (by kernel_rfl) op_o3 (by kernel_rfl) (opensF_cons (o := 1) (c := 1) (by kernel_rfl) op_o3 (by kernel_rfl) (opensF_one (o := 2) (n := 1) (by kernel_rfl) op_o3)))
def c_o57 (v : List (Int × Int × Int)) : List PV := [.sl _ e_api_Need v]
def g_o57 (v : List (Int × Int × Int)) : Prop := v.length ≤ maxLen ∧ (∀ a, a ∈ v → g_o159 a) ∧ v.length * 24 ≤ reachBytes
theorem op_o57 : Opens Tryz.prog I 57 c_o57 g_o57 := opens_slice (enc := e_api_Need) (show Tryz.prog.underlying 57 = some (.slice 159) by kernel_rfl) (s := 3) (by kernel_rfl) (by kernel_rfl) (b := 24) (by kernel_rfl) (fun _ _ _ h => h) op_o159
def c_o59 (v : Int × Int × (List (Int × Int × Int)) × (List (Int × Int × Int))) : List PV := c_o3 (v.1) ++ (c_o3 (v.2.1) ++ (c_o56 (v.2.2.1) ++ (c_o57 (v.2.2.2))))
def g_o59 (v : Int × Int × (List (Int × Int × Int)) × (List (Int × Int × Int))) : Prop := g_o3 (v.1) ∧ (g_o3 (v.2.1) ∧ (g_o56 (v.2.2.1) ∧ (g_o57 (v.2.2.2))))
theorem op_o59 : Opens Tryz.prog I 59 c_o59 g_o59 := opens_struct (ps := [(3, 0), (3, 1), (56, 2), (57, 3)]) (n := 4) (show Tryz.prog.underlying 59 = some (.struct (Tryz.prog.fieldsOf 59)) by kernel_rfl) (by kernel_rfl) (by kernel_rfl) (opensF_cons (o := 0) (c := 1) (by kernel_rfl) op_o3 (by kernel_rfl) (opensF_cons (o := 1) (c := 1) (by kernel_rfl) op_o3 (by kernel_rfl) (opensF_cons (o := 2) (c := 1) (by kernel_rfl) op_o56 (by kernel_rfl) (opensF_one (o := 3) (n := 1) (by kernel_rfl) op_o57))))
def c_o24 (v : List (Int × Int × (List (Int × Int × Int)) × (List (Int × Int × Int)))) : List PV := [.sl _ e_api_Schedule v]
def g_o24 (v : List (Int × Int × (List (Int × Int × Int)) × (List (Int × Int × Int)))) : Prop := v.length ≤ maxLen ∧ (∀ a, a ∈ v → g_o59 a) ∧ v.length * 64 ≤ reachBytes
theorem op_o24 : Opens Tryz.prog I 24 c_o24 g_o24 := opens_slice (enc := e_api_Schedule) (show Tryz.prog.underlying 24 = some (.slice 59) by kernel_rfl) (s := 4) (by kernel_rfl) (by kernel_rfl) (b := 64) (by kernel_rfl) (fun _ _ _ h => h) op_o59
def c_o139 (v : Int × Int) : List PV := c_o3 (v.1) ++ (c_o3 (v.2))
def g_o139 (v : Int × Int) : Prop := g_o3 (v.1) ∧ (g_o3 (v.2))
theorem op_o139 : Opens Tryz.prog I 139 c_o139 g_o139 := opens_struct (ps := [(3, 0), (3, 1)]) (n := 2) (show Tryz.prog.underlying 139 = some (.struct (Tryz.prog.fieldsOf 139)) by kernel_rfl) (by kernel_rfl) (by kernel_rfl) (opensF_cons (o := 0) (c := 1) (by kernel_rfl) op_o3 (by kernel_rfl) (opensF_one (o := 1) (n := 1) (by kernel_rfl) op_o3))
def c_o25 (v : List (Int × Int)) : List PV := [.sl _ e_api_Pair v]
def g_o25 (v : List (Int × Int)) : Prop := v.length ≤ maxLen ∧ (∀ a, a ∈ v → g_o139 a) ∧ v.length * 16 ≤ reachBytes
theorem op_o25 : Opens Tryz.prog I 25 c_o25 g_o25 := opens_slice (enc := e_api_Pair) (show Tryz.prog.underlying 25 = some (.slice 139) by kernel_rfl) (s := 2) (by kernel_rfl) (by kernel_rfl) (b := 16) (by kernel_rfl) (fun _ _ _ h => h) op_o139
def c_o141 (v : Int × Int × Int) : List PV := c_o3 (v.1) ++ (c_o3 (v.2.1) ++ (c_o3 (v.2.2)))
def g_o141 (v : Int × Int × Int) : Prop := g_o3 (v.1) ∧ (g_o3 (v.2.1) ∧ (g_o3 (v.2.2)))
theorem op_o141 : Opens Tryz.prog I 141 c_o141 g_o141 := opens_struct (ps := [(3, 0), (3, 1), (3, 2)]) (n := 3) (show Tryz.prog.underlying 141 = some (.struct (Tryz.prog.fieldsOf 141)) by kernel_rfl) (by kernel_rfl) (by kernel_rfl) (opensF_cons (o := 0) (c := 1) (by kernel_rfl) op_o3 (by kernel_rfl) (opensF_cons (o := 1) (c := 1) (by kernel_rfl) op_o3 (by kernel_rfl) (opensF_one (o := 2) (n := 1) (by kernel_rfl) op_o3)))
def c_o26 (v : List (Int × Int × Int)) : List PV := [.sl _ e_api_Act v]
def g_o26 (v : List (Int × Int × Int)) : Prop := v.length ≤ maxLen ∧ (∀ a, a ∈ v → g_o141 a) ∧ v.length * 24 ≤ reachBytes
theorem op_o26 : Opens Tryz.prog I 26 c_o26 g_o26 := opens_slice (enc := e_api_Act) (show Tryz.prog.underlying 26 = some (.slice 141) by kernel_rfl) (s := 3) (by kernel_rfl) (by kernel_rfl) (b := 24) (by kernel_rfl) (fun _ _ _ h => h) op_o141
def c_o28 (v : Int × Int × (List (Int × ByteArray × Bool × (List (Int × Bool)))) × (List (Int × Int × (List (Int × Int × Int)) × (List (Int × Int × Int)))) × (List (Int × Int)) × (List (Int × Int × Int))) : List PV := c_o22 (v.1) ++ (c_o3 (v.2.1) ++ (c_o23 (v.2.2.1) ++ (c_o24 (v.2.2.2.1) ++ (c_o25 (v.2.2.2.2.1) ++ (c_o26 (v.2.2.2.2.2))))))
def g_o28 (v : Int × Int × (List (Int × ByteArray × Bool × (List (Int × Bool)))) × (List (Int × Int × (List (Int × Int × Int)) × (List (Int × Int × Int)))) × (List (Int × Int)) × (List (Int × Int × Int))) : Prop := g_o22 (v.1) ∧ (g_o3 (v.2.1) ∧ (g_o23 (v.2.2.1) ∧ (g_o24 (v.2.2.2.1) ∧ (g_o25 (v.2.2.2.2.1) ∧ (g_o26 (v.2.2.2.2.2))))))
def a_o28 (v : Int × Int × (List (Int × ByteArray × Bool × (List (Int × Bool)))) × (List (Int × Int × (List (Int × Int × Int)) × (List (Int × Int × Int)))) × (List (Int × Int)) × (List (Int × Int × Int))) : PV := .agg (c_o28 v)
theorem op_o28 : Opens Tryz.prog I 28 c_o28 g_o28 := opens_struct (ps := [(22, 0), (3, 1), (23, 2), (24, 3), (25, 4), (26, 5)]) (n := 6) (show Tryz.prog.underlying 28 = some (.struct (Tryz.prog.fieldsOf 28)) by kernel_rfl) (by kernel_rfl) (by kernel_rfl) (opensF_cons (o := 0) (c := 1) (by kernel_rfl) op_o22 (by kernel_rfl) (opensF_cons (o := 1) (c := 1) (by kernel_rfl) op_o3 (by kernel_rfl) (opensF_cons (o := 2) (c := 1) (by kernel_rfl) op_o23 (by kernel_rfl) (opensF_cons (o := 3) (c := 1) (by kernel_rfl) op_o24 (by kernel_rfl) (opensF_cons (o := 4) (c := 1) (by kernel_rfl) op_o25 (by kernel_rfl) (opensF_one (o := 5) (n := 1) (by kernel_rfl) op_o26))))))
theorem ae_o28 (w : World) (a : Int × Int × (List (Int × ByteArray × Bool × (List (Int × Bool)))) × (List (Int × Int × (List (Int × Int × Int)) × (List (Int × Int × Int)))) × (List (Int × Int)) × (List (Int × Int × Int))) (cs : List Value) (h : RepF.go I NoM w (c_o28 a) cs) : RepF I NoM w (a_o28 a) cs := h
theorem aa_o28 (a : Int × Int × (List (Int × ByteArray × Bool × (List (Int × Bool)))) × (List (Int × Int × (List (Int × Int × Int)) × (List (Int × Int × Int)))) × (List (Int × Int)) × (List (Int × Int × Int))) : (a_o28 a).isAgg = (match Tryz.prog.underlying 28 with | some (.struct _) | some (.array _ _) => true | _ => false) := by
  rw [show Tryz.prog.underlying 28 = some (.struct (Tryz.prog.fieldsOf 28)) from by kernel_rfl]; rfl
end Go.Ab.T
