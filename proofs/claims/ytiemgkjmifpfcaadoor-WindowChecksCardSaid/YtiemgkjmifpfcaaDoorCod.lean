import Derived.Test.YtiemgkjmifpfcaaDoorAb28
set_option linter.unusedVariables false
set_option linter.unusedSimpArgs false
namespace Go.Ab.T
open Go Go.Ab
def uCod : Cod := ⟨Unit, fun _ => .bool false, 1, fun _ => rfl, fun _ => rfl⟩
def e_api_Window (w : Int × Int × Int) : PV := .agg [.int .i64 w.1, .int .i64 w.2.1, .int .i64 w.2.2]
def c_api_Window : Cod := ⟨Int × Int × Int, e_api_Window, 3, fun _ => rfl, fun _ => rfl⟩
def e_api_Need (w : Int × Int × Int) : PV := .agg [.int .i64 w.1, .int .i64 w.2.1, .int .i64 w.2.2]
def c_api_Need : Cod := ⟨Int × Int × Int, e_api_Need, 3, fun _ => rfl, fun _ => rfl⟩
def e_int (w : Int) : PV := .int .i64 w
def c_int : Cod := ⟨Int, e_int, 1, fun _ => rfl, fun _ => rfl⟩
def e_countwheellaw05_Op (w : Int × Int × Int × Bool) : PV := .agg [.int .i64 w.1, .int .i64 w.2.1, .int .i64 w.2.2.1, .bool w.2.2.2]
def c_countwheellaw05_Op : Cod := ⟨Int × Int × Int × Bool, e_countwheellaw05_Op, 4, fun _ => rfl, fun _ => rfl⟩
def e_api_Cell (w : Int × Bool) : PV := .agg [.int .u32 w.1, .bool w.2]
def c_api_Cell : Cod := ⟨Int × Bool, e_api_Cell, 2, fun _ => rfl, fun _ => rfl⟩
def e_api_Pair (w : Int × Int) : PV := .agg [.int .i64 w.1, .int .i64 w.2]
def c_api_Pair : Cod := ⟨Int × Int, e_api_Pair, 2, fun _ => rfl, fun _ => rfl⟩
def e_api_Act (w : Int × Int × Int) : PV := .agg [.int .i64 w.1, .int .i64 w.2.1, .int .i64 w.2.2]
def c_api_Act : Cod := ⟨Int × Int × Int, e_api_Act, 3, fun _ => rfl, fun _ => rfl⟩
def e_uint8 (w : UInt8) : PV := .int .u8 w.toNat
def c_uint8 : Cod := ⟨UInt8, e_uint8, 1, fun _ => rfl, fun _ => rfl⟩
def e_string (w : ByteArray) : PV := .str w
def c_string : Cod := ⟨ByteArray, e_string, 1, fun _ => rfl, fun _ => rfl⟩
def e_error (w : Err) : PV := .err w
def c_error : Cod := ⟨Err, e_error, 1, fun _ => rfl, fun _ => rfl⟩
def e_abi_Method (w : Int × Int × Int × Int) : PV := .agg [.int .i32 w.1, .int .i32 w.2.1, .int .i32 w.2.2.1, .int .i32 w.2.2.2]
def c_abi_Method : Cod := ⟨Int × Int × Int × Int, e_abi_Method, 4, fun _ => rfl, fun _ => rfl⟩
def e_api_Partition (w : Int × ByteArray × Bool × (List (Int × Bool))) : PV := .agg [.int .i64 w.1, .str w.2.1, .bool w.2.2.1, .sl (Int × Bool) e_api_Cell w.2.2.2]
def c_api_Partition : Cod := ⟨Int × ByteArray × Bool × (List (Int × Bool)), e_api_Partition, 4, fun _ => rfl, fun _ => rfl⟩
def e_api_Schedule (w : Int × Int × (List (Int × Int × Int)) × (List (Int × Int × Int))) : PV := .agg [.int .i64 w.1, .int .i64 w.2.1, .sl (Int × Int × Int) e_api_Window w.2.2.1, .sl (Int × Int × Int) e_api_Need w.2.2.2]
def c_api_Schedule : Cod := ⟨Int × Int × (List (Int × Int × Int)) × (List (Int × Int × Int)), e_api_Schedule, 4, fun _ => rfl, fun _ => rfl⟩
end Go.Ab.T
