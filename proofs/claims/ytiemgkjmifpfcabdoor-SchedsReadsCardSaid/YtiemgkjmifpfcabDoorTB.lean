import Derived.Test.YtiemgkjmifpfcabDoorTI
import Derived.Test.YtiemgkjmifpfcabDoorMaB
import Derived.Test.YtiemgkjmifpfcabDoorProg
import Derived.KernelRfl
set_option linter.unusedVariables false
set_option linter.unusedSimpArgs false
namespace Go.Ab.T
open Go Go.Ab Go.Proofs
set_option maxRecDepth 100000
def tys : List (Option TInfo) :=
  [ none
  , some ⟨.func, 1, 8, [.raw .nilFunc], false, []⟩
  , some ⟨.int .i64, 1, 8, [.int .i64 0], false, []⟩
  , some ⟨.int .i64, 1, 8, [.int .i64 0], false, []⟩
  , some ⟨.bool, 1, 1, [.bool false], false, []⟩
  , some ⟨.int .u8, 1, 1, [.int .u8 0], false, []⟩
  , some ⟨.int .u8, 1, 1, [.int .u8 0], false, []⟩
  , some ⟨.struct [(0, 2), (1, 3), (2, 4), (3, 6)], 4, 24, [.int .i64 0, .int .i64 0, .bool false, .int .u8 0], true, []⟩
  , some ⟨.struct [(0, 2), (1, 3), (2, 4), (3, 6)], 4, 24, [.int .i64 0, .int .i64 0, .bool false, .int .u8 0], true, []⟩
  , some ⟨.str, 1, 16, [.str ⟨#[]⟩], false, []⟩
  , some ⟨.str, 1, 16, [.str ⟨#[]⟩], false, []⟩
  , some ⟨.str, 1, 16, [.str ⟨#[]⟩], false, []⟩
  , some ⟨.int .u64, 1, 8, [.int .u64 0], false, []⟩
  , some ⟨.struct [(0, 9), (1, 12)], 2, 24, [.str ⟨#[]⟩, .int .u64 0], true, []⟩
  , some ⟨.struct [(0, 9), (1, 12)], 2, 24, [.str ⟨#[]⟩, .int .u64 0], true, []⟩
  , some ⟨.ptr 177, 1, 8, [.raw (.pointer none)], false, []⟩
  , some ⟨.ptr 180, 1, 8, [.raw (.pointer none)], false, []⟩
  , some ⟨.ptr 188, 1, 8, [.raw (.pointer none)], false, []⟩
  , some ⟨.struct [(0, 17)], 1, 8, [.raw (.pointer none)], true, []⟩
  , some ⟨.struct [(0, 17)], 1, 8, [.raw (.pointer none)], true, []⟩
  , some ⟨.iface, 1, 16, [.err .nil], false, []⟩
  , some ⟨.int .i32, 1, 4, [.int .i32 0], false, []⟩
  , some ⟨.ptr 67, 1, 8, [.raw (.pointer none)], false, []⟩
  , some ⟨.func, 1, 8, [.raw .nilFunc], false, []⟩
  , some ⟨.func, 1, 8, [.raw .nilFunc], false, []⟩
  , some ⟨.func, 1, 8, [.raw .nilFunc], false, []⟩
  , some ⟨.int .i64, 1, 8, [.int .i64 0], false, []⟩
  , some ⟨.struct [(0, 26), (1, 3), (2, 3)], 3, 24, [.int .i64 0, .int .i64 0, .int .i64 0], true, []⟩
  , some ⟨.struct [(0, 26), (1, 3), (2, 3)], 3, 24, [.int .i64 0, .int .i64 0, .int .i64 0], true, []⟩
  , some ⟨.struct [(0, 9), (1, 3), (2, 3), (3, 28)], 6, 56, [.str ⟨#[]⟩, .int .i64 0, .int .i64 0, .int .i64 0, .int .i64 0, .int .i64 0], true, []⟩
  , some ⟨.struct [(0, 9), (1, 3), (2, 3), (3, 28)], 6, 56, [.str ⟨#[]⟩, .int .i64 0, .int .i64 0, .int .i64 0, .int .i64 0, .int .i64 0], true, []⟩
  , none
  , some ⟨.func, 1, 8, [.raw .nilFunc], false, []⟩
  , some ⟨.func, 1, 8, [.raw .nilFunc], false, []⟩
  , some ⟨.func, 1, 8, [.raw .nilFunc], false, []⟩
  , some ⟨.func, 1, 8, [.raw .nilFunc], false, []⟩
  , some ⟨.func, 1, 8, [.raw .nilFunc], false, []⟩
  , some ⟨.slice 5, 1, 24, [.raw nilSlice], false, []⟩
  , some ⟨.int .u32, 1, 4, [.int .u32 0], false, []⟩
  , some ⟨.int .u64, 1, 8, [.int .u64 0], false, []⟩
  , some ⟨.struct [(0, 38), (1, 39), (2, 3), (3, 3), (4, 3), (5, 3), (6, 3)], 7, 56, [.int .u32 0, .int .u64 0, .int .i64 0, .int .i64 0, .int .i64 0, .int .i64 0, .int .i64 0], true, []⟩
  , some ⟨.struct [(0, 38), (1, 39), (2, 3), (3, 3), (4, 3), (5, 3), (6, 3)], 7, 56, [.int .u32 0, .int .u64 0, .int .i64 0, .int .i64 0, .int .i64 0, .int .i64 0, .int .i64 0], true, []⟩
  , some ⟨.iface, 1, 16, [.err .nil], false, []⟩
  , some ⟨.iface, 1, 16, [.err .nil], false, []⟩
  , none
  , some ⟨.func, 1, 8, [.raw .nilFunc], false, []⟩
  , some ⟨.func, 1, 8, [.raw .nilFunc], false, []⟩
  , some ⟨.struct [(0, 38), (1, 39), (2, 3), (3, 3), (4, 3), (5, 3), (6, 3)], 7, 56, [.int .u32 0, .int .u64 0, .int .i64 0, .int .i64 0, .int .i64 0, .int .i64 0, .int .i64 0], true, []⟩
  , some ⟨.func, 1, 8, [.raw .nilFunc], false, []⟩
  , some ⟨.func, 1, 8, [.raw .nilFunc], false, []⟩
  , some ⟨.func, 1, 8, [.raw .nilFunc], false, []⟩
  , some ⟨.func, 1, 8, [.raw .nilFunc], false, []⟩
  , none
  , some ⟨.func, 1, 8, [.raw .nilFunc], false, []⟩
  , some ⟨.func, 1, 8, [.raw .nilFunc], false, []⟩
  , some ⟨.slice 106, 1, 24, [.raw nilSlice], false, []⟩
  , some ⟨.func, 1, 8, [.raw .nilFunc], false, []⟩
  , some ⟨.func, 1, 8, [.raw .nilFunc], false, []⟩
  , some ⟨.func, 1, 8, [.raw .nilFunc], false, []⟩
  , some ⟨.func, 1, 8, [.raw .nilFunc], false, []⟩
  , none
  , some ⟨.func, 1, 8, [.raw .nilFunc], false, []⟩
  , some ⟨.func, 1, 8, [.raw .nilFunc], false, []⟩
  , some ⟨.func, 1, 8, [.raw .nilFunc], false, []⟩
  , none
  , some ⟨.func, 1, 8, [.raw .nilFunc], false, []⟩
  , some ⟨.struct [(0, 9), (1, 3), (2, 3), (3, 43)], 4, 48, [.str ⟨#[]⟩, .int .i64 0, .int .i64 0, .err .nil], true, []⟩
  , some ⟨.struct [(0, 9), (1, 3), (2, 3), (3, 43)], 4, 48, [.str ⟨#[]⟩, .int .i64 0, .int .i64 0, .err .nil], true, []⟩
  , some ⟨.func, 1, 8, [.raw .nilFunc], false, []⟩
  , none
  , some ⟨.func, 1, 8, [.raw .nilFunc], false, []⟩
  , some ⟨.func, 1, 8, [.raw .nilFunc], false, []⟩
  , some ⟨.func, 1, 8, [.raw .nilFunc], false, []⟩
  , some ⟨.func, 1, 8, [.raw .nilFunc], false, []⟩
  , some ⟨.func, 1, 8, [.raw .nilFunc], false, []⟩
  , some ⟨.func, 1, 8, [.raw .nilFunc], false, []⟩
  , some ⟨.struct [(0, 39), (1, 3)], 2, 16, [.int .u64 0, .int .i64 0], true, []⟩
  , some ⟨.slice 76, 1, 24, [.raw nilSlice], false, []⟩
  , none
  , some ⟨.func, 1, 8, [.raw .nilFunc], false, []⟩
  , some ⟨.slice 3, 1, 24, [.raw nilSlice], false, []⟩
  , some ⟨.func, 1, 8, [.raw .nilFunc], false, []⟩
  , some ⟨.int .i64, 1, 8, [.int .i64 0], false, []⟩
  , some ⟨.func, 1, 8, [.raw .nilFunc], false, []⟩
  , some ⟨.ptr 82, 1, 8, [.raw (.pointer none)], false, []⟩
  , some ⟨.ptr 88, 1, 8, [.raw (.pointer none)], false, []⟩
  , some ⟨.ptr 85, 1, 8, [.raw (.pointer none)], false, []⟩
  , some ⟨.struct [(0, 3), (1, 43)], 2, 24, [.int .i64 0, .err .nil], true, []⟩
  , some ⟨.struct [(0, 3), (1, 43)], 2, 24, [.int .i64 0, .err .nil], true, []⟩
  , some ⟨.ptr 91, 1, 8, [.raw (.pointer none)], false, []⟩
  , some ⟨.ptr 89, 1, 8, [.raw (.pointer none)], false, []⟩
  , some ⟨.struct [(0, 3), (1, 43)], 2, 24, [.int .i64 0, .err .nil], true, []⟩
  , some ⟨.func, 1, 8, [.raw .nilFunc], false, []⟩
  , some ⟨.func, 1, 8, [.raw .nilFunc], false, []⟩
  , some ⟨.struct [(0, 3), (1, 3), (2, 3)], 3, 24, [.int .i64 0, .int .i64 0, .int .i64 0], true, []⟩
  , some ⟨.struct [(0, 3), (1, 3), (2, 3)], 3, 24, [.int .i64 0, .int .i64 0, .int .i64 0], true, []⟩
  , some ⟨.array 4 95, 12, 96, [.int .i64 0, .int .i64 0, .int .i64 0, .int .i64 0, .int .i64 0, .int .i64 0, .int .i64 0, .int .i64 0, .int .i64 0, .int .i64 0, .int .i64 0, .int .i64 0], true, []⟩
  , some ⟨.func, 1, 8, [.raw .nilFunc], false, []⟩
  , some ⟨.func, 1, 8, [.raw .nilFunc], false, []⟩
  , some ⟨.func, 1, 8, [.raw .nilFunc], false, []⟩
  , some ⟨.func, 1, 8, [.raw .nilFunc], false, []⟩
  , some ⟨.array 4 35, 4, 32, [.raw .nilFunc, .raw .nilFunc, .raw .nilFunc, .raw .nilFunc], true, []⟩
  , some ⟨.func, 1, 8, [.raw .nilFunc], false, []⟩
  , some ⟨.slice 108, 1, 24, [.raw nilSlice], false, []⟩
  , some ⟨.slice 114, 1, 24, [.raw nilSlice], false, []⟩
  , some ⟨.struct [(0, 3), (1, 3), (2, 103), (3, 104)], 4, 64, [.int .i64 0, .int .i64 0, .raw nilSlice, .raw nilSlice], true, [(2, 108), (3, 114)]⟩
  , some ⟨.struct [(0, 3), (1, 3), (2, 103), (3, 104)], 4, 64, [.int .i64 0, .int .i64 0, .raw nilSlice, .raw nilSlice], true, [(2, 108), (3, 114)]⟩
  , some ⟨.struct [(0, 3), (1, 3), (2, 3)], 3, 24, [.int .i64 0, .int .i64 0, .int .i64 0], true, []⟩
  , some ⟨.struct [(0, 3), (1, 3), (2, 3)], 3, 24, [.int .i64 0, .int .i64 0, .int .i64 0], true, []⟩
  , some ⟨.func, 1, 8, [.raw .nilFunc], false, []⟩
  , some ⟨.func, 1, 8, [.raw .nilFunc], false, []⟩
  , some ⟨.func, 1, 8, [.raw .nilFunc], false, []⟩
  , some ⟨.func, 1, 8, [.raw .nilFunc], false, []⟩
  , some ⟨.struct [(0, 3), (1, 3), (2, 3)], 3, 24, [.int .i64 0, .int .i64 0, .int .i64 0], true, []⟩
  , some ⟨.struct [(0, 3), (1, 3), (2, 3)], 3, 24, [.int .i64 0, .int .i64 0, .int .i64 0], true, []⟩
  , some ⟨.func, 1, 8, [.raw .nilFunc], false, []⟩
  , some ⟨.func, 1, 8, [.raw .nilFunc], false, []⟩
  , some ⟨.func, 1, 8, [.raw .nilFunc], false, []⟩
  , some ⟨.func, 1, 8, [.raw .nilFunc], false, []⟩
  , some ⟨.func, 1, 8, [.raw .nilFunc], false, []⟩
  , some ⟨.func, 1, 8, [.raw .nilFunc], false, []⟩
  , some ⟨.func, 1, 8, [.raw .nilFunc], false, []⟩
  , none
  , some ⟨.func, 1, 8, [.raw .nilFunc], false, []⟩
  , some ⟨.slice 127, 1, 24, [.raw nilSlice], false, []⟩
  , none
  , some ⟨.func, 1, 8, [.raw .nilFunc], false, []⟩
  , some ⟨.array 3 3, 3, 24, [.int .i64 0, .int .i64 0, .int .i64 0], true, []⟩
  , some ⟨.func, 1, 8, [.raw .nilFunc], false, []⟩
  , none
  , some ⟨.func, 1, 8, [.raw .nilFunc], false, []⟩
  , some ⟨.func, 1, 8, [.raw .nilFunc], false, []⟩
  , some ⟨.func, 1, 8, [.raw .nilFunc], false, []⟩
  , some ⟨.func, 1, 8, [.raw .nilFunc], false, []⟩
  , some ⟨.func, 1, 8, [.raw .nilFunc], false, []⟩
  , none
  , some ⟨.int .u64, 1, 8, [.int .u64 0], false, []⟩
  , none
  , none
  , some ⟨.func, 1, 8, [.raw .nilFunc], false, []⟩
  , some ⟨.iface, 1, 16, [.err .nil], false, []⟩
  , some ⟨.iface, 1, 16, [.err .nil], false, []⟩
  , some ⟨.func, 1, 8, [.raw .nilFunc], false, []⟩
  , some ⟨.int .u8, 1, 1, [.int .u8 0], false, []⟩
  , some ⟨.func, 1, 8, [.raw .nilFunc], false, []⟩
  , some ⟨.func, 1, 8, [.raw .nilFunc], false, []⟩
  , some ⟨.func, 1, 8, [.raw .nilFunc], false, []⟩
  , some ⟨.func, 1, 8, [.raw .nilFunc], false, []⟩
  , some ⟨.func, 1, 8, [.raw .nilFunc], false, []⟩
  , some ⟨.func, 1, 8, [.raw .nilFunc], false, []⟩
  , some ⟨.func, 1, 8, [.raw .nilFunc], false, []⟩
  , none
  , some ⟨.func, 1, 8, [.raw .nilFunc], false, []⟩
  , some ⟨.func, 1, 8, [.raw .nilFunc], false, []⟩
  , none
  , some ⟨.func, 1, 8, [.raw .nilFunc], false, []⟩
  , some ⟨.func, 1, 8, [.raw .nilFunc], false, []⟩
  , some ⟨.slice 9, 1, 24, [.raw nilSlice], false, []⟩
  , some ⟨.func, 1, 8, [.raw .nilFunc], false, []⟩
  , some ⟨.int .u64, 1, 8, [.int .u64 0], false, []⟩
  , none
  , some ⟨.func, 1, 8, [.raw .nilFunc], false, []⟩
  , some ⟨.struct [(0, 17)], 1, 8, [.raw (.pointer none)], true, []⟩
  , some ⟨.struct [(0, 17)], 1, 8, [.raw (.pointer none)], true, []⟩
  , some ⟨.ptr 192, 1, 8, [.raw (.pointer none)], false, []⟩
  , some ⟨.func, 1, 8, [.raw .nilFunc], false, []⟩
  , some ⟨.func, 1, 8, [.raw .nilFunc], false, []⟩
  , some ⟨.func, 1, 8, [.raw .nilFunc], false, []⟩
  , some ⟨.iface, 1, 16, [.err .nil], false, []⟩
  , none
  , some ⟨.func, 1, 8, [.raw .nilFunc], false, []⟩
  , some ⟨.iface, 1, 16, [.err .nil], false, []⟩
  , some ⟨.iface, 1, 16, [.err .nil], false, []⟩
  , some ⟨.slice 43, 1, 24, [.raw nilSlice], false, []⟩
  , some ⟨.func, 1, 8, [.raw .nilFunc], false, []⟩
  , some ⟨.func, 1, 8, [.raw .nilFunc], false, []⟩
  , some ⟨.struct [(0, 17), (1, 17), (2, 17), (3, 9)], 4, 40, [.raw (.pointer none), .raw (.pointer none), .raw (.pointer none), .str ⟨#[]⟩], true, []⟩
  , some ⟨.struct [(0, 17), (1, 17), (2, 17), (3, 9)], 4, 40, [.raw (.pointer none), .raw (.pointer none), .raw (.pointer none), .str ⟨#[]⟩], true, []⟩
  , none
  , none
  , none
  , some ⟨.func, 1, 8, [.raw .nilFunc], false, []⟩
  , some ⟨.int .u8, 1, 1, [.int .u8 0], false, []⟩
  , some ⟨.func, 1, 8, [.raw .nilFunc], false, []⟩
  , some ⟨.ptr 5, 1, 8, [.raw (.pointer none)], false, []⟩
  , some ⟨.int .i32, 1, 4, [.int .i32 0], false, []⟩
  , some ⟨.int .i32, 1, 4, [.int .i32 0], false, []⟩
  , some ⟨.struct [(0, 12), (1, 12), (2, 38), (3, 182), (4, 5), (5, 5), (6, 143), (7, 183), (8, 184), (9, 185), (10, 186)], 11, 48, [.int .u64 0, .int .u64 0, .int .u32 0, .int .u8 0, .int .u8 0, .int .u8 0, .int .u8 0, .raw .nilFunc, .raw (.pointer none), .int .i32 0, .int .i32 0], true, []⟩
  , some ⟨.struct [(0, 12), (1, 12), (2, 38), (3, 182), (4, 5), (5, 5), (6, 143), (7, 183), (8, 184), (9, 185), (10, 186)], 11, 48, [.int .u64 0, .int .u64 0, .int .u32 0, .int .u8 0, .int .u8 0, .int .u8 0, .int .u8 0, .raw .nilFunc, .raw (.pointer none), .int .i32 0, .int .i32 0], true, []⟩
  , some ⟨.func, 1, 8, [.raw .nilFunc], false, []⟩
  , some ⟨.func, 1, 8, [.raw .nilFunc], false, []⟩
  , some ⟨.struct [(0, 9), (1, 143)], 2, 24, [.str ⟨#[]⟩, .int .u8 0], true, []⟩
  , some ⟨.struct [(0, 9), (1, 143)], 2, 24, [.str ⟨#[]⟩, .int .u8 0], true, []⟩
  , some ⟨.ptr 197, 1, 8, [.raw (.pointer none)], false, []⟩
  , some ⟨.func, 1, 8, [.raw .nilFunc], false, []⟩
  , some ⟨.int .u16, 1, 2, [.int .u16 0], false, []⟩
  , some ⟨.struct [(0, 185), (1, 195), (2, 195), (3, 38), (4, 38)], 5, 16, [.int .i32 0, .int .u16 0, .int .u16 0, .int .u32 0, .int .u32 0], true, []⟩
  , some ⟨.struct [(0, 185), (1, 195), (2, 195), (3, 38), (4, 38)], 5, 16, [.int .i32 0, .int .u16 0, .int .u16 0, .int .u32 0, .int .u32 0], true, []⟩
  , some ⟨.slice 201, 1, 24, [.raw nilSlice], false, []⟩
  , some ⟨.int .i32, 1, 4, [.int .i32 0], false, []⟩
  , some ⟨.struct [(0, 185), (1, 186), (2, 199), (3, 199)], 4, 16, [.int .i32 0, .int .i32 0, .int .i32 0, .int .i32 0], true, []⟩
  , some ⟨.struct [(0, 185), (1, 186), (2, 199), (3, 199)], 4, 16, [.int .i32 0, .int .i32 0, .int .i32 0, .int .i32 0], true, []⟩
  , some ⟨.ptr 43, 1, 8, [.raw (.pointer none)], false, []⟩ ]
def Kd : Codes := fun t => match t with
  | 5 => c_uint8
  | 106 => c_api_Schedule
  | 76 => c_struct_v_uint64_n_int_
  | 3 => c_int
  | 108 => c_api_Window
  | 114 => c_api_Need
  | 127 => c__3_int
  | 9 => c_string
  | 43 => c_error
  | 201 => c_abi_Method
  | _ => uCod
noncomputable def tyOf (t : TypeId) : Option TInfo := (tys[t]?).bind id
noncomputable def base (Γ : FuncId → Option (Spec Kd)) (Γs : FuncId → Option SpecS) (Γi : String → Option SpecS := fun _ => none) : Cfg Kd where
  P := Tryd.prog
  I := I
  ty := tyOf
  cod := fun t => [5, 106, 76, 3, 108, 114, 127, 9, 43, 201].contains t
  glob := fun g => match g with
    | 0 => some (.iface 163 (.agg [.raw (.pointer (some ⟨1, 43, none⟩))]))
    | _ => none
  meth := fun _ _ => none
  Γ := Γ
  Γs := Γs
  Γi := Γi
  eqs := fun t xs => eqsOf Tryd.prog tyOf t xs
theorem tys_ok : tysChk Tryd.prog 0 tys = true := by kernel_rfl
theorem mixed : Tryd.prog.follows .mixedOrders = true := by kernel_rfl
noncomputable def B := base (fun _ => none) (fun _ => none)
def codsChk {K : Codes} (C : Cfg K) (l : List Nat) : Bool := l.all fun e => match C.ty e with
  | some i => Nat.beq (K e).n i.size
  | none => true
theorem cods_of {K : Codes} {C : Cfg K} {l : List Nat} (hc : ∀ e, C.cod e = l.contains e) (h : codsChk C l = true) : ∀ e i, C.cod e = true → C.ty e = some i → (K e).n = i.size := by
  intro e i he hi
  rw [hc] at he
  have := List.all_eq_true.1 h e (by simpa using he)
  rw [hi] at this
  exact Nat.eq_of_beq_eq_true this
theorem ty_ok (Γ Γs Γi) : ∀ t i, (base Γ Γs Γi).ty t = some i → TyOk (base Γ Γs Γi) t i := fun t i h => by
  have := tysChk_ok (C := base Γ Γs Γi) tys 0 tys_ok t i h
  rwa [Nat.zero_add] at this
theorem cfg_ok (Γ Γs Γi) : CfgOk (base Γ Γs Γi) where
  eqs := fun t xs h => eqs_ok (ty_ok Γ Γs Γi) h
  ty := ty_ok Γ Γs Γi
  cods := cods_of (l := [5, 106, 76, 3, 108, 114, 127, 9, 43, 201]) (fun _ => rfl) (by kernel_rfl)
  meth := fun t n g h => by cases h
theorem env_of {Γ Γs Γi} (gs : ∀ g F, Γs g = some F → FunS B g F) (hg : ∀ g F, Γ g = some F → FunG B g F) (gi : ∀ n F, Γi n = some F → FunI B n F) : EnvOk (base Γ Γs Γi) :=
  ⟨cfg_ok _ _ _, gs, hg, gi⟩
theorem env0 : EnvOk B := env_of (fun g F h => (by cases h)) (fun g F h => (by cases h)) (fun n F h => (by cases h))
end Go.Ab.T
