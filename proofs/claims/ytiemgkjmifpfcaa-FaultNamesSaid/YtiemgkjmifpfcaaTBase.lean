import Derived.Test.YtiemgkjmifpfcaaAb23
import Derived.Test.YtiemgkjmifpfcaaProg
import Derived.KernelRfl
set_option linter.unusedVariables false
set_option linter.unusedSimpArgs false
namespace Go.Ab.T
open Go Go.Ab Go.Proofs
def tys : List (Option TInfo) :=
  [ none  -- 0
  , some ⟨.func, 1, 8, [.raw .nilFunc], false, []⟩  -- 1 
  , some ⟨.int .i64, 1, 8, [.int .i64 0], false, []⟩  -- 2 
  , some ⟨.int .i64, 1, 8, [.int .i64 0], false, []⟩  -- 3 
  , some ⟨.bool, 1, 1, [.bool false], false, []⟩  -- 4 
  , some ⟨.int .u8, 1, 1, [.int .u8 0], false, []⟩  -- 5 
  , some ⟨.int .u8, 1, 1, [.int .u8 0], false, []⟩  -- 6 
  , some ⟨.struct [(0, 2), (1, 3), (2, 4), (3, 6)], 4, 24, [.int .i64 0, .int .i64 0, .bool false, .int .u8 0], true, []⟩  -- 7 
  , some ⟨.struct [(0, 2), (1, 3), (2, 4), (3, 6)], 4, 24, [.int .i64 0, .int .i64 0, .bool false, .int .u8 0], true, []⟩  -- 8 
  , some ⟨.str, 1, 16, [.str ⟨#[]⟩], false, []⟩  -- 9 
  , some ⟨.str, 1, 16, [.str ⟨#[]⟩], false, []⟩  -- 10 
  , some ⟨.str, 1, 16, [.str ⟨#[]⟩], false, []⟩  -- 11 
  , some ⟨.int .u64, 1, 8, [.int .u64 0], false, []⟩  -- 12 
  , some ⟨.struct [(0, 9), (1, 12)], 2, 24, [.str ⟨#[]⟩, .int .u64 0], true, []⟩  -- 13 
  , some ⟨.struct [(0, 9), (1, 12)], 2, 24, [.str ⟨#[]⟩, .int .u64 0], true, []⟩  -- 14 
  , some ⟨.ptr 131, 1, 8, [.raw (.pointer none)], false, []⟩  -- 15 
  , some ⟨.ptr 134, 1, 8, [.raw (.pointer none)], false, []⟩  -- 16 
  , some ⟨.ptr 142, 1, 8, [.raw (.pointer none)], false, []⟩  -- 17 
  , some ⟨.struct [(0, 17)], 1, 8, [.raw (.pointer none)], true, []⟩  -- 18 
  , some ⟨.struct [(0, 17)], 1, 8, [.raw (.pointer none)], true, []⟩  -- 19 
  , some ⟨.iface, 1, 16, [.err .nil], false, []⟩  -- 20 
  , some ⟨.int .i32, 1, 4, [.int .i32 0], false, []⟩  -- 21 
  , some ⟨.slice 5, 1, 24, [.raw nilSlice], false, []⟩  -- 22 
  , some ⟨.func, 1, 8, [.raw .nilFunc], false, []⟩  -- 23 
  , some ⟨.int .i64, 1, 8, [.int .i64 0], false, []⟩  -- 24 
  , none  -- 25
  , some ⟨.func, 1, 8, [.raw .nilFunc], false, []⟩  -- 26 
  , some ⟨.func, 1, 8, [.raw .nilFunc], false, []⟩  -- 27 
  , some ⟨.ptr 82, 1, 8, [.raw (.pointer none)], false, []⟩  -- 28 
  , some ⟨.func, 1, 8, [.raw .nilFunc], false, []⟩  -- 29 
  , some ⟨.func, 1, 8, [.raw .nilFunc], false, []⟩  -- 30 
  , some ⟨.func, 1, 8, [.raw .nilFunc], false, []⟩  -- 31 
  , some ⟨.func, 1, 8, [.raw .nilFunc], false, []⟩  -- 32 
  , some ⟨.iface, 1, 16, [.err .nil], false, []⟩  -- 33 
  , some ⟨.iface, 1, 16, [.err .nil], false, []⟩  -- 34 
  , some ⟨.func, 1, 8, [.raw .nilFunc], false, []⟩  -- 35 
  , some ⟨.func, 1, 8, [.raw .nilFunc], false, []⟩  -- 36 
  , some ⟨.slice 41, 1, 24, [.raw nilSlice], false, []⟩  -- 37 
  , some ⟨.slice 51, 1, 24, [.raw nilSlice], false, []⟩  -- 38 
  , some ⟨.slice 91, 1, 24, [.raw nilSlice], false, []⟩  -- 39 
  , some ⟨.struct [(0, 3), (1, 3), (2, 38), (3, 39)], 4, 64, [.int .i64 0, .int .i64 0, .raw nilSlice, .raw nilSlice], true, [(2, 51), (3, 91)]⟩  -- 40 
  , some ⟨.struct [(0, 3), (1, 3), (2, 38), (3, 39)], 4, 64, [.int .i64 0, .int .i64 0, .raw nilSlice, .raw nilSlice], true, [(2, 51), (3, 91)]⟩  -- 41 
  , some ⟨.func, 1, 8, [.raw .nilFunc], false, []⟩  -- 42 
  , none  -- 43
  , some ⟨.func, 1, 8, [.raw .nilFunc], false, []⟩  -- 44 
  , some ⟨.func, 1, 8, [.raw .nilFunc], false, []⟩  -- 45 
  , some ⟨.func, 1, 8, [.raw .nilFunc], false, []⟩  -- 46 
  , some ⟨.func, 1, 8, [.raw .nilFunc], false, []⟩  -- 47 
  , some ⟨.func, 1, 8, [.raw .nilFunc], false, []⟩  -- 48 
  , some ⟨.func, 1, 8, [.raw .nilFunc], false, []⟩  -- 49 
  , some ⟨.struct [(0, 3), (1, 3), (2, 3)], 3, 24, [.int .i64 0, .int .i64 0, .int .i64 0], true, []⟩  -- 50 
  , some ⟨.struct [(0, 3), (1, 3), (2, 3)], 3, 24, [.int .i64 0, .int .i64 0, .int .i64 0], true, []⟩  -- 51 
  , some ⟨.func, 1, 8, [.raw .nilFunc], false, []⟩  -- 52 
  , some ⟨.slice 56, 1, 24, [.raw nilSlice], false, []⟩  -- 53 
  , some ⟨.slice 66, 1, 24, [.raw nilSlice], false, []⟩  -- 54 
  , some ⟨.struct [(0, 3), (1, 9), (2, 4), (3, 54)], 4, 56, [.int .i64 0, .str ⟨#[]⟩, .bool false, .raw nilSlice], true, [(3, 66)]⟩  -- 55 
  , some ⟨.struct [(0, 3), (1, 9), (2, 4), (3, 54)], 4, 56, [.int .i64 0, .str ⟨#[]⟩, .bool false, .raw nilSlice], true, [(3, 66)]⟩  -- 56 
  , some ⟨.func, 1, 8, [.raw .nilFunc], false, []⟩  -- 57 
  , some ⟨.func, 1, 8, [.raw .nilFunc], false, []⟩  -- 58 
  , some ⟨.func, 1, 8, [.raw .nilFunc], false, []⟩  -- 59 
  , some ⟨.func, 1, 8, [.raw .nilFunc], false, []⟩  -- 60 
  , some ⟨.func, 1, 8, [.raw .nilFunc], false, []⟩  -- 61 
  , some ⟨.func, 1, 8, [.raw .nilFunc], false, []⟩  -- 62 
  , some ⟨.func, 1, 8, [.raw .nilFunc], false, []⟩  -- 63 
  , some ⟨.int .u32, 1, 4, [.int .u32 0], false, []⟩  -- 64 
  , some ⟨.struct [(0, 64), (1, 4)], 2, 8, [.int .u32 0, .bool false], true, []⟩  -- 65 
  , some ⟨.struct [(0, 64), (1, 4)], 2, 8, [.int .u32 0, .bool false], true, []⟩  -- 66 
  , some ⟨.func, 1, 8, [.raw .nilFunc], false, []⟩  -- 67 
  , some ⟨.func, 1, 8, [.raw .nilFunc], false, []⟩  -- 68 
  , none  -- 69
  , some ⟨.func, 1, 8, [.raw .nilFunc], false, []⟩  -- 70 
  , some ⟨.func, 1, 8, [.raw .nilFunc], false, []⟩  -- 71 
  , some ⟨.func, 1, 8, [.raw .nilFunc], false, []⟩  -- 72 
  , some ⟨.func, 1, 8, [.raw .nilFunc], false, []⟩  -- 73 
  , some ⟨.func, 1, 8, [.raw .nilFunc], false, []⟩  -- 74 
  , some ⟨.func, 1, 8, [.raw .nilFunc], false, []⟩  -- 75 
  , none  -- 76
  , some ⟨.func, 1, 8, [.raw .nilFunc], false, []⟩  -- 77 
  , some ⟨.int .u64, 1, 8, [.int .u64 0], false, []⟩  -- 78 
  , some ⟨.func, 1, 8, [.raw .nilFunc], false, []⟩  -- 79 
  , some ⟨.func, 1, 8, [.raw .nilFunc], false, []⟩  -- 80 
  , some ⟨.struct [(0, 9), (1, 3), (2, 3), (3, 34)], 4, 48, [.str ⟨#[]⟩, .int .i64 0, .int .i64 0, .err .nil], true, []⟩  -- 81 
  , some ⟨.struct [(0, 9), (1, 3), (2, 3), (3, 34)], 4, 48, [.str ⟨#[]⟩, .int .i64 0, .int .i64 0, .err .nil], true, []⟩  -- 82 
  , some ⟨.func, 1, 8, [.raw .nilFunc], false, []⟩  -- 83 
  , none  -- 84
  , some ⟨.func, 1, 8, [.raw .nilFunc], false, []⟩  -- 85 
  , some ⟨.func, 1, 8, [.raw .nilFunc], false, []⟩  -- 86 
  , some ⟨.func, 1, 8, [.raw .nilFunc], false, []⟩  -- 87 
  , some ⟨.func, 1, 8, [.raw .nilFunc], false, []⟩  -- 88 
  , some ⟨.func, 1, 8, [.raw .nilFunc], false, []⟩  -- 89 
  , some ⟨.struct [(0, 3), (1, 3), (2, 3)], 3, 24, [.int .i64 0, .int .i64 0, .int .i64 0], true, []⟩  -- 90 
  , some ⟨.struct [(0, 3), (1, 3), (2, 3)], 3, 24, [.int .i64 0, .int .i64 0, .int .i64 0], true, []⟩  -- 91 
  , some ⟨.func, 1, 8, [.raw .nilFunc], false, []⟩  -- 92 
  , some ⟨.func, 1, 8, [.raw .nilFunc], false, []⟩  -- 93 
  , some ⟨.func, 1, 8, [.raw .nilFunc], false, []⟩  -- 94 
  , some ⟨.func, 1, 8, [.raw .nilFunc], false, []⟩  -- 95 
  , some ⟨.func, 1, 8, [.raw .nilFunc], false, []⟩  -- 96 
  , some ⟨.func, 1, 8, [.raw .nilFunc], false, []⟩  -- 97 
  , some ⟨.func, 1, 8, [.raw .nilFunc], false, []⟩  -- 98 
  , some ⟨.func, 1, 8, [.raw .nilFunc], false, []⟩  -- 99 
  , some ⟨.func, 1, 8, [.raw .nilFunc], false, []⟩  -- 100 
  , some ⟨.func, 1, 8, [.raw .nilFunc], false, []⟩  -- 101 
  , some ⟨.func, 1, 8, [.raw .nilFunc], false, []⟩  -- 102 
  , some ⟨.func, 1, 8, [.raw .nilFunc], false, []⟩  -- 103 
  , some ⟨.func, 1, 8, [.raw .nilFunc], false, []⟩  -- 104 
  , some ⟨.slice 9, 1, 24, [.raw nilSlice], false, []⟩  -- 105 
  , some ⟨.func, 1, 8, [.raw .nilFunc], false, []⟩  -- 106 
  , some ⟨.func, 1, 8, [.raw .nilFunc], false, []⟩  -- 107 
  , some ⟨.func, 1, 8, [.raw .nilFunc], false, []⟩  -- 108 
  , some ⟨.func, 1, 8, [.raw .nilFunc], false, []⟩  -- 109 
  , some ⟨.func, 1, 8, [.raw .nilFunc], false, []⟩  -- 110 
  , some ⟨.func, 1, 8, [.raw .nilFunc], false, []⟩  -- 111 
  , some ⟨.func, 1, 8, [.raw .nilFunc], false, []⟩  -- 112 
  , none  -- 113
  , some ⟨.func, 1, 8, [.raw .nilFunc], false, []⟩  -- 114 
  , some ⟨.func, 1, 8, [.raw .nilFunc], false, []⟩  -- 115 
  , some ⟨.func, 1, 8, [.raw .nilFunc], false, []⟩  -- 116 
  , some ⟨.func, 1, 8, [.raw .nilFunc], false, []⟩  -- 117 
  , some ⟨.ptr 120, 1, 8, [.raw (.pointer none)], false, []⟩  -- 118 
  , some ⟨.struct [(0, 3), (1, 34)], 2, 24, [.int .i64 0, .err .nil], true, []⟩  -- 119 
  , some ⟨.struct [(0, 3), (1, 34)], 2, 24, [.int .i64 0, .err .nil], true, []⟩  -- 120 
  , some ⟨.ptr 122, 1, 8, [.raw (.pointer none)], false, []⟩  -- 121 
  , some ⟨.struct [(0, 3), (1, 34)], 2, 24, [.int .i64 0, .err .nil], true, []⟩  -- 122 
  , some ⟨.int .i64, 1, 8, [.int .i64 0], false, []⟩  -- 123 
  , some ⟨.int .u64, 1, 8, [.int .u64 0], false, []⟩  -- 124 
  , none  -- 125
  , some ⟨.func, 1, 8, [.raw .nilFunc], false, []⟩  -- 126 
  , none  -- 127
  , some ⟨.func, 1, 8, [.raw .nilFunc], false, []⟩  -- 128 
  , some ⟨.func, 1, 8, [.raw .nilFunc], false, []⟩  -- 129 
  , some ⟨.struct [(0, 17), (1, 17), (2, 17), (3, 9)], 4, 40, [.raw (.pointer none), .raw (.pointer none), .raw (.pointer none), .str ⟨#[]⟩], true, []⟩  -- 130 
  , some ⟨.struct [(0, 17), (1, 17), (2, 17), (3, 9)], 4, 40, [.raw (.pointer none), .raw (.pointer none), .raw (.pointer none), .str ⟨#[]⟩], true, []⟩  -- 131 
  , none  -- 132
  , none  -- 133
  , none  -- 134
  , some ⟨.int .u8, 1, 1, [.int .u8 0], false, []⟩  -- 135 
  , some ⟨.int .u8, 1, 1, [.int .u8 0], false, []⟩  -- 136 
  , some ⟨.func, 1, 8, [.raw .nilFunc], false, []⟩  -- 137 
  , some ⟨.ptr 5, 1, 8, [.raw (.pointer none)], false, []⟩  -- 138 
  , some ⟨.int .i32, 1, 4, [.int .i32 0], false, []⟩  -- 139 
  , some ⟨.int .i32, 1, 4, [.int .i32 0], false, []⟩  -- 140 
  , some ⟨.struct [(0, 12), (1, 12), (2, 64), (3, 135), (4, 5), (5, 5), (6, 136), (7, 137), (8, 138), (9, 139), (10, 140)], 11, 48, [.int .u64 0, .int .u64 0, .int .u32 0, .int .u8 0, .int .u8 0, .int .u8 0, .int .u8 0, .raw .nilFunc, .raw (.pointer none), .int .i32 0, .int .i32 0], true, []⟩  -- 141 
  , some ⟨.struct [(0, 12), (1, 12), (2, 64), (3, 135), (4, 5), (5, 5), (6, 136), (7, 137), (8, 138), (9, 139), (10, 140)], 11, 48, [.int .u64 0, .int .u64 0, .int .u32 0, .int .u8 0, .int .u8 0, .int .u8 0, .int .u8 0, .raw .nilFunc, .raw (.pointer none), .int .i32 0, .int .i32 0], true, []⟩  -- 142 
  , some ⟨.func, 1, 8, [.raw .nilFunc], false, []⟩  -- 143 
  , some ⟨.func, 1, 8, [.raw .nilFunc], false, []⟩  -- 144 
  , none  -- 145
  , some ⟨.func, 1, 8, [.raw .nilFunc], false, []⟩  -- 146 
  , some ⟨.func, 1, 8, [.raw .nilFunc], false, []⟩  -- 147 
  , none  -- 148
  , some ⟨.func, 1, 8, [.raw .nilFunc], false, []⟩  -- 149 
  , some ⟨.func, 1, 8, [.raw .nilFunc], false, []⟩  -- 150 
  , some ⟨.func, 1, 8, [.raw .nilFunc], false, []⟩  -- 151 
  , none  -- 152
  , none  -- 153
  , some ⟨.func, 1, 8, [.raw .nilFunc], false, []⟩  -- 154 
  , some ⟨.func, 1, 8, [.raw .nilFunc], false, []⟩  -- 155 
  , some ⟨.func, 1, 8, [.raw .nilFunc], false, []⟩  -- 156 
  , none  -- 157
  , none  -- 158
  , none  -- 159
  ]

def iCod (k : IntKind) : Cod := ⟨Int, fun n => .int k n, 1, fun _ => rfl, fun _ => rfl⟩
def sCod : Cod := ⟨ByteArray, fun n => .str n, 1, fun _ => rfl, fun _ => rfl⟩
def uCod : Cod := ⟨Unit, fun _ => .bool false, 1, fun _ => rfl, fun _ => rfl⟩
/-- A window or a need: three numbers. -/
def i3 : Cod := ⟨Int × Int × Int, fun w => .agg [.int .i64 w.1, .int .i64 w.2.1, .int .i64 w.2.2], 3, fun _ => rfl, fun _ => rfl⟩
def cellCod : Cod := ⟨Int × Bool, fun w => .agg [.int .u32 w.1, .bool w.2], 2, fun _ => rfl, fun _ => rfl⟩
def Kd : Codes := fun t => match t with
  | 5 => iCod .u8
  | 9 => sCod
  | 51 => i3
  | 91 => i3
  | 66 => cellCod
  | _ => uCod
def I : Ids := ⟨123, 118, 121⟩
noncomputable def base (Γ : FuncId → Option (Spec Kd)) (Γs : FuncId → Option SpecS) (Γi : String → Option SpecS := fun _ => none) : Cfg Kd where
  P := Try.prog
  I := I
  ty := fun t => (tys[t]?).bind id
  cod := fun t => [5, 9, 51, 91, 66].contains t
  glob := fun _ => none
  meth := fun _ _ => none
  Γ := Γ
  Γs := Γs
  Γi := Γi
  eqs := fun _ _ => false
end Go.Ab.T
