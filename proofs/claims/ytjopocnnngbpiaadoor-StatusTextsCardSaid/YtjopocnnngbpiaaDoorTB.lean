import Derived.Test.YtjopocnnngbpiaaDoorTI
import Derived.Test.YtjopocnnngbpiaaDoorMaB
import Derived.Test.YtjopocnnngbpiaaDoorAbC
import Derived.Test.YtjopocnnngbpiaaDoorProg
import Derived.KernelRfl
set_option linter.unusedVariables false
set_option linter.unusedSimpArgs false
set_option linter.unusedSectionVars false
namespace Go.Ab.T
open Go Go.Ab Go.Proofs
variable [DMode] [EV]
set_option maxRecDepth 100000
def tys : List (Option TInfo) :=
  [ none
  , some ⟨.func, 1, 8, [.raw .nilFunc], false, []⟩
  , some ⟨.int .i64, 1, 8, [.int .i64 0], false, []⟩
  , some ⟨.int .i64, 1, 8, [.int .i64 0], false, []⟩
  , some ⟨.bool, 1, 1, [.bool false], false, []⟩
  , some ⟨.int .u8, 1, 1, [.int .u8 0], false, []⟩
  , some ⟨.int .u8, 1, 1, [.int .u8 0], false, []⟩
  , some ⟨.struct [(0, 2), (1, 3), (2, 4), (3, 6)], 4, 24, [.int .i64 0, .int .i64 0, .bool false, .int .u8 0], true, []⟩
  , some ⟨.struct [(0, 2), (1, 3), (2, 4), (3, 6)], 4, 24, [.int .i64 0, .int .i64 0, .bool false, .int .u8 0], true, []⟩
  , some ⟨.str, 1, 16, [.str ⟨#[]⟩], false, []⟩
  , some ⟨.str, 1, 16, [.str ⟨#[]⟩], false, []⟩
  , some ⟨.str, 1, 16, [.str ⟨#[]⟩], false, []⟩
  , some ⟨.int .u64, 1, 8, [.int .u64 0], false, []⟩
  , some ⟨.struct [(0, 9), (1, 12)], 2, 24, [.str ⟨#[]⟩, .int .u64 0], true, []⟩
  , some ⟨.struct [(0, 9), (1, 12)], 2, 24, [.str ⟨#[]⟩, .int .u64 0], true, []⟩
  , some ⟨.ptr 141, 1, 8, [.raw (.pointer none)], false, []⟩
  , some ⟨.ptr 144, 1, 8, [.raw (.pointer none)], false, []⟩
  , some ⟨.ptr 152, 1, 8, [.raw (.pointer none)], false, []⟩
  , some ⟨.struct [(0, 17)], 1, 8, [.raw (.pointer none)], true, []⟩
  , some ⟨.struct [(0, 17)], 1, 8, [.raw (.pointer none)], true, []⟩
  , some ⟨.iface, 1, 16, [.err .nil], false, []⟩
  , some ⟨.int .i32, 1, 4, [.int .i32 0], false, []⟩
  , some ⟨.int .u64, 1, 8, [.int .u64 0], false, []⟩
  , some ⟨.struct [(0, 22), (1, 3), (2, 3)], 3, 24, [.int .u64 0, .int .i64 0, .int .i64 0], true, []⟩
  , some ⟨.struct [(0, 22), (1, 3), (2, 3)], 3, 24, [.int .u64 0, .int .i64 0, .int .i64 0], true, []⟩
  , some ⟨.func, 1, 8, [.raw .nilFunc], false, []⟩
  , some ⟨.func, 1, 8, [.raw .nilFunc], false, []⟩
  , some ⟨.iface, 1, 16, [.err .nil], false, []⟩
  , some ⟨.iface, 1, 16, [.err .nil], false, []⟩
  , none
  , some ⟨.func, 1, 8, [.raw .nilFunc], false, []⟩
  , some ⟨.int .i64, 1, 8, [.int .i64 0], false, []⟩
  , some ⟨.struct [(0, 31), (1, 3), (2, 3)], 3, 24, [.int .i64 0, .int .i64 0, .int .i64 0], true, []⟩
  , some ⟨.struct [(0, 31), (1, 3), (2, 3)], 3, 24, [.int .i64 0, .int .i64 0, .int .i64 0], true, []⟩
  , some ⟨.func, 1, 8, [.raw .nilFunc], false, []⟩
  , some ⟨.func, 1, 8, [.raw .nilFunc], false, []⟩
  , some ⟨.func, 1, 8, [.raw .nilFunc], false, []⟩
  , some ⟨.func, 1, 8, [.raw .nilFunc], false, []⟩
  , some ⟨.func, 1, 8, [.raw .nilFunc], false, []⟩
  , some ⟨.slice 9, 1, 24, [.raw nilSlice], false, []⟩
  , some ⟨.func, 1, 8, [.raw .nilFunc], false, []⟩
  , some ⟨.func, 1, 8, [.raw .nilFunc], false, []⟩
  , none
  , some ⟨.func, 1, 8, [.raw .nilFunc], false, []⟩
  , none
  , some ⟨.func, 1, 8, [.raw .nilFunc], false, []⟩
  , some ⟨.func, 1, 8, [.raw .nilFunc], false, []⟩
  , some ⟨.int .i64, 1, 8, [.int .i64 0], false, []⟩
  , some ⟨.func, 1, 8, [.raw .nilFunc], false, []⟩
  , some ⟨.ptr 47, 1, 8, [.raw (.pointer none)], false, []⟩
  , some ⟨.ptr 53, 1, 8, [.raw (.pointer none)], false, []⟩
  , some ⟨.ptr 50, 1, 8, [.raw (.pointer none)], false, []⟩
  , some ⟨.struct [(0, 3), (1, 28)], 2, 24, [.int .i64 0, .err .nil], true, []⟩
  , some ⟨.struct [(0, 3), (1, 28)], 2, 24, [.int .i64 0, .err .nil], true, []⟩
  , some ⟨.ptr 56, 1, 8, [.raw (.pointer none)], false, []⟩
  , some ⟨.ptr 54, 1, 8, [.raw (.pointer none)], false, []⟩
  , some ⟨.struct [(0, 3), (1, 28)], 2, 24, [.int .i64 0, .err .nil], true, []⟩
  , some ⟨.ptr 60, 1, 8, [.raw (.pointer none)], false, []⟩
  , some ⟨.slice 5, 1, 24, [.raw nilSlice], false, []⟩
  , some ⟨.struct [(0, 57), (1, 58)], 2, 32, [.raw (.pointer none), .raw nilSlice], true, [(1, 5)]⟩
  , some ⟨.struct [(0, 57), (1, 58)], 2, 32, [.raw (.pointer none), .raw nilSlice], true, [(1, 5)]⟩
  , some ⟨.func, 1, 8, [.raw .nilFunc], false, []⟩
  , some ⟨.func, 1, 8, [.raw .nilFunc], false, []⟩
  , some ⟨.func, 1, 8, [.raw .nilFunc], false, []⟩
  , some ⟨.func, 1, 8, [.raw .nilFunc], false, []⟩
  , some ⟨.func, 1, 8, [.raw .nilFunc], false, []⟩
  , none
  , some ⟨.int .u64, 1, 8, [.int .u64 0], false, []⟩
  , none
  , none
  , some ⟨.func, 1, 8, [.raw .nilFunc], false, []⟩
  , some ⟨.iface, 1, 16, [.err .nil], false, []⟩
  , some ⟨.iface, 1, 16, [.err .nil], false, []⟩
  , some ⟨.func, 1, 8, [.raw .nilFunc], false, []⟩
  , some ⟨.int .u8, 1, 1, [.int .u8 0], false, []⟩
  , some ⟨.func, 1, 8, [.raw .nilFunc], false, []⟩
  , some ⟨.func, 1, 8, [.raw .nilFunc], false, []⟩
  , some ⟨.func, 1, 8, [.raw .nilFunc], false, []⟩
  , some ⟨.ptr 5, 1, 8, [.raw (.pointer none)], false, []⟩
  , some ⟨.array 24 5, 24, 24, [.int .u8 0, .int .u8 0, .int .u8 0, .int .u8 0, .int .u8 0, .int .u8 0, .int .u8 0, .int .u8 0, .int .u8 0, .int .u8 0, .int .u8 0, .int .u8 0, .int .u8 0, .int .u8 0, .int .u8 0, .int .u8 0, .int .u8 0, .int .u8 0, .int .u8 0, .int .u8 0, .int .u8 0, .int .u8 0, .int .u8 0, .int .u8 0], true, []⟩
  , some ⟨.func, 1, 8, [.raw .nilFunc], false, []⟩
  , some ⟨.func, 1, 8, [.raw .nilFunc], false, []⟩
  , none
  , some ⟨.func, 1, 8, [.raw .nilFunc], false, []⟩
  , some ⟨.func, 1, 8, [.raw .nilFunc], false, []⟩
  , some ⟨.func, 1, 8, [.raw .nilFunc], false, []⟩
  , some ⟨.func, 1, 8, [.raw .nilFunc], false, []⟩
  , some ⟨.func, 1, 8, [.raw .nilFunc], false, []⟩
  , some ⟨.int .i64, 1, 8, [.int .i64 0], false, []⟩
  , some ⟨.func, 1, 8, [.raw .nilFunc], false, []⟩
  , some ⟨.int .u64, 1, 8, [.int .u64 0], false, []⟩
  , some ⟨.func, 1, 8, [.raw .nilFunc], false, []⟩
  , some ⟨.ptr 126, 1, 8, [.raw (.pointer none)], false, []⟩
  , some ⟨.func, 1, 8, [.raw .nilFunc], false, []⟩
  , some ⟨.func, 1, 8, [.raw .nilFunc], false, []⟩
  , none
  , some ⟨.func, 1, 8, [.raw .nilFunc], false, []⟩
  , some ⟨.struct [(0, 17)], 1, 8, [.raw (.pointer none)], true, []⟩
  , some ⟨.struct [(0, 17)], 1, 8, [.raw (.pointer none)], true, []⟩
  , some ⟨.ptr 156, 1, 8, [.raw (.pointer none)], false, []⟩
  , some ⟨.func, 1, 8, [.raw .nilFunc], false, []⟩
  , some ⟨.func, 1, 8, [.raw .nilFunc], false, []⟩
  , some ⟨.func, 1, 8, [.raw .nilFunc], false, []⟩
  , some ⟨.iface, 1, 16, [.err .nil], false, []⟩
  , none
  , some ⟨.func, 1, 8, [.raw .nilFunc], false, []⟩
  , some ⟨.iface, 1, 16, [.err .nil], false, []⟩
  , some ⟨.func, 1, 8, [.raw .nilFunc], false, []⟩
  , some ⟨.iface, 1, 16, [.err .nil], false, []⟩
  , some ⟨.slice 28, 1, 24, [.raw nilSlice], false, []⟩
  , some ⟨.func, 1, 8, [.raw .nilFunc], false, []⟩
  , some ⟨.func, 1, 8, [.raw .nilFunc], false, []⟩
  , some ⟨.func, 1, 8, [.raw .nilFunc], false, []⟩
  , some ⟨.func, 1, 8, [.raw .nilFunc], false, []⟩
  , some ⟨.func, 1, 8, [.raw .nilFunc], false, []⟩
  , some ⟨.array 20 22, 20, 160, [.int .u64 0, .int .u64 0, .int .u64 0, .int .u64 0, .int .u64 0, .int .u64 0, .int .u64 0, .int .u64 0, .int .u64 0, .int .u64 0, .int .u64 0, .int .u64 0, .int .u64 0, .int .u64 0, .int .u64 0, .int .u64 0, .int .u64 0, .int .u64 0, .int .u64 0, .int .u64 0], true, []⟩
  , some ⟨.int .u32, 1, 4, [.int .u32 0], false, []⟩
  , some ⟨.array 65 5, 65, 65, [.int .u8 0, .int .u8 0, .int .u8 0, .int .u8 0, .int .u8 0, .int .u8 0, .int .u8 0, .int .u8 0, .int .u8 0, .int .u8 0, .int .u8 0, .int .u8 0, .int .u8 0, .int .u8 0, .int .u8 0, .int .u8 0, .int .u8 0, .int .u8 0, .int .u8 0, .int .u8 0, .int .u8 0, .int .u8 0, .int .u8 0, .int .u8 0, .int .u8 0, .int .u8 0, .int .u8 0, .int .u8 0, .int .u8 0, .int .u8 0, .int .u8 0, .int .u8 0, .int .u8 0, .int .u8 0, .int .u8 0, .int .u8 0, .int .u8 0, .int .u8 0, .int .u8 0, .int .u8 0, .int .u8 0, .int .u8 0, .int .u8 0, .int .u8 0, .int .u8 0, .int .u8 0, .int .u8 0, .int .u8 0, .int .u8 0, .int .u8 0, .int .u8 0, .int .u8 0, .int .u8 0, .int .u8 0, .int .u8 0, .int .u8 0, .int .u8 0, .int .u8 0, .int .u8 0, .int .u8 0, .int .u8 0, .int .u8 0, .int .u8 0, .int .u8 0, .int .u8 0], true, []⟩
  , some ⟨.func, 1, 8, [.raw .nilFunc], false, []⟩
  , some ⟨.func, 1, 8, [.raw .nilFunc], false, []⟩
  , some ⟨.func, 1, 8, [.raw .nilFunc], false, []⟩
  , none
  , some ⟨.func, 1, 8, [.raw .nilFunc], false, []⟩
  , some ⟨.func, 1, 8, [.raw .nilFunc], false, []⟩
  , some ⟨.func, 1, 8, [.raw .nilFunc], false, []⟩
  , some ⟨.struct [(0, 9), (1, 9), (2, 28)], 3, 48, [.str ⟨#[]⟩, .str ⟨#[]⟩, .err .nil], true, []⟩
  , some ⟨.struct [(0, 9), (1, 9), (2, 28)], 3, 48, [.str ⟨#[]⟩, .str ⟨#[]⟩, .err .nil], true, []⟩
  , some ⟨.func, 1, 8, [.raw .nilFunc], false, []⟩
  , some ⟨.func, 1, 8, [.raw .nilFunc], false, []⟩
  , some ⟨.ptr 131, 1, 8, [.raw (.pointer none)], false, []⟩
  , some ⟨.struct [(0, 9)], 1, 16, [.str ⟨#[]⟩], true, []⟩
  , some ⟨.struct [(0, 9)], 1, 16, [.str ⟨#[]⟩], true, []⟩
  , some ⟨.array 32 5, 32, 32, [.int .u8 0, .int .u8 0, .int .u8 0, .int .u8 0, .int .u8 0, .int .u8 0, .int .u8 0, .int .u8 0, .int .u8 0, .int .u8 0, .int .u8 0, .int .u8 0, .int .u8 0, .int .u8 0, .int .u8 0, .int .u8 0, .int .u8 0, .int .u8 0, .int .u8 0, .int .u8 0, .int .u8 0, .int .u8 0, .int .u8 0, .int .u8 0, .int .u8 0, .int .u8 0, .int .u8 0, .int .u8 0, .int .u8 0, .int .u8 0, .int .u8 0, .int .u8 0], true, []⟩
  , some ⟨.array 64 5, 64, 64, [.int .u8 0, .int .u8 0, .int .u8 0, .int .u8 0, .int .u8 0, .int .u8 0, .int .u8 0, .int .u8 0, .int .u8 0, .int .u8 0, .int .u8 0, .int .u8 0, .int .u8 0, .int .u8 0, .int .u8 0, .int .u8 0, .int .u8 0, .int .u8 0, .int .u8 0, .int .u8 0, .int .u8 0, .int .u8 0, .int .u8 0, .int .u8 0, .int .u8 0, .int .u8 0, .int .u8 0, .int .u8 0, .int .u8 0, .int .u8 0, .int .u8 0, .int .u8 0, .int .u8 0, .int .u8 0, .int .u8 0, .int .u8 0, .int .u8 0, .int .u8 0, .int .u8 0, .int .u8 0, .int .u8 0, .int .u8 0, .int .u8 0, .int .u8 0, .int .u8 0, .int .u8 0, .int .u8 0, .int .u8 0, .int .u8 0, .int .u8 0, .int .u8 0, .int .u8 0, .int .u8 0, .int .u8 0, .int .u8 0, .int .u8 0, .int .u8 0, .int .u8 0, .int .u8 0, .int .u8 0, .int .u8 0, .int .u8 0, .int .u8 0, .int .u8 0], true, []⟩
  , some ⟨.array 256 5, 256, 256, [.int .u8 0, .int .u8 0, .int .u8 0, .int .u8 0, .int .u8 0, .int .u8 0, .int .u8 0, .int .u8 0, .int .u8 0, .int .u8 0, .int .u8 0, .int .u8 0, .int .u8 0, .int .u8 0, .int .u8 0, .int .u8 0, .int .u8 0, .int .u8 0, .int .u8 0, .int .u8 0, .int .u8 0, .int .u8 0, .int .u8 0, .int .u8 0, .int .u8 0, .int .u8 0, .int .u8 0, .int .u8 0, .int .u8 0, .int .u8 0, .int .u8 0, .int .u8 0, .int .u8 0, .int .u8 0, .int .u8 0, .int .u8 0, .int .u8 0, .int .u8 0, .int .u8 0, .int .u8 0, .int .u8 0, .int .u8 0, .int .u8 0, .int .u8 0, .int .u8 0, .int .u8 0, .int .u8 0, .int .u8 0, .int .u8 0, .int .u8 0, .int .u8 0, .int .u8 0, .int .u8 0, .int .u8 0, .int .u8 0, .int .u8 0, .int .u8 0, .int .u8 0, .int .u8 0, .int .u8 0, .int .u8 0, .int .u8 0, .int .u8 0, .int .u8 0, .int .u8 0, .int .u8 0, .int .u8 0, .int .u8 0, .int .u8 0, .int .u8 0, .int .u8 0, .int .u8 0, .int .u8 0, .int .u8 0, .int .u8 0, .int .u8 0, .int .u8 0, .int .u8 0, .int .u8 0, .int .u8 0, .int .u8 0, .int .u8 0, .int .u8 0, .int .u8 0, .int .u8 0, .int .u8 0, .int .u8 0, .int .u8 0, .int .u8 0, .int .u8 0, .int .u8 0, .int .u8 0, .int .u8 0, .int .u8 0, .int .u8 0, .int .u8 0, .int .u8 0, .int .u8 0, .int .u8 0, .int .u8 0, .int .u8 0, .int .u8 0, .int .u8 0, .int .u8 0, .int .u8 0, .int .u8 0, .int .u8 0, .int .u8 0, .int .u8 0, .int .u8 0, .int .u8 0, .int .u8 0, .int .u8 0, .int .u8 0, .int .u8 0, .int .u8 0, .int .u8 0, .int .u8 0, .int .u8 0, .int .u8 0, .int .u8 0, .int .u8 0, .int .u8 0, .int .u8 0, .int .u8 0, .int .u8 0, .int .u8 0, .int .u8 0, .int .u8 0, .int .u8 0, .int .u8 0, .int .u8 0, .int .u8 0, .int .u8 0, .int .u8 0, .int .u8 0, .int .u8 0, .int .u8 0, .int .u8 0, .int .u8 0, .int .u8 0, .int .u8 0, .int .u8 0, .int .u8 0, .int .u8 0, .int .u8 0, .int .u8 0, .int .u8 0, .int .u8 0, .int .u8 0, .int .u8 0, .int .u8 0, .int .u8 0, .int .u8 0, .int .u8 0, .int .u8 0, .int .u8 0, .int .u8 0, .int .u8 0, .int .u8 0, .int .u8 0, .int .u8 0, .int .u8 0, .int .u8 0, .int .u8 0, .int .u8 0, .int .u8 0, .int .u8 0, .int .u8 0, .int .u8 0, .int .u8 0, .int .u8 0, .int .u8 0, .int .u8 0, .int .u8 0, .int .u8 0, .int .u8 0, .int .u8 0, .int .u8 0, .int .u8 0, .int .u8 0, .int .u8 0, .int .u8 0, .int .u8 0, .int .u8 0, .int .u8 0, .int .u8 0, .int .u8 0, .int .u8 0, .int .u8 0, .int .u8 0, .int .u8 0, .int .u8 0, .int .u8 0, .int .u8 0, .int .u8 0, .int .u8 0, .int .u8 0, .int .u8 0, .int .u8 0, .int .u8 0, .int .u8 0, .int .u8 0, .int .u8 0, .int .u8 0, .int .u8 0, .int .u8 0, .int .u8 0, .int .u8 0, .int .u8 0, .int .u8 0, .int .u8 0, .int .u8 0, .int .u8 0, .int .u8 0, .int .u8 0, .int .u8 0, .int .u8 0, .int .u8 0, .int .u8 0, .int .u8 0, .int .u8 0, .int .u8 0, .int .u8 0, .int .u8 0, .int .u8 0, .int .u8 0, .int .u8 0, .int .u8 0, .int .u8 0, .int .u8 0, .int .u8 0, .int .u8 0, .int .u8 0, .int .u8 0, .int .u8 0, .int .u8 0, .int .u8 0, .int .u8 0, .int .u8 0, .int .u8 0, .int .u8 0, .int .u8 0, .int .u8 0, .int .u8 0, .int .u8 0, .int .u8 0, .int .u8 0, .int .u8 0, .int .u8 0, .int .u8 0, .int .u8 0, .int .u8 0, .int .u8 0, .int .u8 0, .int .u8 0], true, []⟩
  , some ⟨.struct [(0, 5), (1, 5)], 2, 2, [.int .u8 0, .int .u8 0], true, []⟩
  , some ⟨.struct [(0, 5), (1, 5)], 2, 2, [.int .u8 0, .int .u8 0], true, []⟩
  , some ⟨.array 16 136, 32, 32, [.int .u8 0, .int .u8 0, .int .u8 0, .int .u8 0, .int .u8 0, .int .u8 0, .int .u8 0, .int .u8 0, .int .u8 0, .int .u8 0, .int .u8 0, .int .u8 0, .int .u8 0, .int .u8 0, .int .u8 0, .int .u8 0, .int .u8 0, .int .u8 0, .int .u8 0, .int .u8 0, .int .u8 0, .int .u8 0, .int .u8 0, .int .u8 0, .int .u8 0, .int .u8 0, .int .u8 0, .int .u8 0, .int .u8 0, .int .u8 0, .int .u8 0, .int .u8 0], true, []⟩
  , none
  , some ⟨.func, 1, 8, [.raw .nilFunc], false, []⟩
  , some ⟨.struct [(0, 17), (1, 17), (2, 17), (3, 9)], 4, 40, [.raw (.pointer none), .raw (.pointer none), .raw (.pointer none), .str ⟨#[]⟩], true, []⟩
  , some ⟨.struct [(0, 17), (1, 17), (2, 17), (3, 9)], 4, 40, [.raw (.pointer none), .raw (.pointer none), .raw (.pointer none), .str ⟨#[]⟩], true, []⟩
  , none
  , none
  , none
  , some ⟨.func, 1, 8, [.raw .nilFunc], false, []⟩
  , some ⟨.func, 1, 8, [.raw .nilFunc], false, []⟩
  , some ⟨.int .u8, 1, 1, [.int .u8 0], false, []⟩
  , some ⟨.func, 1, 8, [.raw .nilFunc], false, []⟩
  , some ⟨.int .i32, 1, 4, [.int .i32 0], false, []⟩
  , some ⟨.int .i32, 1, 4, [.int .i32 0], false, []⟩
  , some ⟨.struct [(0, 12), (1, 12), (2, 116), (3, 147), (4, 5), (5, 5), (6, 74), (7, 148), (8, 78), (9, 149), (10, 150)], 11, 48, [.int .u64 0, .int .u64 0, .int .u32 0, .int .u8 0, .int .u8 0, .int .u8 0, .int .u8 0, .raw .nilFunc, .raw (.pointer none), .int .i32 0, .int .i32 0], true, []⟩
  , some ⟨.struct [(0, 12), (1, 12), (2, 116), (3, 147), (4, 5), (5, 5), (6, 74), (7, 148), (8, 78), (9, 149), (10, 150)], 11, 48, [.int .u64 0, .int .u64 0, .int .u32 0, .int .u8 0, .int .u8 0, .int .u8 0, .int .u8 0, .raw .nilFunc, .raw (.pointer none), .int .i32 0, .int .i32 0], true, []⟩
  , some ⟨.func, 1, 8, [.raw .nilFunc], false, []⟩
  , some ⟨.func, 1, 8, [.raw .nilFunc], false, []⟩
  , some ⟨.struct [(0, 9), (1, 74)], 2, 24, [.str ⟨#[]⟩, .int .u8 0], true, []⟩
  , some ⟨.struct [(0, 9), (1, 74)], 2, 24, [.str ⟨#[]⟩, .int .u8 0], true, []⟩
  , some ⟨.ptr 161, 1, 8, [.raw (.pointer none)], false, []⟩
  , some ⟨.func, 1, 8, [.raw .nilFunc], false, []⟩
  , some ⟨.int .u16, 1, 2, [.int .u16 0], false, []⟩
  , some ⟨.struct [(0, 149), (1, 159), (2, 159), (3, 116), (4, 116)], 5, 16, [.int .i32 0, .int .u16 0, .int .u16 0, .int .u32 0, .int .u32 0], true, []⟩
  , some ⟨.struct [(0, 149), (1, 159), (2, 159), (3, 116), (4, 116)], 5, 16, [.int .i32 0, .int .u16 0, .int .u16 0, .int .u32 0, .int .u32 0], true, []⟩
  , some ⟨.slice 165, 1, 24, [.raw nilSlice], false, []⟩
  , some ⟨.int .i32, 1, 4, [.int .i32 0], false, []⟩
  , some ⟨.struct [(0, 149), (1, 150), (2, 163), (3, 163)], 4, 16, [.int .i32 0, .int .i32 0, .int .i32 0, .int .i32 0], true, []⟩
  , some ⟨.struct [(0, 149), (1, 150), (2, 163), (3, 163)], 4, 16, [.int .i32 0, .int .i32 0, .int .i32 0, .int .i32 0], true, []⟩
  , some ⟨.ptr 28, 1, 8, [.raw (.pointer none)], false, []⟩ ]
def Kd : Codes := fun t => match t with
  | 9 => c_string
  | 5 => c_uint8
  | 28 => c_error
  | 165 => c_abi_Method
  | _ => uCod
noncomputable def tyOf (t : TypeId) : Option TInfo := (tys[t]?).bind id
noncomputable def base (Γ : FuncId → Option (Spec Kd)) (Γs : FuncId → Option SpecS) (Γi : String → Option SpecS := fun _ => none) (js : Bool := false) : Cfg Kd where
  P := Tryd.prog
  I := I
  ty := tyOf
  cod := fun t => [9, 5, 28, 165].contains t
  glob := fun g => match g with
    | 0 => some (.iface 98 (.agg [.raw (.pointer (some ⟨9, 28, none⟩))]))
    | 1 => some (tabPV .u64 [1, 10, 100, 1000, 10000, 100000, 1000000, 10000000, 100000000, 1000000000, 10000000000, 100000000000, 1000000000000, 10000000000000, 100000000000000, 1000000000000000, 10000000000000000, 100000000000000000, 1000000000000000000, 10000000000000000000])
    | 3 => some (.raw EV.r)
    | 2 => some (.raw EV.s)
    | _ => none
  meth := fun _ _ => none
  Γ := Γ
  Γs := Γs
  Γi := Γi
  eqs := fun t xs => eqsOf Tryd.prog tyOf t xs
  js := js
theorem tys_ok : tysChk Tryd.prog 0 tys = true := by kernel_rfl
theorem mixed : Tryd.prog.follows .mixedOrders = true := by kernel_rfl
noncomputable def B := base (fun _ => none) (fun _ => none)
def codsChk {K : Codes} (C : Cfg K) (l : List Nat) : Bool := l.all fun e => match C.ty e with
  | some i => Nat.beq (K e).n i.size
  | none => true
theorem cods_of {K : Codes} {C : Cfg K} {l : List Nat} (hc : ∀ e, C.cod e = l.contains e) (h : codsChk C l = true) : ∀ e i, C.cod e = true → C.ty e = some i → (K e).n = i.size := by
  intro e i he hi
  rw [hc] at he
  have := List.all_eq_true.1 h e (by simpa using he)
  rw [hi] at this
  exact Nat.eq_of_beq_eq_true this
theorem ty_ok (Γ Γs Γi js) : ∀ t i, (base Γ Γs Γi js).ty t = some i → TyOk (base Γ Γs Γi js) t i := fun t i h => by
  have := tysChk_ok (C := base Γ Γs Γi js) tys 0 tys_ok t i h
  rwa [Nat.zero_add] at this
theorem cfg_ok (Γ Γs Γi js) : CfgOk (base Γ Γs Γi js) where
  eqs := fun t xs h => eqs_ok (ty_ok Γ Γs Γi js) h
  ty := ty_ok Γ Γs Γi js
  cods := cods_of (l := [9, 5, 28, 165]) (fun _ => rfl) (by kernel_rfl)
  meth := fun t n g h => by cases h
theorem env_of {Γ Γs Γi js} (gs : ∀ g F, Γs g = some F → FunS B g F) (hg : ∀ g F, Γ g = some F → FunG B g F) (gi : ∀ n F, Γi n = some F → FunI B n F) : EnvOk (base Γ Γs Γi js) :=
  ⟨cfg_ok _ _ _ _, gs, hg, gi⟩
theorem env0 : EnvOk B := env_of (fun g F h => (by cases h)) (fun g F h => (by cases h)) (fun n F h => (by cases h))
end Go.Ab.T
