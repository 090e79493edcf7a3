import Derived.Test.YthfagophoncabaaGreatDoorTI
import Derived.Test.YthfagophoncabaaGreatDoorMaB
import Derived.Test.YthfagophoncabaaGreatDoorAbC
import Derived.Test.YthfagophoncabaaGreatDoorProg
import Derived.KernelRfl
set_option linter.unusedVariables false
set_option linter.unusedSimpArgs false
set_option linter.unusedSectionVars false
namespace Go.Ab.T
open Go Go.Ab Go.Proofs
variable [DMode]
set_option maxRecDepth 100000
def ty0 : Option TInfo := some ⟨.func, 1, 8, [.raw .nilFunc], false, []⟩
def ty1 : Option TInfo := some ⟨.iface, 1, 16, [.err .nil], false, []⟩
def ty2 : Option TInfo := some ⟨.struct [(0, 3), (1, 3), (2, 3)], 3, 24, [.int .i64 0, .int .i64 0, .int .i64 0], true, []⟩
def ty3 : Option TInfo := some ⟨.int .i64, 1, 8, [.int .i64 0], false, []⟩
def ty4 : Option TInfo := some ⟨.int .u8, 1, 1, [.int .u8 0], false, []⟩
def ty5 : Option TInfo := some ⟨.int .u64, 1, 8, [.int .u64 0], false, []⟩
def ty6 : Option TInfo := some ⟨.struct [(0, 17)], 1, 8, [.raw (.pointer none)], true, []⟩
def ty7 : Option TInfo := some ⟨.int .i32, 1, 4, [.int .i32 0], false, []⟩
def ty8 : Option TInfo := some ⟨.str, 1, 16, [.str ⟨#[]⟩], false, []⟩
def ty9 : Option TInfo := some ⟨.struct [(0, 61), (1, 22), (2, 3), (3, 3), (4, 3), (5, 3), (6, 3)], 7, 56, [.int .u32 0, .int .u64 0, .int .i64 0, .int .i64 0, .int .i64 0, .int .i64 0, .int .i64 0], true, []⟩
def ty10 : Option TInfo := some ⟨.struct [(0, 3), (1, 39)], 2, 24, [.int .i64 0, .err .nil], true, []⟩
def tys : List (Option TInfo) :=
 [ none, ty0, ty3, ty3
 , some ⟨.bool, 1, 1, [.bool false], false, []⟩, ty4, ty4
 , some ⟨.struct [(0, 2), (1, 3), (2, 4), (3, 6)], 4, 24, [.int .i64 0, .int .i64 0, .bool false, .int .u8 0], true, []⟩
 , some ⟨.struct [(0, 2), (1, 3), (2, 4), (3, 6)], 4, 24, [.int .i64 0, .int .i64 0, .bool false, .int .u8 0], true, []⟩, ty8, ty8, ty8, ty5
 , some ⟨.struct [(0, 9), (1, 12)], 2, 24, [.str ⟨#[]⟩, .int .u64 0], true, []⟩
 , some ⟨.struct [(0, 9), (1, 12)], 2, 24, [.str ⟨#[]⟩, .int .u64 0], true, []⟩
 , some ⟨.ptr 277, 1, 8, [.raw (.pointer none)], false, []⟩
 , some ⟨.ptr 280, 1, 8, [.raw (.pointer none)], false, []⟩
 , some ⟨.ptr 288, 1, 8, [.raw (.pointer none)], false, []⟩, ty6, ty6, ty1, ty7, ty5
 , some ⟨.slice 55, 1, 24, [.raw nilSlice], false, []⟩
 , some ⟨.slice 59, 1, 24, [.raw nilSlice], false, []⟩
 , some ⟨.slice 139, 1, 24, [.raw nilSlice], false, []⟩
 , some ⟨.slice 141, 1, 24, [.raw nilSlice], false, []⟩
 , some ⟨.struct [(0, 22), (1, 3), (2, 23), (3, 24), (4, 25), (5, 26)], 6, 112, [.int .u64 0, .int .i64 0, .raw nilSlice, .raw nilSlice, .raw nilSlice, .raw nilSlice], true, [(2, 55), (3, 59), (4, 139), (5, 141)]⟩
 , some ⟨.struct [(0, 22), (1, 3), (2, 23), (3, 24), (4, 25), (5, 26)], 6, 112, [.int .u64 0, .int .i64 0, .raw nilSlice, .raw nilSlice, .raw nilSlice, .raw nilSlice], true, [(2, 55), (3, 59), (4, 139), (5, 141)]⟩
 , some ⟨.int .u16, 1, 2, [.int .u16 0], false, []⟩, ty0, ty3
 , some ⟨.struct [(0, 31), (1, 3), (2, 3)], 3, 24, [.int .i64 0, .int .i64 0, .int .i64 0], true, []⟩
 , some ⟨.struct [(0, 31), (1, 3), (2, 3)], 3, 24, [.int .i64 0, .int .i64 0, .int .i64 0], true, []⟩, ty0, ty0
 , some ⟨.slice 5, 1, 24, [.raw nilSlice], false, []⟩, ty0, ty1, ty1, none, ty0, ty0, ty0, ty0, ty0, none, ty0, none, ty0, ty0, ty0, ty0
 , some ⟨.slice 154, 1, 24, [.raw nilSlice], false, []⟩
 , some ⟨.struct [(0, 3), (1, 9), (2, 4), (3, 53)], 4, 56, [.int .i64 0, .str ⟨#[]⟩, .bool false, .raw nilSlice], true, [(3, 154)]⟩
 , some ⟨.struct [(0, 3), (1, 9), (2, 4), (3, 53)], 4, 56, [.int .i64 0, .str ⟨#[]⟩, .bool false, .raw nilSlice], true, [(3, 154)]⟩
 , some ⟨.slice 157, 1, 24, [.raw nilSlice], false, []⟩
 , some ⟨.slice 159, 1, 24, [.raw nilSlice], false, []⟩
 , some ⟨.struct [(0, 3), (1, 3), (2, 56), (3, 57)], 4, 64, [.int .i64 0, .int .i64 0, .raw nilSlice, .raw nilSlice], true, [(2, 157), (3, 159)]⟩
 , some ⟨.struct [(0, 3), (1, 3), (2, 56), (3, 57)], 4, 64, [.int .i64 0, .int .i64 0, .raw nilSlice, .raw nilSlice], true, [(2, 157), (3, 159)]⟩, ty0
 , some ⟨.int .u32, 1, 4, [.int .u32 0], false, []⟩, ty9, ty9, ty0, ty0, ty0, ty0, ty0
 , some ⟨.slice 33, 1, 24, [.raw nilSlice], false, []⟩, ty0, ty0, ty0, ty0, ty0, ty0, ty0, ty9, none, ty0
 , some ⟨.ptr 172, 1, 8, [.raw (.pointer none)], false, []⟩, ty0, ty0, ty0, none, ty0, none, ty0, none, ty0, none, ty0, ty0, ty0, ty0, ty0, ty0, ty0, ty3, ty0
 , some ⟨.ptr 98, 1, 8, [.raw (.pointer none)], false, []⟩
 , some ⟨.ptr 104, 1, 8, [.raw (.pointer none)], false, []⟩
 , some ⟨.ptr 101, 1, 8, [.raw (.pointer none)], false, []⟩, ty10, ty10
 , some ⟨.ptr 107, 1, 8, [.raw (.pointer none)], false, []⟩
 , some ⟨.ptr 105, 1, 8, [.raw (.pointer none)], false, []⟩, ty10, none, ty0
 , some ⟨.struct [(0, 9), (1, 3), (2, 3), (3, 33)], 6, 56, [.str ⟨#[]⟩, .int .i64 0, .int .i64 0, .int .i64 0, .int .i64 0, .int .i64 0], true, []⟩
 , some ⟨.struct [(0, 9), (1, 3), (2, 3), (3, 33)], 6, 56, [.str ⟨#[]⟩, .int .i64 0, .int .i64 0, .int .i64 0, .int .i64 0, .int .i64 0], true, []⟩, none, ty0, none, ty0, none, ty0, none, ty0, none, ty0, none, ty0, ty0, none, ty0, ty0, ty0, ty0, ty0, ty0, ty0
 , some ⟨.slice 128, 1, 24, [.raw nilSlice], false, []⟩, ty0, ty0, ty0, ty0
 , some ⟨.struct [(0, 3), (1, 3)], 2, 16, [.int .i64 0, .int .i64 0], true, []⟩
 , some ⟨.struct [(0, 3), (1, 3)], 2, 16, [.int .i64 0, .int .i64 0], true, []⟩, ty2, ty2, ty0, ty0, ty0, ty0
 , some ⟨.slice 3, 1, 24, [.raw nilSlice], false, []⟩, ty0, ty0, ty0, ty0, ty0, ty0
 , some ⟨.struct [(0, 61), (1, 4)], 2, 8, [.int .u32 0, .bool false], true, []⟩
 , some ⟨.struct [(0, 61), (1, 4)], 2, 8, [.int .u32 0, .bool false], true, []⟩, ty0, ty2, ty2, ty2, ty2, ty0, ty0, ty0, ty0, ty0
 , some ⟨.array 4 92, 4, 32, [.raw .nilFunc, .raw .nilFunc, .raw .nilFunc, .raw .nilFunc], true, []⟩, ty2, ty2
 , some ⟨.array 4 167, 12, 96, [.int .i64 0, .int .i64 0, .int .i64 0, .int .i64 0, .int .i64 0, .int .i64 0, .int .i64 0, .int .i64 0, .int .i64 0, .int .i64 0, .int .i64 0, .int .i64 0], true, []⟩, ty0, ty0
 , some ⟨.struct [(0, 9), (1, 3), (2, 3), (3, 39)], 4, 48, [.str ⟨#[]⟩, .int .i64 0, .int .i64 0, .err .nil], true, []⟩
 , some ⟨.struct [(0, 9), (1, 3), (2, 3), (3, 39)], 4, 48, [.str ⟨#[]⟩, .int .i64 0, .int .i64 0, .err .nil], true, []⟩, ty0, ty0, ty0, ty0, ty0, ty0, ty0, ty0, ty0, ty0, ty0, ty0, none, ty5, none, none, ty0, ty1, ty1, ty0, ty4, ty0, ty0, ty0, ty0, ty0
 , some ⟨.ptr 253, 1, 8, [.raw (.pointer none)], false, []⟩, ty0, ty0, none, ty0, none, ty0, none, ty0
 , some ⟨.slice 211, 1, 24, [.raw nilSlice], false, []⟩, none, ty0
 , some ⟨.array 3 3, 3, 24, [.int .i64 0, .int .i64 0, .int .i64 0], true, []⟩, ty0
 , some ⟨.struct [(0, 22), (1, 3)], 2, 16, [.int .u64 0, .int .i64 0], true, []⟩
 , some ⟨.slice 213, 1, 24, [.raw nilSlice], false, []⟩, ty0, ty0, ty0, ty0, ty0, ty0, ty0, ty0, ty0, ty0, ty0, ty0, ty0, ty0, ty0, ty0, ty5, none, ty0, ty0, ty0, ty0, ty6, ty6
 , some ⟨.ptr 292, 1, 8, [.raw (.pointer none)], false, []⟩, ty0, ty0, ty0, ty1, none, ty0, ty1, ty1
 , some ⟨.slice 39, 1, 24, [.raw nilSlice], false, []⟩, ty0
 , some ⟨.array 256 61, 256, 1024, [.int .u32 0, .int .u32 0, .int .u32 0, .int .u32 0, .int .u32 0, .int .u32 0, .int .u32 0, .int .u32 0, .int .u32 0, .int .u32 0, .int .u32 0, .int .u32 0, .int .u32 0, .int .u32 0, .int .u32 0, .int .u32 0, .int .u32 0, .int .u32 0, .int .u32 0, .int .u32 0, .int .u32 0, .int .u32 0, .int .u32 0, .int .u32 0, .int .u32 0, .int .u32 0, .int .u32 0, .int .u32 0, .int .u32 0, .int .u32 0, .int .u32 0, .int .u32 0, .int .u32 0, .int .u32 0, .int .u32 0, .int .u32 0, .int .u32 0, .int .u32 0, .int .u32 0, .int .u32 0, .int .u32 0, .int .u32 0, .int .u32 0, .int .u32 0, .int .u32 0, .int .u32 0, .int .u32 0, .int .u32 0, .int .u32 0, .int .u32 0, .int .u32 0, .int .u32 0, .int .u32 0, .int .u32 0, .int .u32 0, .int .u32 0, .int .u32 0, .int .u32 0, .int .u32 0, .int .u32 0, .int .u32 0, .int .u32 0, .int .u32 0, .int .u32 0, .int .u32 0, .int .u32 0, .int .u32 0, .int .u32 0, .int .u32 0, .int .u32 0, .int .u32 0, .int .u32 0, .int .u32 0, .int .u32 0, .int .u32 0, .int .u32 0, .int .u32 0, .int .u32 0, .int .u32 0, .int .u32 0, .int .u32 0, .int .u32 0, .int .u32 0, .int .u32 0, .int .u32 0, .int .u32 0, .int .u32 0, .int .u32 0, .int .u32 0, .int .u32 0, .int .u32 0, .int .u32 0, .int .u32 0, .int .u32 0, .int .u32 0, .int .u32 0, .int .u32 0, .int .u32 0, .int .u32 0, .int .u32 0, .int .u32 0, .int .u32 0, .int .u32 0, .int .u32 0, .int .u32 0, .int .u32 0, .int .u32 0, .int .u32 0, .int .u32 0, .int .u32 0, .int .u32 0, .int .u32 0, .int .u32 0, .int .u32 0, .int .u32 0, .int .u32 0, .int .u32 0, .int .u32 0, .int .u32 0, .int .u32 0, .int .u32 0, .int .u32 0, .int .u32 0, .int .u32 0, .int .u32 0, .int .u32 0, .int .u32 0, .int .u32 0, .int .u32 0, .int .u32 0, .int .u32 0, .int .u32 0, .int .u32 0, .int .u32 0, .int .u32 0, .int .u32 0, .int .u32 0, .int .u32 0, .int .u32 0, .int .u32 0, .int .u32 0, .int .u32 0, .int .u32 0, .int .u32 0, .int .u32 0, .int .u32 0, .int .u32 0, .int .u32 0, .int .u32 0, .int .u32 0, .int .u32 0, .int .u32 0, .int .u32 0, .int .u32 0, .int .u32 0, .int .u32 0, .int .u32 0, .int .u32 0, .int .u32 0, .int .u32 0, .int .u32 0, .int .u32 0, .int .u32 0, .int .u32 0, .int .u32 0, .int .u32 0, .int .u32 0, .int .u32 0, .int .u32 0, .int .u32 0, .int .u32 0, .int .u32 0, .int .u32 0, .int .u32 0, .int .u32 0, .int .u32 0, .int .u32 0, .int .u32 0, .int .u32 0, .int .u32 0, .int .u32 0, .int .u32 0, .int .u32 0, .int .u32 0, .int .u32 0, .int .u32 0, .int .u32 0, .int .u32 0, .int .u32 0, .int .u32 0, .int .u32 0, .int .u32 0, .int .u32 0, .int .u32 0, .int .u32 0, .int .u32 0, .int .u32 0, .int .u32 0, .int .u32 0, .int .u32 0, .int .u32 0, .int .u32 0, .int .u32 0, .int .u32 0, .int .u32 0, .int .u32 0, .int .u32 0, .int .u32 0, .int .u32 0, .int .u32 0, .int .u32 0, .int .u32 0, .int .u32 0, .int .u32 0, .int .u32 0, .int .u32 0, .int .u32 0, .int .u32 0, .int .u32 0, .int .u32 0, .int .u32 0, .int .u32 0, .int .u32 0, .int .u32 0, .int .u32 0, .int .u32 0, .int .u32 0, .int .u32 0, .int .u32 0, .int .u32 0, .int .u32 0, .int .u32 0, .int .u32 0, .int .u32 0, .int .u32 0, .int .u32 0, .int .u32 0, .int .u32 0, .int .u32 0, .int .u32 0, .int .u32 0, .int .u32 0, .int .u32 0, .int .u32 0, .int .u32 0, .int .u32 0, .int .u32 0, .int .u32 0, .int .u32 0, .int .u32 0, .int .u32 0, .int .u32 0, .int .u32 0, .int .u32 0, .int .u32 0, .int .u32 0], true, []⟩, ty0
 , some ⟨.struct [(0, 250), (256, 61), (257, 3)], 258, 1040, [.int .u32 0, .int .u32 0, .int .u32 0, .int .u32 0, .int .u32 0, .int .u32 0, .int .u32 0, .int .u32 0, .int .u32 0, .int .u32 0, .int .u32 0, .int .u32 0, .int .u32 0, .int .u32 0, .int .u32 0, .int .u32 0, .int .u32 0, .int .u32 0, .int .u32 0, .int .u32 0, .int .u32 0, .int .u32 0, .int .u32 0, .int .u32 0, .int .u32 0, .int .u32 0, .int .u32 0, .int .u32 0, .int .u32 0, .int .u32 0, .int .u32 0, .int .u32 0, .int .u32 0, .int .u32 0, .int .u32 0, .int .u32 0, .int .u32 0, .int .u32 0, .int .u32 0, .int .u32 0, .int .u32 0, .int .u32 0, .int .u32 0, .int .u32 0, .int .u32 0, .int .u32 0, .int .u32 0, .int .u32 0, .int .u32 0, .int .u32 0, .int .u32 0, .int .u32 0, .int .u32 0, .int .u32 0, .int .u32 0, .int .u32 0, .int .u32 0, .int .u32 0, .int .u32 0, .int .u32 0, .int .u32 0, .int .u32 0, .int .u32 0, .int .u32 0, .int .u32 0, .int .u32 0, .int .u32 0, .int .u32 0, .int .u32 0, .int .u32 0, .int .u32 0, .int .u32 0, .int .u32 0, .int .u32 0, .int .u32 0, .int .u32 0, .int .u32 0, .int .u32 0, .int .u32 0, .int .u32 0, .int .u32 0, .int .u32 0, .int .u32 0, .int .u32 0, .int .u32 0, .int .u32 0, .int .u32 0, .int .u32 0, .int .u32 0, .int .u32 0, .int .u32 0, .int .u32 0, .int .u32 0, .int .u32 0, .int .u32 0, .int .u32 0, .int .u32 0, .int .u32 0, .int .u32 0, .int .u32 0, .int .u32 0, .int .u32 0, .int .u32 0, .int .u32 0, .int .u32 0, .int .u32 0, .int .u32 0, .int .u32 0, .int .u32 0, .int .u32 0, .int .u32 0, .int .u32 0, .int .u32 0, .int .u32 0, .int .u32 0, .int .u32 0, .int .u32 0, .int .u32 0, .int .u32 0, .int .u32 0, .int .u32 0, .int .u32 0, .int .u32 0, .int .u32 0, .int .u32 0, .int .u32 0, .int .u32 0, .int .u32 0, .int .u32 0, .int .u32 0, .int .u32 0, .int .u32 0, .int .u32 0, .int .u32 0, .int .u32 0, .int .u32 0, .int .u32 0, .int .u32 0, .int .u32 0, .int .u32 0, .int .u32 0, .int .u32 0, .int .u32 0, .int .u32 0, .int .u32 0, .int .u32 0, .int .u32 0, .int .u32 0, .int .u32 0, .int .u32 0, .int .u32 0, .int .u32 0, .int .u32 0, .int .u32 0, .int .u32 0, .int .u32 0, .int .u32 0, .int .u32 0, .int .u32 0, .int .u32 0, .int .u32 0, .int .u32 0, .int .u32 0, .int .u32 0, .int .u32 0, .int .u32 0, .int .u32 0, .int .u32 0, .int .u32 0, .int .u32 0, .int .u32 0, .int .u32 0, .int .u32 0, .int .u32 0, .int .u32 0, .int .u32 0, .int .u32 0, .int .u32 0, .int .u32 0, .int .u32 0, .int .u32 0, .int .u32 0, .int .u32 0, .int .u32 0, .int .u32 0, .int .u32 0, .int .u32 0, .int .u32 0, .int .u32 0, .int .u32 0, .int .u32 0, .int .u32 0, .int .u32 0, .int .u32 0, .int .u32 0, .int .u32 0, .int .u32 0, .int .u32 0, .int .u32 0, .int .u32 0, .int .u32 0, .int .u32 0, .int .u32 0, .int .u32 0, .int .u32 0, .int .u32 0, .int .u32 0, .int .u32 0, .int .u32 0, .int .u32 0, .int .u32 0, .int .u32 0, .int .u32 0, .int .u32 0, .int .u32 0, .int .u32 0, .int .u32 0, .int .u32 0, .int .u32 0, .int .u32 0, .int .u32 0, .int .u32 0, .int .u32 0, .int .u32 0, .int .u32 0, .int .u32 0, .int .u32 0, .int .u32 0, .int .u32 0, .int .u32 0, .int .u32 0, .int .u32 0, .int .u32 0, .int .u32 0, .int .u32 0, .int .u32 0, .int .u32 0, .int .u32 0, .int .u32 0, .int .u32 0, .int .u32 0, .int .u32 0, .int .u32 0, .int .u32 0, .int .u32 0, .int .u32 0, .int .u32 0, .int .u32 0, .int .u32 0, .int .u32 0, .int .u32 0, .int .u32 0, .int .u32 0, .int .u32 0, .int .u32 0, .int .u32 0, .int .u32 0, .int .i64 0], true, []⟩
 , some ⟨.struct [(0, 250), (256, 61), (257, 3)], 258, 1040, [.int .u32 0, .int .u32 0, .int .u32 0, .int .u32 0, .int .u32 0, .int .u32 0, .int .u32 0, .int .u32 0, .int .u32 0, .int .u32 0, .int .u32 0, .int .u32 0, .int .u32 0, .int .u32 0, .int .u32 0, .int .u32 0, .int .u32 0, .int .u32 0, .int .u32 0, .int .u32 0, .int .u32 0, .int .u32 0, .int .u32 0, .int .u32 0, .int .u32 0, .int .u32 0, .int .u32 0, .int .u32 0, .int .u32 0, .int .u32 0, .int .u32 0, .int .u32 0, .int .u32 0, .int .u32 0, .int .u32 0, .int .u32 0, .int .u32 0, .int .u32 0, .int .u32 0, .int .u32 0, .int .u32 0, .int .u32 0, .int .u32 0, .int .u32 0, .int .u32 0, .int .u32 0, .int .u32 0, .int .u32 0, .int .u32 0, .int .u32 0, .int .u32 0, .int .u32 0, .int .u32 0, .int .u32 0, .int .u32 0, .int .u32 0, .int .u32 0, .int .u32 0, .int .u32 0, .int .u32 0, .int .u32 0, .int .u32 0, .int .u32 0, .int .u32 0, .int .u32 0, .int .u32 0, .int .u32 0, .int .u32 0, .int .u32 0, .int .u32 0, .int .u32 0, .int .u32 0, .int .u32 0, .int .u32 0, .int .u32 0, .int .u32 0, .int .u32 0, .int .u32 0, .int .u32 0, .int .u32 0, .int .u32 0, .int .u32 0, .int .u32 0, .int .u32 0, .int .u32 0, .int .u32 0, .int .u32 0, .int .u32 0, .int .u32 0, .int .u32 0, .int .u32 0, .int .u32 0, .int .u32 0, .int .u32 0, .int .u32 0, .int .u32 0, .int .u32 0, .int .u32 0, .int .u32 0, .int .u32 0, .int .u32 0, .int .u32 0, .int .u32 0, .int .u32 0, .int .u32 0, .int .u32 0, .int .u32 0, .int .u32 0, .int .u32 0, .int .u32 0, .int .u32 0, .int .u32 0, .int .u32 0, .int .u32 0, .int .u32 0, .int .u32 0, .int .u32 0, .int .u32 0, .int .u32 0, .int .u32 0, .int .u32 0, .int .u32 0, .int .u32 0, .int .u32 0, .int .u32 0, .int .u32 0, .int .u32 0, .int .u32 0, .int .u32 0, .int .u32 0, .int .u32 0, .int .u32 0, .int .u32 0, .int .u32 0, .int .u32 0, .int .u32 0, .int .u32 0, .int .u32 0, .int .u32 0, .int .u32 0, .int .u32 0, .int .u32 0, .int .u32 0, .int .u32 0, .int .u32 0, .int .u32 0, .int .u32 0, .int .u32 0, .int .u32 0, .int .u32 0, .int .u32 0, .int .u32 0, .int .u32 0, .int .u32 0, .int .u32 0, .int .u32 0, .int .u32 0, .int .u32 0, .int .u32 0, .int .u32 0, .int .u32 0, .int .u32 0, .int .u32 0, .int .u32 0, .int .u32 0, .int .u32 0, .int .u32 0, .int .u32 0, .int .u32 0, .int .u32 0, .int .u32 0, .int .u32 0, .int .u32 0, .int .u32 0, .int .u32 0, .int .u32 0, .int .u32 0, .int .u32 0, .int .u32 0, .int .u32 0, .int .u32 0, .int .u32 0, .int .u32 0, .int .u32 0, .int .u32 0, .int .u32 0, .int .u32 0, .int .u32 0, .int .u32 0, .int .u32 0, .int .u32 0, .int .u32 0, .int .u32 0, .int .u32 0, .int .u32 0, .int .u32 0, .int .u32 0, .int .u32 0, .int .u32 0, .int .u32 0, .int .u32 0, .int .u32 0, .int .u32 0, .int .u32 0, .int .u32 0, .int .u32 0, .int .u32 0, .int .u32 0, .int .u32 0, .int .u32 0, .int .u32 0, .int .u32 0, .int .u32 0, .int .u32 0, .int .u32 0, .int .u32 0, .int .u32 0, .int .u32 0, .int .u32 0, .int .u32 0, .int .u32 0, .int .u32 0, .int .u32 0, .int .u32 0, .int .u32 0, .int .u32 0, .int .u32 0, .int .u32 0, .int .u32 0, .int .u32 0, .int .u32 0, .int .u32 0, .int .u32 0, .int .u32 0, .int .u32 0, .int .u32 0, .int .u32 0, .int .u32 0, .int .u32 0, .int .u32 0, .int .u32 0, .int .u32 0, .int .u32 0, .int .u32 0, .int .u32 0, .int .u32 0, .int .u32 0, .int .u32 0, .int .u32 0, .int .u32 0, .int .u32 0, .int .u32 0, .int .u32 0, .int .u32 0, .int .u32 0, .int .u32 0, .int .u32 0, .int .i64 0], true, []⟩, none, ty0, none, ty0, none, ty0
 , some ⟨.slice 9, 1, 24, [.raw nilSlice], false, []⟩, ty0, ty0, none, ty0, ty0, ty0, none, ty0, ty0, ty0, ty0, ty0, ty0, ty0, ty0
 , some ⟨.struct [(0, 17), (1, 17), (2, 17), (3, 9)], 4, 40, [.raw (.pointer none), .raw (.pointer none), .raw (.pointer none), .str ⟨#[]⟩], true, []⟩
 , some ⟨.struct [(0, 17), (1, 17), (2, 17), (3, 9)], 4, 40, [.raw (.pointer none), .raw (.pointer none), .raw (.pointer none), .str ⟨#[]⟩], true, []⟩, none, none, none, ty0, ty4, ty0
 , some ⟨.ptr 5, 1, 8, [.raw (.pointer none)], false, []⟩, ty7, ty7
 , some ⟨.struct [(0, 12), (1, 12), (2, 61), (3, 282), (4, 5), (5, 5), (6, 193), (7, 283), (8, 284), (9, 285), (10, 286)], 11, 48, [.int .u64 0, .int .u64 0, .int .u32 0, .int .u8 0, .int .u8 0, .int .u8 0, .int .u8 0, .raw .nilFunc, .raw (.pointer none), .int .i32 0, .int .i32 0], true, []⟩
 , some ⟨.struct [(0, 12), (1, 12), (2, 61), (3, 282), (4, 5), (5, 5), (6, 193), (7, 283), (8, 284), (9, 285), (10, 286)], 11, 48, [.int .u64 0, .int .u64 0, .int .u32 0, .int .u8 0, .int .u8 0, .int .u8 0, .int .u8 0, .raw .nilFunc, .raw (.pointer none), .int .i32 0, .int .i32 0], true, []⟩, ty0, ty0
 , some ⟨.struct [(0, 9), (1, 193)], 2, 24, [.str ⟨#[]⟩, .int .u8 0], true, []⟩
 , some ⟨.struct [(0, 9), (1, 193)], 2, 24, [.str ⟨#[]⟩, .int .u8 0], true, []⟩
 , some ⟨.ptr 296, 1, 8, [.raw (.pointer none)], false, []⟩, ty0
 , some ⟨.struct [(0, 285), (1, 29), (2, 29), (3, 61), (4, 61)], 5, 16, [.int .i32 0, .int .u16 0, .int .u16 0, .int .u32 0, .int .u32 0], true, []⟩
 , some ⟨.struct [(0, 285), (1, 29), (2, 29), (3, 61), (4, 61)], 5, 16, [.int .i32 0, .int .u16 0, .int .u16 0, .int .u32 0, .int .u32 0], true, []⟩
 , some ⟨.slice 300, 1, 24, [.raw nilSlice], false, []⟩, ty7
 , some ⟨.struct [(0, 285), (1, 286), (2, 298), (3, 298)], 4, 16, [.int .i32 0, .int .i32 0, .int .i32 0, .int .i32 0], true, []⟩
 , some ⟨.struct [(0, 285), (1, 286), (2, 298), (3, 298)], 4, 16, [.int .i32 0, .int .i32 0, .int .i32 0, .int .i32 0], true, []⟩
 , some ⟨.ptr 39, 1, 8, [.raw (.pointer none)], false, []⟩ ]
def Kd : Codes := fun t => match t with
 | 55 => c_api_Partition
 | 59 => c_api_Schedule
 | 139 => c_api_Pair
 | 141 => c_api_Act
 | 5 => c_uint8
 | 154 => c_api_Cell
 | 157 => c_api_Window
 | 159 => c_api_Need
 | 33 => c_api_Fault
 | 3 => c_int
 | 211 => c__3_int
 | 213 => c_struct_v_uint64_n_int_
 | 39 => c_error
 | 9 => c_string
 | 300 => c_abi_Method
 | _ => uCod
noncomputable def tyOf (t : TypeId) : Option TInfo := (tys[t]?).bind id
noncomputable def base (Γ : FuncId -> Option (Spec Kd)) (Γs : FuncId -> Option SpecS) (Γi : String -> Option SpecS := fun _ => none) (js : Bool := false) : Cfg Kd where
 P := Tryz.prog
 I := I
 ty := tyOf
 cod := fun t => [55, 59, 139, 141, 5, 154, 157, 159, 33, 3, 211, 213, 39, 9, 300].contains t
 glob := fun g => match g with
  | 0 => some (.iface 238 (.agg [.raw (.pointer (some ⟨1, 39, none⟩))]))
  | _ => none
 meth := fun _ _ => none
 Γ := Γ
 Γs := Γs
 Γi := Γi
 eqs := fun t xs => eqsOf Tryz.prog tyOf t xs
 js := js
theorem tys_ok : tysChk Tryz.prog 0 tys = true := by kernel_rfl
theorem mixed : Tryz.prog.follows .mixedOrders = true := by kernel_rfl
noncomputable def B := base (fun _ => none) (fun _ => none)
def codsChk {K : Codes} (C : Cfg K) (l : List Nat) : Bool := l.all fun e => match C.ty e with
 | some i => Nat.beq (K e).n i.size
 | none => true
theorem cods_of {K : Codes} {C : Cfg K} {l : List Nat} (hc : ∀ e, C.cod e = l.contains e) (h : codsChk C l = true) : ∀ e i, C.cod e = true -> C.ty e = some i -> (K e).n = i.size := by
 intro e i he hi
 rw [hc] at he
 have := List.all_eq_true.1 h e (by simpa using he)
 rw [hi] at this
 exact Nat.eq_of_beq_eq_true this
theorem ty_ok (Γ Γs Γi js) : ∀ t i, (base Γ Γs Γi js).ty t = some i -> TyOk (base Γ Γs Γi js) t i := fun t i h => by
 have := tysChk_ok (C := base Γ Γs Γi js) tys 0 tys_ok t i h
 rwa [Nat.zero_add] at this
theorem cfg_ok (Γ Γs Γi js) : CfgOk (base Γ Γs Γi js) where
 eqs := fun t xs h => eqs_ok (ty_ok Γ Γs Γi js) h
 ty := ty_ok Γ Γs Γi js
 cods := cods_of (l := [55, 59, 139, 141, 5, 154, 157, 159, 33, 3, 211, 213, 39, 9, 300]) (fun _ => rfl) (by kernel_rfl)
 meth := fun t n g h => by cases h
theorem env_of {Γ Γs Γi js} (gs : ∀ g F, Γs g = some F -> FunS B g F) (hg : ∀ g F, Γ g = some F -> FunG B g F) (gi : ∀ n F, Γi n = some F -> FunI B n F) : EnvOk (base Γ Γs Γi js) :=
 ⟨cfg_ok _ _ _ _, gs, hg, gi⟩
theorem env0 : EnvOk B := env_of (fun g F h => (by cases h)) (fun g F h => (by cases h)) (fun n F h => (by cases h))
end Go.Ab.T
