import Derived.Test.YtajpmmjpkpgoeaaDoorTI
import Derived.Test.YtajpmmjpkpgoeaaDoorMaB
import Derived.Test.YtajpmmjpkpgoeaaDoorAbC
import Derived.Test.YtajpmmjpkpgoeaaDoorProg
import Derived.KernelRfl
set_option linter.unusedVariables false
set_option linter.unusedSimpArgs false
set_option linter.unusedSectionVars false
namespace Go.Ab.T
open Go Go.Ab Go.Proofs
variable [DMode]
set_option maxRecDepth 100000
def ty0 : Option TInfo := some ⟨.func, 1, 8, [.raw .nilFunc], false, []⟩
def ty1 : Option TInfo := some ⟨.iface, 1, 16, [.err .nil], false, []⟩
def ty2 : Option TInfo := some ⟨.int .i64, 1, 8, [.int .i64 0], false, []⟩
def ty3 : Option TInfo := some ⟨.int .u8, 1, 1, [.int .u8 0], false, []⟩
def ty4 : Option TInfo := some ⟨.struct [(0, 17)], 1, 8, [.raw (.pointer none)], true, []⟩
def ty5 : Option TInfo := some ⟨.int .i32, 1, 4, [.int .i32 0], false, []⟩
def ty6 : Option TInfo := some ⟨.struct [(0, 3), (1, 3), (2, 3)], 3, 24, [.int .i64 0, .int .i64 0, .int .i64 0], true, []⟩
def ty7 : Option TInfo := some ⟨.str, 1, 16, [.str ⟨#[]⟩], false, []⟩
def ty8 : Option TInfo := some ⟨.struct [(0, 3), (1, 30)], 2, 24, [.int .i64 0, .err .nil], true, []⟩
def tys : List (Option TInfo) :=
 [ none, ty0, ty2, ty2
 , some ⟨.bool, 1, 1, [.bool false], false, []⟩, ty3, ty3
 , some ⟨.struct [(0, 2), (1, 3), (2, 4), (3, 6)], 4, 24, [.int .i64 0, .int .i64 0, .bool false, .int .u8 0], true, []⟩
 , some ⟨.struct [(0, 2), (1, 3), (2, 4), (3, 6)], 4, 24, [.int .i64 0, .int .i64 0, .bool false, .int .u8 0], true, []⟩, ty7, ty7, ty7
 , some ⟨.int .u64, 1, 8, [.int .u64 0], false, []⟩
 , some ⟨.struct [(0, 9), (1, 12)], 2, 24, [.str ⟨#[]⟩, .int .u64 0], true, []⟩
 , some ⟨.struct [(0, 9), (1, 12)], 2, 24, [.str ⟨#[]⟩, .int .u64 0], true, []⟩
 , some ⟨.ptr 100, 1, 8, [.raw (.pointer none)], false, []⟩
 , some ⟨.ptr 103, 1, 8, [.raw (.pointer none)], false, []⟩
 , some ⟨.ptr 113, 1, 8, [.raw (.pointer none)], false, []⟩, ty4, ty4, ty1, ty5
 , some ⟨.slice 33, 1, 24, [.raw nilSlice], false, []⟩
 , some ⟨.slice 39, 1, 24, [.raw nilSlice], false, []⟩
 , some ⟨.struct [(0, 3), (1, 3), (2, 22), (3, 23)], 4, 64, [.int .i64 0, .int .i64 0, .raw nilSlice, .raw nilSlice], true, [(2, 33), (3, 39)]⟩
 , some ⟨.struct [(0, 3), (1, 3), (2, 22), (3, 23)], 4, 64, [.int .i64 0, .int .i64 0, .raw nilSlice, .raw nilSlice], true, [(2, 33), (3, 39)]⟩
 , some ⟨.slice 3, 1, 24, [.raw nilSlice], false, []⟩, ty0, ty0, ty1, ty1, ty0, ty6, ty6, ty0, ty0, ty0, ty0, ty6, ty6, ty2
 , some ⟨.struct [(0, 40), (1, 3), (2, 3)], 3, 24, [.int .i64 0, .int .i64 0, .int .i64 0], true, []⟩
 , some ⟨.struct [(0, 40), (1, 3), (2, 3)], 3, 24, [.int .i64 0, .int .i64 0, .int .i64 0], true, []⟩, ty0, ty0, ty0, ty0, ty0, ty0, ty0, ty0, ty0, ty2, ty0
 , some ⟨.ptr 52, 1, 8, [.raw (.pointer none)], false, []⟩
 , some ⟨.ptr 58, 1, 8, [.raw (.pointer none)], false, []⟩
 , some ⟨.ptr 55, 1, 8, [.raw (.pointer none)], false, []⟩, ty8, ty8
 , some ⟨.ptr 61, 1, 8, [.raw (.pointer none)], false, []⟩
 , some ⟨.ptr 59, 1, 8, [.raw (.pointer none)], false, []⟩, ty8, ty0, ty0, ty0, none
 , some ⟨.int .u64, 1, 8, [.int .u64 0], false, []⟩, none, none, ty0, ty1, ty1, ty0, ty3, ty0, ty0, ty0
 , some ⟨.slice 9, 1, 24, [.raw nilSlice], false, []⟩, ty0, ty0, ty0, ty0, ty0, ty4, ty4
 , some ⟨.ptr 117, 1, 8, [.raw (.pointer none)], false, []⟩, ty0, ty0, ty0, ty1, none, ty0, ty1, ty0, ty1
 , some ⟨.slice 30, 1, 24, [.raw nilSlice], false, []⟩, ty0, ty0, ty0
 , some ⟨.struct [(0, 17), (1, 17), (2, 17), (3, 9)], 4, 40, [.raw (.pointer none), .raw (.pointer none), .raw (.pointer none), .str ⟨#[]⟩], true, []⟩
 , some ⟨.struct [(0, 17), (1, 17), (2, 17), (3, 9)], 4, 40, [.raw (.pointer none), .raw (.pointer none), .raw (.pointer none), .str ⟨#[]⟩], true, []⟩, none, none, none, ty0, ty0
 , some ⟨.int .u32, 1, 4, [.int .u32 0], false, []⟩, ty3, ty0
 , some ⟨.ptr 5, 1, 8, [.raw (.pointer none)], false, []⟩, ty5, ty5
 , some ⟨.struct [(0, 12), (1, 12), (2, 106), (3, 107), (4, 5), (5, 5), (6, 73), (7, 108), (8, 109), (9, 110), (10, 111)], 11, 48, [.int .u64 0, .int .u64 0, .int .u32 0, .int .u8 0, .int .u8 0, .int .u8 0, .int .u8 0, .raw .nilFunc, .raw (.pointer none), .int .i32 0, .int .i32 0], true, []⟩
 , some ⟨.struct [(0, 12), (1, 12), (2, 106), (3, 107), (4, 5), (5, 5), (6, 73), (7, 108), (8, 109), (9, 110), (10, 111)], 11, 48, [.int .u64 0, .int .u64 0, .int .u32 0, .int .u8 0, .int .u8 0, .int .u8 0, .int .u8 0, .raw .nilFunc, .raw (.pointer none), .int .i32 0, .int .i32 0], true, []⟩, ty0, ty0
 , some ⟨.struct [(0, 9), (1, 73)], 2, 24, [.str ⟨#[]⟩, .int .u8 0], true, []⟩
 , some ⟨.struct [(0, 9), (1, 73)], 2, 24, [.str ⟨#[]⟩, .int .u8 0], true, []⟩
 , some ⟨.ptr 122, 1, 8, [.raw (.pointer none)], false, []⟩, ty0
 , some ⟨.int .u16, 1, 2, [.int .u16 0], false, []⟩
 , some ⟨.struct [(0, 110), (1, 120), (2, 120), (3, 106), (4, 106)], 5, 16, [.int .i32 0, .int .u16 0, .int .u16 0, .int .u32 0, .int .u32 0], true, []⟩
 , some ⟨.struct [(0, 110), (1, 120), (2, 120), (3, 106), (4, 106)], 5, 16, [.int .i32 0, .int .u16 0, .int .u16 0, .int .u32 0, .int .u32 0], true, []⟩
 , some ⟨.slice 126, 1, 24, [.raw nilSlice], false, []⟩, ty5
 , some ⟨.struct [(0, 110), (1, 111), (2, 124), (3, 124)], 4, 16, [.int .i32 0, .int .i32 0, .int .i32 0, .int .i32 0], true, []⟩
 , some ⟨.struct [(0, 110), (1, 111), (2, 124), (3, 124)], 4, 16, [.int .i32 0, .int .i32 0, .int .i32 0, .int .i32 0], true, []⟩
 , some ⟨.ptr 30, 1, 8, [.raw (.pointer none)], false, []⟩ ]
def Kd : Codes := fun t => match t with
 | 33 => c_api_Window
 | 39 => c_api_Need
 | 3 => c_int
 | 9 => c_string
 | 30 => c_error
 | 126 => c_abi_Method
 | _ => uCod
noncomputable def tyOf (t : TypeId) : Option TInfo := (tys[t]?).bind id
noncomputable def base (Γ : FuncId -> Option (Spec Kd)) (Γs : FuncId -> Option SpecS) (Γi : String -> Option SpecS := fun _ => none) (js : Bool := false) (cl : Bool := false) : Cfg Kd where
 P := Tryd.prog
 I := I
 ty := tyOf
 cod := fun t => [33, 39, 3, 9, 30, 126].contains t
 glob := fun g => match g with
  | 0 => some (.iface 84 (.agg [.raw (.pointer (some ⟨1, 30, none⟩))]))
  | _ => none
 meth := fun _ _ => none
 Γ := Γ
 Γs := Γs
 Γi := Γi
 eqs := fun t xs => eqsOf Tryd.prog tyOf t xs
 js := js
 cl := cl
theorem tys_ok : tysChk Tryd.prog 0 tys = true := by kernel_rfl
theorem mixed : Tryd.prog.follows .mixedOrders = true := by kernel_rfl
noncomputable def B := base (fun _ => none) (fun _ => none)
def codsChk {K : Codes} (C : Cfg K) (l : List Nat) : Bool := l.all fun e => match C.ty e with
 | some i => Nat.beq (K e).n i.size
 | none => true
theorem cods_of {K : Codes} {C : Cfg K} {l : List Nat} (hc : ∀ e, C.cod e = l.contains e) (h : codsChk C l = true) : ∀ e i, C.cod e = true -> C.ty e = some i -> (K e).n = i.size := by
 intro e i he hi
 rw [hc] at he
 have := List.all_eq_true.1 h e (by simpa using he)
 rw [hi] at this
 exact Nat.eq_of_beq_eq_true this
theorem ty_ok (Γ Γs Γi js cl) : ∀ t i, (base Γ Γs Γi js cl).ty t = some i -> TyOk (base Γ Γs Γi js cl) t i := fun t i h => by
 have := tysChk_ok (C := base Γ Γs Γi js cl) tys 0 tys_ok t i h
 rwa [Nat.zero_add] at this
theorem cfg_ok (Γ Γs Γi js cl) : CfgOk (base Γ Γs Γi js cl) where
 eqs := fun t xs h => eqs_ok (ty_ok Γ Γs Γi js cl) h
 ty := ty_ok Γ Γs Γi js cl
 cods := cods_of (l := [33, 39, 3, 9, 30, 126]) (fun _ => rfl) (by kernel_rfl)
 meth := fun t n g h => by cases h
theorem env_of {Γ Γs Γi js cl} (gs : ∀ g F, Γs g = some F -> FunS B g F) (hg : ∀ g F, Γ g = some F -> FunG B g F) (gi : ∀ n F, Γi n = some F -> FunI B n F) : EnvOk (base Γ Γs Γi js cl) :=
 ⟨cfg_ok _ _ _ _ _, gs, hg, gi⟩
theorem env0 : EnvOk B := env_of (fun g F h => (by cases h)) (fun g F h => (by cases h)) (fun n F h => (by cases h))
end Go.Ab.T
