import Derived.Test.YtajpmmjpkpgoeaaDoorTI
import Derived.WalkKit
import Derived.LaidEql
import Derived.Stop.Asserts
import Derived.RowKitTokens
set_option linter.unusedVariables false
set_option linter.unusedSimpArgs false
set_option linter.unusedSectionVars false
namespace Go.Ab.T
open Go Go.Ab Go.Proofs
variable [DMode]
open Go.RowKit Go.Extern.Stop Go.Stop Go.Extern
set_option maxRecDepth 100000
abbrev GB : Nat := 1
abbrev tRT : TypeId := 84
abbrev tRV : TypeId := 68
theorem rlm (z : Sem Value) (f : TypeId -> Addr -> Nat -> Nat -> Sem Value) (v : Value) :
 ReflectliteValue.method z f #[v] = (do match <- ReflectliteValue.parts v with | none => z | some (t, a, fl) => f t a fl (fl % 32)) := rfl
theorem rls (v x : Value) : ReflectliteValue.set #[v, x] = (do
 let (some (dst, a, fl), some (src, b, _)) := (<- ReflectliteValue.parts v, <- ReflectliteValue.parts x)
  | unsupported (.noEntry "extern/(internal/reflectlite.Value).Set.zeroValue")
 if fl / ReflectliteValue.flagAddr % 2 == 0 then unsupported (.noEntry "extern/(internal/reflectlite.Value).Set.unaddressable")
 let val <- loadVar src b
 if <- Rtype.directlyAssignable dst src then storeVar dst a val
 else if <- Rtype.implements dst src then
  if (<- Rtype.kind src) == 20 then
   match val with
   | .nilIface => unsupported (.noEntry "extern/reflectlite: a nil value of one interface type handed on as a value of another")
   | _ => storeVar dst a val
  else storeVar dst a (.iface src val)
 else panicString ("reflectlite.Set: value of type " ++ (<- Rtype.spelt src) ++ " is not assignable to type " ++ (<- Rtype.spelt dst))
 pure (.tuple #[])) := rfl
theorem methodKind (h : Value) (w : World) : (Go.method 228 tRT (.agg #[h]) "Kind").run Tryd.prog w = .ok (50, h) w := by kernel_rfl
theorem methodElem (h : Value) (w : World) : (Go.method 228 tRT (.agg #[h]) "Elem").run Tryd.prog w = .ok (64, .agg #[h]) w := by kernel_rfl
theorem methodImplements (h : Value) (w : World) : (Go.method 228 tRT (.agg #[h]) "Implements").run Tryd.prog w = .ok (65, .agg #[h]) w := by kernel_rfl
theorem methodAssignableTo (h : Value) (w : World) : (Go.method 228 tRT (.agg #[h]) "AssignableTo").run Tryd.prog w = .ok (62, .agg #[h]) w := by kernel_rfl
theorem valueOfP_cls (t : Addr) (w : World) : (ReflectliteValue.unpack (.iface 54 (.pointer (some t)))).run Tryd.prog w
 = .ok (.agg #[.pointer (some ⟨GB, 54, none⟩), .pointer (some ⟨w.heap.size, 0, none⟩), .int .u64 150]) (w.alloc (.cells #[.pointer (some t)] 54)) := by kernel_rfl
theorem type_cls (a : Addr) (w : World) : (ReflectliteValue.methodAny (ReflectliteValue.valueError "reflectlite.Value.Type" 0) (fun t _ _ _ => ReflectliteType.toType t) #[.agg #[.pointer (some ⟨GB, 54, none⟩), .pointer (some a), .int .u64 150]]).run Tryd.prog w
 = .ok (.iface tRT (.agg #[.pointer (some ⟨GB, 54, none⟩)])) w := by kernel_rfl
theorem kindP_cls (w : World) : ((ReflectliteType.abiMethod fun t => (fun a : Nat => Value.int IntKind.u8 (a : Int)) <$> Rtype.kind t) #[.pointer (some ⟨GB, 54, none⟩)]).run Tryd.prog w = .ok (.int .u8 22) w := by kernel_rfl
theorem kind_cls (w : World) : ((ReflectliteType.abiMethod fun t => (fun a : Nat => Value.int IntKind.u8 (a : Int)) <$> Rtype.kind t) #[.pointer (some ⟨GB, 52, none⟩)]).run Tryd.prog w = .ok (.int .u8 2) w := by kernel_rfl
theorem partsP_cls (a : Addr) (w : World) : (ReflectliteValue.parts (.agg #[.pointer (some ⟨GB, 54, none⟩), .pointer (some a), .int .u64 150])).run Tryd.prog w = .ok (some (54, a, 150)) w := by kernel_rfl
theorem underP_cls : Tryd.prog.underlying 54 = some (.pointer 52) := by kernel_rfl
theorem elemT_cls (w : World) : (ReflectliteType.method ReflectliteType.elem #[.agg #[.pointer (some ⟨GB, 54, none⟩)]]).run Tryd.prog w = .ok (.iface tRT (.agg #[.pointer (some ⟨GB, 52, none⟩)])) w := by kernel_rfl
theorem implements_cls (w : World) : (ReflectliteType.relation "Implements" ReflectliteType.implements_ #[.agg #[.pointer (some ⟨GB, 52, none⟩)], .iface tRT (.agg #[.pointer (some ⟨GB, 30, none⟩)])]).run Tryd.prog w = .ok (.bool true) w := by kernel_rfl
theorem typeOf_cls (v : Value) (w : World) : (ReflectliteType.typeOf #[.iface 52 v]).run Tryd.prog w = .ok (.iface tRT (.agg #[.pointer (some ⟨GB, 52, none⟩)])) w := by kernel_rfl
theorem valueOf_cls (k : Int) (w : World) : (ReflectliteValue.unpack (.iface 52 (.int .i64 k))).run Tryd.prog w
 = .ok (.agg #[.pointer (some ⟨GB, 52, none⟩), .pointer (some ⟨w.heap.size, 0, none⟩), .int .u64 130]) (w.alloc (.cells #[.int .i64 k] 52)) := by kernel_rfl
theorem elemOf_cls (w : World) : (Rtype.elem? 54).run Tryd.prog w = .ok (some 52) w := by kernel_rfl
theorem mk_cls (p : Addr) (w : World) : (ReflectliteValue.mk 52 p ReflectliteValue.flagAddr).run Tryd.prog w = .ok (.agg #[.pointer (some ⟨GB, 52, none⟩), .pointer (some p), .int .u64 386]) w := by kernel_rfl
theorem partsA_cls (a : Addr) (w : World) : (ReflectliteValue.parts (.agg #[.pointer (some ⟨GB, 52, none⟩), .pointer (some a), .int .u64 386])).run Tryd.prog w = .ok (some (52, a, 386)) w := by kernel_rfl
theorem partsB_cls (a : Addr) (w : World) : (ReflectliteValue.parts (.agg #[.pointer (some ⟨GB, 52, none⟩), .pointer (some a), .int .u64 130])).run Tryd.prog w = .ok (some (52, a, 130)) w := by kernel_rfl
theorem direct_cls (w : World) : (Rtype.directlyAssignable 52 52).run Tryd.prog w = .ok true w := by kernel_rfl
theorem isNilP_cls (a p : Addr) (W : World) (ha : W.cell? a = some (.pointer (some p))) :
 (ReflectliteValue.method (ReflectliteValue.valueError "reflectlite.Value.IsNil" 0) ReflectliteValue.isNil #[.agg #[.pointer (some ⟨GB, 54, none⟩), .pointer (some a), .int .u64 150]]).run Tryd.prog W = .ok (.bool false) W := by
 rw [rlm]
 simp only [Sem.run_bind, partsP_cls, Result.andThen]
 simp [ReflectliteValue.isNil, loadVar, isAgg, underlying, underP_cls, ha, Result.andThen]
theorem elemV_cls (a p : Addr) (W : World) (ha : W.cell? a = some (.pointer (some p))) :
 (ReflectliteValue.method (ReflectliteValue.valueError "reflectlite.Value.Elem" 0) ReflectliteValue.elem #[.agg #[.pointer (some ⟨GB, 54, none⟩), .pointer (some a), .int .u64 150]]).run Tryd.prog W
  = .ok (.agg #[.pointer (some ⟨GB, 52, none⟩), .pointer (some p), .int .u64 386]) W := by
 rw [rlm]
 simp only [Sem.run_bind, partsP_cls, Result.andThen]
 simp [ReflectliteValue.elem, loadVar, isAgg, underlying, underP_cls, ha, Result.andThen, elemOf_cls, mk_cls]
theorem isAgg_cls (w : World) : (isAgg 52).run Tryd.prog w = .ok false w := by kernel_rfl
theorem set_cls (ta b : Addr) (k : Int) (old : Value) (W : World) (hb : W.cell? b = some (.int .i64 k)) (ht : W.cell? ta = some old) (hf : W.frozen? ta = false) :
 (ReflectliteValue.set #[.agg #[.pointer (some ⟨GB, 52, none⟩), .pointer (some ta), .int .u64 386], .agg #[.pointer (some ⟨GB, 52, none⟩), .pointer (some b), .int .u64 130]]).run Tryd.prog W
  = .ok (.tuple #[]) (W.setCell ta (.int .i64 k)) := by
 rw [rls]
 simp only [Sem.run_bind, partsA_cls, partsB_cls, Result.andThen]
 simp [ReflectliteValue.flagAddr, loadVar, isAgg_cls, hb, Result.andThen, direct_cls, storeVar, Value.cells, storeCells, Addr.add]
 rw [run_store Tryd.prog W ta _ _ (by rfl)]
 simp [ht, hf]
theorem valueOfP_sec (t : Addr) (w : World) : (ReflectliteValue.unpack (.iface 56 (.pointer (some t)))).run Tryd.prog w
 = .ok (.agg #[.pointer (some ⟨GB, 56, none⟩), .pointer (some ⟨w.heap.size, 0, none⟩), .int .u64 150]) (w.alloc (.cells #[.pointer (some t)] 56)) := by kernel_rfl
theorem type_sec (a : Addr) (w : World) : (ReflectliteValue.methodAny (ReflectliteValue.valueError "reflectlite.Value.Type" 0) (fun t _ _ _ => ReflectliteType.toType t) #[.agg #[.pointer (some ⟨GB, 56, none⟩), .pointer (some a), .int .u64 150]]).run Tryd.prog w
 = .ok (.iface tRT (.agg #[.pointer (some ⟨GB, 56, none⟩)])) w := by kernel_rfl
theorem kindP_sec (w : World) : ((ReflectliteType.abiMethod fun t => (fun a : Nat => Value.int IntKind.u8 (a : Int)) <$> Rtype.kind t) #[.pointer (some ⟨GB, 56, none⟩)]).run Tryd.prog w = .ok (.int .u8 22) w := by kernel_rfl
theorem kind_sec (w : World) : ((ReflectliteType.abiMethod fun t => (fun a : Nat => Value.int IntKind.u8 (a : Int)) <$> Rtype.kind t) #[.pointer (some ⟨GB, 55, none⟩)]).run Tryd.prog w = .ok (.int .u8 22) w := by kernel_rfl
theorem partsP_sec (a : Addr) (w : World) : (ReflectliteValue.parts (.agg #[.pointer (some ⟨GB, 56, none⟩), .pointer (some a), .int .u64 150])).run Tryd.prog w = .ok (some (56, a, 150)) w := by kernel_rfl
theorem underP_sec : Tryd.prog.underlying 56 = some (.pointer 55) := by kernel_rfl
theorem elemT_sec (w : World) : (ReflectliteType.method ReflectliteType.elem #[.agg #[.pointer (some ⟨GB, 56, none⟩)]]).run Tryd.prog w = .ok (.iface tRT (.agg #[.pointer (some ⟨GB, 55, none⟩)])) w := by kernel_rfl
theorem implements_sec (w : World) : (ReflectliteType.relation "Implements" ReflectliteType.implements_ #[.agg #[.pointer (some ⟨GB, 55, none⟩)], .iface tRT (.agg #[.pointer (some ⟨GB, 30, none⟩)])]).run Tryd.prog w = .ok (.bool true) w := by kernel_rfl
theorem typeOf_sec (v : Value) (w : World) : (ReflectliteType.typeOf #[.iface 55 v]).run Tryd.prog w = .ok (.iface tRT (.agg #[.pointer (some ⟨GB, 55, none⟩)])) w := by kernel_rfl
theorem valueOf_sec (p : Addr) (w : World) : (ReflectliteValue.unpack (.iface 55 (.pointer (some p)))).run Tryd.prog w
 = .ok (.agg #[.pointer (some ⟨GB, 55, none⟩), .pointer (some ⟨w.heap.size, 0, none⟩), .int .u64 150]) (w.alloc (.cells #[.pointer (some p)] 55)) := by kernel_rfl
theorem elemOf_sec (w : World) : (Rtype.elem? 56).run Tryd.prog w = .ok (some 55) w := by kernel_rfl
theorem mk_sec (p : Addr) (w : World) : (ReflectliteValue.mk 55 p ReflectliteValue.flagAddr).run Tryd.prog w = .ok (.agg #[.pointer (some ⟨GB, 55, none⟩), .pointer (some p), .int .u64 406]) w := by kernel_rfl
theorem partsA_sec (a : Addr) (w : World) : (ReflectliteValue.parts (.agg #[.pointer (some ⟨GB, 55, none⟩), .pointer (some a), .int .u64 406])).run Tryd.prog w = .ok (some (55, a, 406)) w := by kernel_rfl
theorem partsB_sec (a : Addr) (w : World) : (ReflectliteValue.parts (.agg #[.pointer (some ⟨GB, 55, none⟩), .pointer (some a), .int .u64 150])).run Tryd.prog w = .ok (some (55, a, 150)) w := by kernel_rfl
theorem direct_sec (w : World) : (Rtype.directlyAssignable 55 55).run Tryd.prog w = .ok true w := by kernel_rfl
theorem isNilP_sec (a p : Addr) (W : World) (ha : W.cell? a = some (.pointer (some p))) :
 (ReflectliteValue.method (ReflectliteValue.valueError "reflectlite.Value.IsNil" 0) ReflectliteValue.isNil #[.agg #[.pointer (some ⟨GB, 56, none⟩), .pointer (some a), .int .u64 150]]).run Tryd.prog W = .ok (.bool false) W := by
 rw [rlm]
 simp only [Sem.run_bind, partsP_sec, Result.andThen]
 simp [ReflectliteValue.isNil, loadVar, isAgg, underlying, underP_sec, ha, Result.andThen]
theorem elemV_sec (a p : Addr) (W : World) (ha : W.cell? a = some (.pointer (some p))) :
 (ReflectliteValue.method (ReflectliteValue.valueError "reflectlite.Value.Elem" 0) ReflectliteValue.elem #[.agg #[.pointer (some ⟨GB, 56, none⟩), .pointer (some a), .int .u64 150]]).run Tryd.prog W
  = .ok (.agg #[.pointer (some ⟨GB, 55, none⟩), .pointer (some p), .int .u64 406]) W := by
 rw [rlm]
 simp only [Sem.run_bind, partsP_sec, Result.andThen]
 simp [ReflectliteValue.elem, loadVar, isAgg, underlying, underP_sec, ha, Result.andThen, elemOf_sec, mk_sec]
theorem isAgg_sec (w : World) : (isAgg 55).run Tryd.prog w = .ok false w := by kernel_rfl
theorem set_sec (ta b : Addr) (p : Addr) (old : Value) (W : World) (hb : W.cell? b = some (.pointer (some p))) (ht : W.cell? ta = some old) (hf : W.frozen? ta = false) :
 (ReflectliteValue.set #[.agg #[.pointer (some ⟨GB, 55, none⟩), .pointer (some ta), .int .u64 406], .agg #[.pointer (some ⟨GB, 55, none⟩), .pointer (some b), .int .u64 150]]).run Tryd.prog W
  = .ok (.tuple #[]) (W.setCell ta (.pointer (some p))) := by
 rw [rls]
 simp only [Sem.run_bind, partsA_sec, partsB_sec, Result.andThen]
 simp [ReflectliteValue.flagAddr, loadVar, isAgg_sec, hb, Result.andThen, direct_sec, storeVar, Value.cells, storeCells, Addr.add]
 rw [run_store Tryd.prog W ta _ _ (by rfl)]
 simp [ht, hf]
theorem valueOfP_plc (t : Addr) (w : World) : (ReflectliteValue.unpack (.iface 60 (.pointer (some t)))).run Tryd.prog w
 = .ok (.agg #[.pointer (some ⟨GB, 60, none⟩), .pointer (some ⟨w.heap.size, 0, none⟩), .int .u64 150]) (w.alloc (.cells #[.pointer (some t)] 60)) := by kernel_rfl
theorem type_plc (a : Addr) (w : World) : (ReflectliteValue.methodAny (ReflectliteValue.valueError "reflectlite.Value.Type" 0) (fun t _ _ _ => ReflectliteType.toType t) #[.agg #[.pointer (some ⟨GB, 60, none⟩), .pointer (some a), .int .u64 150]]).run Tryd.prog w
 = .ok (.iface tRT (.agg #[.pointer (some ⟨GB, 60, none⟩)])) w := by kernel_rfl
theorem kindP_plc (w : World) : ((ReflectliteType.abiMethod fun t => (fun a : Nat => Value.int IntKind.u8 (a : Int)) <$> Rtype.kind t) #[.pointer (some ⟨GB, 60, none⟩)]).run Tryd.prog w = .ok (.int .u8 22) w := by kernel_rfl
theorem kind_plc (w : World) : ((ReflectliteType.abiMethod fun t => (fun a : Nat => Value.int IntKind.u8 (a : Int)) <$> Rtype.kind t) #[.pointer (some ⟨GB, 59, none⟩)]).run Tryd.prog w = .ok (.int .u8 22) w := by kernel_rfl
theorem partsP_plc (a : Addr) (w : World) : (ReflectliteValue.parts (.agg #[.pointer (some ⟨GB, 60, none⟩), .pointer (some a), .int .u64 150])).run Tryd.prog w = .ok (some (60, a, 150)) w := by kernel_rfl
theorem underP_plc : Tryd.prog.underlying 60 = some (.pointer 59) := by kernel_rfl
theorem elemT_plc (w : World) : (ReflectliteType.method ReflectliteType.elem #[.agg #[.pointer (some ⟨GB, 60, none⟩)]]).run Tryd.prog w = .ok (.iface tRT (.agg #[.pointer (some ⟨GB, 59, none⟩)])) w := by kernel_rfl
theorem implements_plc (w : World) : (ReflectliteType.relation "Implements" ReflectliteType.implements_ #[.agg #[.pointer (some ⟨GB, 59, none⟩)], .iface tRT (.agg #[.pointer (some ⟨GB, 30, none⟩)])]).run Tryd.prog w = .ok (.bool true) w := by kernel_rfl
theorem typeOf_plc (v : Value) (w : World) : (ReflectliteType.typeOf #[.iface 59 v]).run Tryd.prog w = .ok (.iface tRT (.agg #[.pointer (some ⟨GB, 59, none⟩)])) w := by kernel_rfl
theorem valueOf_plc (p : Addr) (w : World) : (ReflectliteValue.unpack (.iface 59 (.pointer (some p)))).run Tryd.prog w
 = .ok (.agg #[.pointer (some ⟨GB, 59, none⟩), .pointer (some ⟨w.heap.size, 0, none⟩), .int .u64 150]) (w.alloc (.cells #[.pointer (some p)] 59)) := by kernel_rfl
theorem elemOf_plc (w : World) : (Rtype.elem? 60).run Tryd.prog w = .ok (some 59) w := by kernel_rfl
theorem mk_plc (p : Addr) (w : World) : (ReflectliteValue.mk 59 p ReflectliteValue.flagAddr).run Tryd.prog w = .ok (.agg #[.pointer (some ⟨GB, 59, none⟩), .pointer (some p), .int .u64 406]) w := by kernel_rfl
theorem partsA_plc (a : Addr) (w : World) : (ReflectliteValue.parts (.agg #[.pointer (some ⟨GB, 59, none⟩), .pointer (some a), .int .u64 406])).run Tryd.prog w = .ok (some (59, a, 406)) w := by kernel_rfl
theorem partsB_plc (a : Addr) (w : World) : (ReflectliteValue.parts (.agg #[.pointer (some ⟨GB, 59, none⟩), .pointer (some a), .int .u64 150])).run Tryd.prog w = .ok (some (59, a, 150)) w := by kernel_rfl
theorem direct_plc (w : World) : (Rtype.directlyAssignable 59 59).run Tryd.prog w = .ok true w := by kernel_rfl
theorem isNilP_plc (a p : Addr) (W : World) (ha : W.cell? a = some (.pointer (some p))) :
 (ReflectliteValue.method (ReflectliteValue.valueError "reflectlite.Value.IsNil" 0) ReflectliteValue.isNil #[.agg #[.pointer (some ⟨GB, 60, none⟩), .pointer (some a), .int .u64 150]]).run Tryd.prog W = .ok (.bool false) W := by
 rw [rlm]
 simp only [Sem.run_bind, partsP_plc, Result.andThen]
 simp [ReflectliteValue.isNil, loadVar, isAgg, underlying, underP_plc, ha, Result.andThen]
theorem elemV_plc (a p : Addr) (W : World) (ha : W.cell? a = some (.pointer (some p))) :
 (ReflectliteValue.method (ReflectliteValue.valueError "reflectlite.Value.Elem" 0) ReflectliteValue.elem #[.agg #[.pointer (some ⟨GB, 60, none⟩), .pointer (some a), .int .u64 150]]).run Tryd.prog W
  = .ok (.agg #[.pointer (some ⟨GB, 59, none⟩), .pointer (some p), .int .u64 406]) W := by
 rw [rlm]
 simp only [Sem.run_bind, partsP_plc, Result.andThen]
 simp [ReflectliteValue.elem, loadVar, isAgg, underlying, underP_plc, ha, Result.andThen, elemOf_plc, mk_plc]
theorem isAgg_plc (w : World) : (isAgg 59).run Tryd.prog w = .ok false w := by kernel_rfl
theorem set_plc (ta b : Addr) (p : Addr) (old : Value) (W : World) (hb : W.cell? b = some (.pointer (some p))) (ht : W.cell? ta = some old) (hf : W.frozen? ta = false) :
 (ReflectliteValue.set #[.agg #[.pointer (some ⟨GB, 59, none⟩), .pointer (some ta), .int .u64 406], .agg #[.pointer (some ⟨GB, 59, none⟩), .pointer (some b), .int .u64 150]]).run Tryd.prog W
  = .ok (.tuple #[]) (W.setCell ta (.pointer (some p))) := by
 rw [rls]
 simp only [Sem.run_bind, partsA_plc, partsB_plc, Result.andThen]
 simp [ReflectliteValue.flagAddr, loadVar, isAgg_plc, hb, Result.andThen, direct_plc, storeVar, Value.cells, storeCells, Addr.add]
 rw [run_store Tryd.prog W ta _ _ (by rfl)]
 simp [ht, hf]
theorem assign_cls_cls (w : World) : (ReflectliteType.relation "AssignableTo" ReflectliteType.assignableTo #[.agg #[.pointer (some ⟨GB, 52, none⟩)], .iface tRT (.agg #[.pointer (some ⟨GB, 52, none⟩)])]).run Tryd.prog w = .ok (.bool true) w := by kernel_rfl
theorem assign_cls_sec (w : World) : (ReflectliteType.relation "AssignableTo" ReflectliteType.assignableTo #[.agg #[.pointer (some ⟨GB, 52, none⟩)], .iface tRT (.agg #[.pointer (some ⟨GB, 55, none⟩)])]).run Tryd.prog w = .ok (.bool false) w := by kernel_rfl
theorem assign_cls_plc (w : World) : (ReflectliteType.relation "AssignableTo" ReflectliteType.assignableTo #[.agg #[.pointer (some ⟨GB, 52, none⟩)], .iface tRT (.agg #[.pointer (some ⟨GB, 59, none⟩)])]).run Tryd.prog w = .ok (.bool false) w := by kernel_rfl
theorem assign_sec_cls (w : World) : (ReflectliteType.relation "AssignableTo" ReflectliteType.assignableTo #[.agg #[.pointer (some ⟨GB, 55, none⟩)], .iface tRT (.agg #[.pointer (some ⟨GB, 52, none⟩)])]).run Tryd.prog w = .ok (.bool false) w := by kernel_rfl
theorem assign_sec_sec (w : World) : (ReflectliteType.relation "AssignableTo" ReflectliteType.assignableTo #[.agg #[.pointer (some ⟨GB, 55, none⟩)], .iface tRT (.agg #[.pointer (some ⟨GB, 55, none⟩)])]).run Tryd.prog w = .ok (.bool true) w := by kernel_rfl
theorem assign_sec_plc (w : World) : (ReflectliteType.relation "AssignableTo" ReflectliteType.assignableTo #[.agg #[.pointer (some ⟨GB, 55, none⟩)], .iface tRT (.agg #[.pointer (some ⟨GB, 59, none⟩)])]).run Tryd.prog w = .ok (.bool false) w := by kernel_rfl
theorem assign_plc_cls (w : World) : (ReflectliteType.relation "AssignableTo" ReflectliteType.assignableTo #[.agg #[.pointer (some ⟨GB, 59, none⟩)], .iface tRT (.agg #[.pointer (some ⟨GB, 52, none⟩)])]).run Tryd.prog w = .ok (.bool false) w := by kernel_rfl
theorem assign_plc_sec (w : World) : (ReflectliteType.relation "AssignableTo" ReflectliteType.assignableTo #[.agg #[.pointer (some ⟨GB, 59, none⟩)], .iface tRT (.agg #[.pointer (some ⟨GB, 55, none⟩)])]).run Tryd.prog w = .ok (.bool false) w := by kernel_rfl
theorem assign_plc_plc (w : World) : (ReflectliteType.relation "AssignableTo" ReflectliteType.assignableTo #[.agg #[.pointer (some ⟨GB, 59, none⟩)], .iface tRT (.agg #[.pointer (some ⟨GB, 59, none⟩)])]).run Tryd.prog w = .ok (.bool true) w := by kernel_rfl
end Go.Ab.T
