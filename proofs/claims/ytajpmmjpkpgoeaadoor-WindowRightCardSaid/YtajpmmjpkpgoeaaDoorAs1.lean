import Derived.Test.YtajpmmjpkpgoeaaDoorAs0
import Derived.Test.YtajpmmjpkpgoeaaDoorMaErr
import Derived.Deep.LoopGhost
set_option linter.unusedVariables false
set_option linter.unusedSimpArgs false
set_option linter.unusedSectionVars false
namespace Go.Ab.T
open Go Go.Ab Go.Proofs
variable [DMode]
open Go.RowKit Go.Extern.Stop Go.Stop Go.Extern
set_option maxRecDepth 100000
theorem noAs_cls (v : Value) (xT : TypeId) (w : World) : (Instr.typeAssert (.iface 52 v) xT 89 true).run Tryd.prog w = .ok (.tuple #[.nilIface, .bool false]) w := run_typeAssert_lacksB Tryd.underlying89 (by kernel_rfl) (by kernel_rfl) v xT w
theorem noU_cls (v : Value) (xT : TypeId) (w : World) : (Instr.typeAssert (.iface 52 v) xT 92 true).run Tryd.prog w = .ok (.tuple #[.nilIface, .bool false]) w := run_typeAssert_lacksB Tryd.underlying92 (by kernel_rfl) (by kernel_rfl) v xT w
theorem noU2_cls (v : Value) (xT : TypeId) (w : World) : (Instr.typeAssert (.iface 52 v) xT 94 true).run Tryd.prog w = .ok (.tuple #[.nilIface, .bool false]) w := run_typeAssert_lacksB Tryd.underlying94 (by kernel_rfl) (by kernel_rfl) v xT w
theorem noAs_sec (v : Value) (xT : TypeId) (w : World) : (Instr.typeAssert (.iface 55 v) xT 89 true).run Tryd.prog w = .ok (.tuple #[.nilIface, .bool false]) w := run_typeAssert_lacksB Tryd.underlying89 (by kernel_rfl) (by kernel_rfl) v xT w
theorem hasU_sec (v : Value) (xT : TypeId) (w : World) : (Instr.typeAssert (.iface 55 v) xT 92 true).run Tryd.prog w = .ok (.tuple #[.iface 55 v, .bool true]) w := run_typeAssert_hasB Tryd.underlying92 (by kernel_rfl) v xT w
theorem methU_sec (v : Value) (w : World) : (Go.method 228 55 v "Unwrap").run Tryd.prog w = .ok (55, v) w := by kernel_rfl
theorem unwrap_sec (b : Nat) (n : Int) (ve : Value) (t : TypeId) (fr : Nat × Nat) (w : World) (h : w.heap[b]? = some (.cells #[.int .i64 n, ve] t fr)) :
 Calls Tryd.prog 55 #[.pointer (some ⟨b, 0, none⟩)] w fun e w' => e = .returned ve /\ w' = w := by
 have hc : w.cell? ⟨b, 1, none⟩ = some ve := by simp [World.cell?, h]
 clear h
 go_enter Tryd.func55, Tryd.ntmps55
 go_wp2
 go_ret
 exact ⟨rfl, rfl⟩
theorem noAs_plc (v : Value) (xT : TypeId) (w : World) : (Instr.typeAssert (.iface 59 v) xT 89 true).run Tryd.prog w = .ok (.tuple #[.nilIface, .bool false]) w := run_typeAssert_lacksB Tryd.underlying89 (by kernel_rfl) (by kernel_rfl) v xT w
theorem hasU_plc (v : Value) (xT : TypeId) (w : World) : (Instr.typeAssert (.iface 59 v) xT 92 true).run Tryd.prog w = .ok (.tuple #[.iface 59 v, .bool true]) w := run_typeAssert_hasB Tryd.underlying92 (by kernel_rfl) v xT w
theorem methU_plc (v : Value) (w : World) : (Go.method 228 59 v "Unwrap").run Tryd.prog w = .ok (57, v) w := by kernel_rfl
theorem unwrap_plc (b : Nat) (n : Int) (ve : Value) (t : TypeId) (fr : Nat × Nat) (w : World) (h : w.heap[b]? = some (.cells #[.int .i64 n, ve] t fr)) :
 Calls Tryd.prog 57 #[.pointer (some ⟨b, 0, none⟩)] w fun e w' => e = .returned ve /\ w' = w := by
 have hc : w.cell? ⟨b, 1, none⟩ = some ve := by simp [World.cell?, h]
 clear h
 go_enter Tryd.func57, Tryd.ntmps57
 go_wp2
 go_ret
 exact ⟨rfl, rfl⟩
def VV_cls : World -> Int -> Value -> Prop := fun _ k v => v = .int .i64 k
set_option maxHeartbeats 4000000 in
theorem as_cls (M : Nat -> Prop) (e : Err) (ve : Value) (w : World) (tb : Nat) (a : Addr) (old : Value) (hne : e ≠ .nil) (hr : RepErr I M w e ve)
 (ha : w.cell? a = some (.pointer (some ⟨tb, 0, none⟩))) (ht : w.heap[tb]? = some (.cells #[old] 52 (0, 0))) :
 Calls Tryd.prog 28 #[ve, .iface 54 (.pointer (some ⟨tb, 0, none⟩)), .agg #[.pointer (some ⟨GB, 54, none⟩), .pointer (some a), .int .u64 150], .iface tRT (.agg #[.pointer (some ⟨GB, 52, none⟩)])] w
  fun ev w' => AsPost w tb 52 (asCls e) VV_cls ev w' := by
 have hTO := @run_callFunc_extern Tryd.prog 32 _ (ReflectliteType.typeOf) Tryd.func32 (by kernel_rfl) (by kernel_rfl) (by kernel_rfl) (by kernel_rfl)
 have hAT := @run_callFunc_extern Tryd.prog 62 _ (ReflectliteType.relation "AssignableTo" ReflectliteType.assignableTo) Tryd.func62 (by kernel_rfl) (by kernel_rfl) (by kernel_rfl) (by kernel_rfl)
 have hEl := @run_callFunc_extern Tryd.prog 33 _ (ReflectliteValue.method (ReflectliteValue.valueError "reflectlite.Value.Elem" 0) ReflectliteValue.elem) Tryd.func33 (by kernel_rfl) (by kernel_rfl) (by kernel_rfl) (by kernel_rfl)
 have hVO := @run_callFunc_extern Tryd.prog 25 _ (fun args => ReflectliteValue.unpack (args.getD 0 (.tuple #[]))) Tryd.func25 (by kernel_rfl) (by kernel_rfl) (by kernel_rfl) (by kernel_rfl)
 have hSe := @run_callFunc_extern Tryd.prog 34 _ (ReflectliteValue.set) Tryd.func34 (by kernel_rfl) (by kernel_rfl) (by kernel_rfl) (by kernel_rfl)
 have mA := methodAssignableTo
 have hf := frozen_of ht
 have hc := cell_of ht
 have HT : Hidn (w.heap[tb]? = some (.cells #[old] 52 (0, 0))) := hid ht
 have hlt : tb < w.heap.size := lt_of_heap ht
 have hal : a.block < w.heap.size := by
  rcases Nat.lt_or_ge a.block w.heap.size with h | h
  ·exact h
  ·simp [World.cell?, Array.getElem?_eq_none h] at ha
 clear ht
 obtain ⟨k0, hk0⟩ : ∃ k0, k0 = asCls e := ⟨_, rfl⟩
 rw [<- hk0]
 have HR : Hidn (RepErr I M w e ve /\ asCls e = k0 /\ e ≠ .nil) := hid ⟨hr, hk0.symm, hne⟩
 clear hr hk0 hne
 go_enter Tryd.func28, Tryd.ntmps28
 go_wp2
 go_loopg [0] (errDepth e) (fun k t0 wr => wr = w.alloc (.cells #[.pointer (some ⟨GB, 54, none⟩), .pointer (some a), .int .u64 150] tRV) /\ Hidn (∃ e', errDepth e' = k /\ e' ≠ .nil /\ RepErr I M w e' t0 /\ asCls e' = k0))
 case atStart => exact ⟨rfl, hid ⟨e, rfl, HR.out.2.2, HR.out.1, HR.out.2.1⟩⟩
 case round =>
  obtain ⟨hw, hrel⟩ := hrel
  obtain ⟨e', he1, he2, he3, he4⟩ := hrel.out
  subst hw
  cases e' with
  | nil => exact absurd rfl he2
  | cls k =>
   have he3 : u0 = .iface 52 (.int .i64 k) := he3
   subst he3
   have HK : Hidn (k0 = some k) := hid he4.symm
   clear he1 he2 he4 hrel
   have tO := typeOf_cls
   have aa := assign_cls_cls
   have vo := valueOf_cls
   have el := elemV_cls a ⟨tb, 0, none⟩ (w.alloc (.cells #[.pointer (some ⟨GB, 54, none⟩), .pointer (some a), .int .u64 150] tRV)) (by rw [World.cell?_alloc_lt _ _ a hal]; exact ha)
   have st := fun (hb2) => set_cls ⟨tb, 0, none⟩ ⟨w.heap.size + 1, 0, none⟩ k old ((w.alloc (.cells #[.pointer (some ⟨GB, 54, none⟩), .pointer (some a), .int .u64 150] tRV)).alloc (.cells #[.int .i64 k] 52)) hb2
    (by rw [World.cell?_alloc_lt _ _ ⟨tb, 0, none⟩ (by simp; omega), World.cell?_alloc_lt _ _ ⟨tb, 0, none⟩ hlt]; exact hc)
    (by rw [World.frozen?_alloc_old _ _ ⟨tb, 0, none⟩ (by simp; omega), World.frozen?_alloc_old _ _ ⟨tb, 0, none⟩ (Nat.ne_of_lt hlt)]; exact hf)
   have st := st (by rw [World.cell?_alloc_at _ _ _ _ (by simp)]; rfl)
   go_wp2
   go_ret
   rw [HK.out]
   have hh := (((hit_of (.int .i64 k) (More.refl w) HT.out).alloc (.cells #[.pointer (some ⟨GB, 54, none⟩), .pointer (some a), .int .u64 150] tRV)).alloc (.cells #[.int .i64 k] 52))
   exact AsPost.hit rfl _ rfl hh
  | sec n e1 =>
   obtain ⟨b, v1, ty, fr, hv, hM, hb, hr1⟩ := he3
   have hv : u0 = .iface 55 (.pointer (some ⟨b, 0, none⟩)) := hv
   subst hv
   have tO := typeOf_sec
   have aa := assign_sec_cls
   have n1 := noAs_sec
   have n2 := hasU_sec
   have n3 := methU_sec
   have hb2 : (w.alloc (.cells #[.pointer (some ⟨GB, 54, none⟩), .pointer (some a), .int .u64 150] tRV)).heap[b]? = some (.cells #[.int .i64 n, v1] ty fr) := ((More.alloc w _).keep b (lt_of_heap hb)).trans hb
   have HU := hid (unwrap_sec b n v1 ty fr _ hb2)
   clear hb hb2 hrel
   by_cases hn : e1 = .nil
   ·subst hn
    simp only [RepErr] at hr1
    subst hr1
    have HK : Hidn (k0 = none) := hid he4.symm
    clear he1 he2 he4
    go_wp2_with (go_at_call 55; refine HU.out.mono ?_; rintro e w' ⟨rfl, rfl⟩)
    go_ret
    rw [HK.out]
    exact AsPost.miss rfl (More.alloc _ _)
   ·obtain ⟨tt, xx, rfl⟩ : ∃ tt xx, v1 = .iface tt xx := by
     cases e1 with
     | nil => exact absurd rfl hn
     | cls k => exact ⟨_, _, hr1⟩
     | sec m e2 => obtain ⟨b, v2, t2, f2, h, _⟩ := hr1; exact ⟨_, _, h⟩
     | plc m e2 => obtain ⟨b, v2, t2, f2, h, _⟩ := hr1; exact ⟨_, _, h⟩
    have HN : Hidn (e1 ≠ .nil /\ RepErr I M w e1 (.iface tt xx) /\ asCls e1 = k0 /\ errDepth e1 < gk) := hid ⟨hn, hr1, he4, by rw [<- he1]; exact Nat.lt_succ_self _⟩
    clear he1 he2 he4 hr1 hn
    go_wp2_with (go_at_call 55; refine HU.out.mono ?_; rintro e w' ⟨rfl, rfl⟩)
    go_roundg (errDepth e1)
    case measure => exact HN.out.2.2.2
    case rel => exact ⟨rfl, hid ⟨e1, rfl, HN.out.1, HN.out.2.1, HN.out.2.2.1⟩⟩
  | plc n e1 =>
   obtain ⟨b, v1, ty, fr, hv, hM, hb, hr1⟩ := he3
   have hv : u0 = .iface 59 (.pointer (some ⟨b, 0, none⟩)) := hv
   subst hv
   have tO := typeOf_plc
   have aa := assign_plc_cls
   have n1 := noAs_plc
   have n2 := hasU_plc
   have n3 := methU_plc
   have hb2 : (w.alloc (.cells #[.pointer (some ⟨GB, 54, none⟩), .pointer (some a), .int .u64 150] tRV)).heap[b]? = some (.cells #[.int .i64 n, v1] ty fr) := ((More.alloc w _).keep b (lt_of_heap hb)).trans hb
   have HU := hid (unwrap_plc b n v1 ty fr _ hb2)
   clear hb hb2 hrel
   by_cases hn : e1 = .nil
   ·subst hn
    simp only [RepErr] at hr1
    subst hr1
    have HK : Hidn (k0 = none) := hid he4.symm
    clear he1 he2 he4
    go_wp2_with (go_at_call 57; refine HU.out.mono ?_; rintro e w' ⟨rfl, rfl⟩)
    go_ret
    rw [HK.out]
    exact AsPost.miss rfl (More.alloc _ _)
   ·obtain ⟨tt, xx, rfl⟩ : ∃ tt xx, v1 = .iface tt xx := by
     cases e1 with
     | nil => exact absurd rfl hn
     | cls k => exact ⟨_, _, hr1⟩
     | sec m e2 => obtain ⟨b, v2, t2, f2, h, _⟩ := hr1; exact ⟨_, _, h⟩
     | plc m e2 => obtain ⟨b, v2, t2, f2, h, _⟩ := hr1; exact ⟨_, _, h⟩
    have HN : Hidn (e1 ≠ .nil /\ RepErr I M w e1 (.iface tt xx) /\ asCls e1 = k0 /\ errDepth e1 < gk) := hid ⟨hn, hr1, he4, by rw [<- he1]; exact Nat.lt_succ_self _⟩
    clear he1 he2 he4 hr1 hn
    go_wp2_with (go_at_call 57; refine HU.out.mono ?_; rintro e w' ⟨rfl, rfl⟩)
    go_roundg (errDepth e1)
    case measure => exact HN.out.2.2.2
    case rel => exact ⟨rfl, hid ⟨e1, rfl, HN.out.1, HN.out.2.1, HN.out.2.2.1⟩⟩
def VV_sec : World -> Int -> Value -> Prop := fun w k v => ∃ b ve t fr, v = .pointer (some ⟨b, 0, none⟩) /\ w.heap[b]? = some (.cells #[.int .i64 k, ve] t fr)
set_option maxHeartbeats 4000000 in
theorem as_sec (M : Nat -> Prop) (e : Err) (ve : Value) (w : World) (tb : Nat) (a : Addr) (old : Value) (hne : e ≠ .nil) (hr : RepErr I M w e ve)
 (ha : w.cell? a = some (.pointer (some ⟨tb, 0, none⟩))) (ht : w.heap[tb]? = some (.cells #[old] 55 (0, 0))) :
 Calls Tryd.prog 28 #[ve, .iface 56 (.pointer (some ⟨tb, 0, none⟩)), .agg #[.pointer (some ⟨GB, 56, none⟩), .pointer (some a), .int .u64 150], .iface tRT (.agg #[.pointer (some ⟨GB, 55, none⟩)])] w
  fun ev w' => AsPost w tb 55 (asSec e) VV_sec ev w' := by
 have hTO := @run_callFunc_extern Tryd.prog 32 _ (ReflectliteType.typeOf) Tryd.func32 (by kernel_rfl) (by kernel_rfl) (by kernel_rfl) (by kernel_rfl)
 have hAT := @run_callFunc_extern Tryd.prog 62 _ (ReflectliteType.relation "AssignableTo" ReflectliteType.assignableTo) Tryd.func62 (by kernel_rfl) (by kernel_rfl) (by kernel_rfl) (by kernel_rfl)
 have hEl := @run_callFunc_extern Tryd.prog 33 _ (ReflectliteValue.method (ReflectliteValue.valueError "reflectlite.Value.Elem" 0) ReflectliteValue.elem) Tryd.func33 (by kernel_rfl) (by kernel_rfl) (by kernel_rfl) (by kernel_rfl)
 have hVO := @run_callFunc_extern Tryd.prog 25 _ (fun args => ReflectliteValue.unpack (args.getD 0 (.tuple #[]))) Tryd.func25 (by kernel_rfl) (by kernel_rfl) (by kernel_rfl) (by kernel_rfl)
 have hSe := @run_callFunc_extern Tryd.prog 34 _ (ReflectliteValue.set) Tryd.func34 (by kernel_rfl) (by kernel_rfl) (by kernel_rfl) (by kernel_rfl)
 have mA := methodAssignableTo
 have hf := frozen_of ht
 have hc := cell_of ht
 have HT : Hidn (w.heap[tb]? = some (.cells #[old] 55 (0, 0))) := hid ht
 have hlt : tb < w.heap.size := lt_of_heap ht
 have hal : a.block < w.heap.size := by
  rcases Nat.lt_or_ge a.block w.heap.size with h | h
  ·exact h
  ·simp [World.cell?, Array.getElem?_eq_none h] at ha
 clear ht
 obtain ⟨k0, hk0⟩ : ∃ k0, k0 = asSec e := ⟨_, rfl⟩
 rw [<- hk0]
 have HR : Hidn (RepErr I M w e ve /\ asSec e = k0 /\ e ≠ .nil) := hid ⟨hr, hk0.symm, hne⟩
 clear hr hk0 hne
 go_enter Tryd.func28, Tryd.ntmps28
 go_wp2
 go_loopg [0] (errDepth e) (fun k t0 wr => wr = w.alloc (.cells #[.pointer (some ⟨GB, 56, none⟩), .pointer (some a), .int .u64 150] tRV) /\ Hidn (∃ e', errDepth e' = k /\ e' ≠ .nil /\ RepErr I M w e' t0 /\ asSec e' = k0))
 case atStart => exact ⟨rfl, hid ⟨e, rfl, HR.out.2.2, HR.out.1, HR.out.2.1⟩⟩
 case round =>
  obtain ⟨hw, hrel⟩ := hrel
  obtain ⟨e', he1, he2, he3, he4⟩ := hrel.out
  subst hw
  cases e' with
  | nil => exact absurd rfl he2
  | cls k =>
   have he3 : u0 = .iface 52 (.int .i64 k) := he3
   subst he3
   have HK : Hidn (k0 = none) := hid he4.symm
   clear he1 he2 he4 hrel
   have tO := typeOf_cls
   have aa := assign_cls_sec
   have n1 := noAs_cls
   have n2 := noU_cls
   have n3 := noU2_cls
   go_wp2
   go_ret
   rw [HK.out]
   exact AsPost.miss rfl (More.alloc _ _)
  | sec n e1 =>
   obtain ⟨b, v1, ty, fr, hv, hM, hb, hr1⟩ := he3
   have hv : u0 = .iface 55 (.pointer (some ⟨b, 0, none⟩)) := hv
   subst hv
   have HK : Hidn (k0 = some n) := hid he4.symm
   clear he1 he2 he4 hrel hr1
   have tO := typeOf_sec
   have aa := assign_sec_sec
   have vo := valueOf_sec
   have el := elemV_sec a ⟨tb, 0, none⟩ (w.alloc (.cells #[.pointer (some ⟨GB, 56, none⟩), .pointer (some a), .int .u64 150] tRV)) (by rw [World.cell?_alloc_lt _ _ a hal]; exact ha)
   have st := fun (hb2) => set_sec ⟨tb, 0, none⟩ ⟨w.heap.size + 1, 0, none⟩ ⟨b, 0, none⟩ old ((w.alloc (.cells #[.pointer (some ⟨GB, 56, none⟩), .pointer (some a), .int .u64 150] tRV)).alloc (.cells #[.pointer (some ⟨b, 0, none⟩)] 55)) hb2
    (by rw [World.cell?_alloc_lt _ _ ⟨tb, 0, none⟩ (by simp; omega), World.cell?_alloc_lt _ _ ⟨tb, 0, none⟩ hlt]; exact hc)
    (by rw [World.frozen?_alloc_old _ _ ⟨tb, 0, none⟩ (by simp; omega), World.frozen?_alloc_old _ _ ⟨tb, 0, none⟩ (Nat.ne_of_lt hlt)]; exact hf)
   have st := st (by rw [World.cell?_alloc_at _ _ _ _ (by simp)]; rfl)
   have HB := hid hb
   clear hb
   go_wp2
   go_ret
   rw [HK.out]
   have hh := (((hit_of (.pointer (some ⟨b, 0, none⟩)) (More.refl w) HT.out).alloc (.cells #[.pointer (some ⟨GB, 56, none⟩), .pointer (some a), .int .u64 150] tRV)).alloc (.cells #[.pointer (some ⟨b, 0, none⟩)] 55))
   exact AsPost.hit rfl _ ⟨b, v1, ty, fr, rfl, hh.two HT.out HB.out⟩ hh
  | plc n e1 =>
   obtain ⟨b, v1, ty, fr, hv, hM, hb, hr1⟩ := he3
   have hv : u0 = .iface 59 (.pointer (some ⟨b, 0, none⟩)) := hv
   subst hv
   have tO := typeOf_plc
   have aa := assign_plc_sec
   have n1 := noAs_plc
   have n2 := hasU_plc
   have n3 := methU_plc
   have hb2 : (w.alloc (.cells #[.pointer (some ⟨GB, 56, none⟩), .pointer (some a), .int .u64 150] tRV)).heap[b]? = some (.cells #[.int .i64 n, v1] ty fr) := ((More.alloc w _).keep b (lt_of_heap hb)).trans hb
   have HU := hid (unwrap_plc b n v1 ty fr _ hb2)
   clear hb hb2 hrel
   by_cases hn : e1 = .nil
   ·subst hn
    simp only [RepErr] at hr1
    subst hr1
    have HK : Hidn (k0 = none) := hid he4.symm
    clear he1 he2 he4
    go_wp2_with (go_at_call 57; refine HU.out.mono ?_; rintro e w' ⟨rfl, rfl⟩)
    go_ret
    rw [HK.out]
    exact AsPost.miss rfl (More.alloc _ _)
   ·obtain ⟨tt, xx, rfl⟩ : ∃ tt xx, v1 = .iface tt xx := by
     cases e1 with
     | nil => exact absurd rfl hn
     | cls k => exact ⟨_, _, hr1⟩
     | sec m e2 => obtain ⟨b, v2, t2, f2, h, _⟩ := hr1; exact ⟨_, _, h⟩
     | plc m e2 => obtain ⟨b, v2, t2, f2, h, _⟩ := hr1; exact ⟨_, _, h⟩
    have HN : Hidn (e1 ≠ .nil /\ RepErr I M w e1 (.iface tt xx) /\ asSec e1 = k0 /\ errDepth e1 < gk) := hid ⟨hn, hr1, he4, by rw [<- he1]; exact Nat.lt_succ_self _⟩
    clear he1 he2 he4 hr1 hn
    go_wp2_with (go_at_call 57; refine HU.out.mono ?_; rintro e w' ⟨rfl, rfl⟩)
    go_roundg (errDepth e1)
    case measure => exact HN.out.2.2.2
    case rel => exact ⟨rfl, hid ⟨e1, rfl, HN.out.1, HN.out.2.1, HN.out.2.2.1⟩⟩
def VV_plc : World -> Int -> Value -> Prop := fun w k v => ∃ b ve t fr, v = .pointer (some ⟨b, 0, none⟩) /\ w.heap[b]? = some (.cells #[.int .i64 k, ve] t fr)
set_option maxHeartbeats 4000000 in
theorem as_plc (M : Nat -> Prop) (e : Err) (ve : Value) (w : World) (tb : Nat) (a : Addr) (old : Value) (hne : e ≠ .nil) (hr : RepErr I M w e ve)
 (ha : w.cell? a = some (.pointer (some ⟨tb, 0, none⟩))) (ht : w.heap[tb]? = some (.cells #[old] 59 (0, 0))) :
 Calls Tryd.prog 28 #[ve, .iface 60 (.pointer (some ⟨tb, 0, none⟩)), .agg #[.pointer (some ⟨GB, 60, none⟩), .pointer (some a), .int .u64 150], .iface tRT (.agg #[.pointer (some ⟨GB, 59, none⟩)])] w
  fun ev w' => AsPost w tb 59 (asPlc e) VV_plc ev w' := by
 have hTO := @run_callFunc_extern Tryd.prog 32 _ (ReflectliteType.typeOf) Tryd.func32 (by kernel_rfl) (by kernel_rfl) (by kernel_rfl) (by kernel_rfl)
 have hAT := @run_callFunc_extern Tryd.prog 62 _ (ReflectliteType.relation "AssignableTo" ReflectliteType.assignableTo) Tryd.func62 (by kernel_rfl) (by kernel_rfl) (by kernel_rfl) (by kernel_rfl)
 have hEl := @run_callFunc_extern Tryd.prog 33 _ (ReflectliteValue.method (ReflectliteValue.valueError "reflectlite.Value.Elem" 0) ReflectliteValue.elem) Tryd.func33 (by kernel_rfl) (by kernel_rfl) (by kernel_rfl) (by kernel_rfl)
 have hVO := @run_callFunc_extern Tryd.prog 25 _ (fun args => ReflectliteValue.unpack (args.getD 0 (.tuple #[]))) Tryd.func25 (by kernel_rfl) (by kernel_rfl) (by kernel_rfl) (by kernel_rfl)
 have hSe := @run_callFunc_extern Tryd.prog 34 _ (ReflectliteValue.set) Tryd.func34 (by kernel_rfl) (by kernel_rfl) (by kernel_rfl) (by kernel_rfl)
 have mA := methodAssignableTo
 have hf := frozen_of ht
 have hc := cell_of ht
 have HT : Hidn (w.heap[tb]? = some (.cells #[old] 59 (0, 0))) := hid ht
 have hlt : tb < w.heap.size := lt_of_heap ht
 have hal : a.block < w.heap.size := by
  rcases Nat.lt_or_ge a.block w.heap.size with h | h
  ·exact h
  ·simp [World.cell?, Array.getElem?_eq_none h] at ha
 clear ht
 obtain ⟨k0, hk0⟩ : ∃ k0, k0 = asPlc e := ⟨_, rfl⟩
 rw [<- hk0]
 have HR : Hidn (RepErr I M w e ve /\ asPlc e = k0 /\ e ≠ .nil) := hid ⟨hr, hk0.symm, hne⟩
 clear hr hk0 hne
 go_enter Tryd.func28, Tryd.ntmps28
 go_wp2
 go_loopg [0] (errDepth e) (fun k t0 wr => wr = w.alloc (.cells #[.pointer (some ⟨GB, 60, none⟩), .pointer (some a), .int .u64 150] tRV) /\ Hidn (∃ e', errDepth e' = k /\ e' ≠ .nil /\ RepErr I M w e' t0 /\ asPlc e' = k0))
 case atStart => exact ⟨rfl, hid ⟨e, rfl, HR.out.2.2, HR.out.1, HR.out.2.1⟩⟩
 case round =>
  obtain ⟨hw, hrel⟩ := hrel
  obtain ⟨e', he1, he2, he3, he4⟩ := hrel.out
  subst hw
  cases e' with
  | nil => exact absurd rfl he2
  | cls k =>
   have he3 : u0 = .iface 52 (.int .i64 k) := he3
   subst he3
   have HK : Hidn (k0 = none) := hid he4.symm
   clear he1 he2 he4 hrel
   have tO := typeOf_cls
   have aa := assign_cls_plc
   have n1 := noAs_cls
   have n2 := noU_cls
   have n3 := noU2_cls
   go_wp2
   go_ret
   rw [HK.out]
   exact AsPost.miss rfl (More.alloc _ _)
  | sec n e1 =>
   obtain ⟨b, v1, ty, fr, hv, hM, hb, hr1⟩ := he3
   have hv : u0 = .iface 55 (.pointer (some ⟨b, 0, none⟩)) := hv
   subst hv
   have tO := typeOf_sec
   have aa := assign_sec_plc
   have n1 := noAs_sec
   have n2 := hasU_sec
   have n3 := methU_sec
   have hb2 : (w.alloc (.cells #[.pointer (some ⟨GB, 60, none⟩), .pointer (some a), .int .u64 150] tRV)).heap[b]? = some (.cells #[.int .i64 n, v1] ty fr) := ((More.alloc w _).keep b (lt_of_heap hb)).trans hb
   have HU := hid (unwrap_sec b n v1 ty fr _ hb2)
   clear hb hb2 hrel
   by_cases hn : e1 = .nil
   ·subst hn
    simp only [RepErr] at hr1
    subst hr1
    have HK : Hidn (k0 = none) := hid he4.symm
    clear he1 he2 he4
    go_wp2_with (go_at_call 55; refine HU.out.mono ?_; rintro e w' ⟨rfl, rfl⟩)
    go_ret
    rw [HK.out]
    exact AsPost.miss rfl (More.alloc _ _)
   ·obtain ⟨tt, xx, rfl⟩ : ∃ tt xx, v1 = .iface tt xx := by
     cases e1 with
     | nil => exact absurd rfl hn
     | cls k => exact ⟨_, _, hr1⟩
     | sec m e2 => obtain ⟨b, v2, t2, f2, h, _⟩ := hr1; exact ⟨_, _, h⟩
     | plc m e2 => obtain ⟨b, v2, t2, f2, h, _⟩ := hr1; exact ⟨_, _, h⟩
    have HN : Hidn (e1 ≠ .nil /\ RepErr I M w e1 (.iface tt xx) /\ asPlc e1 = k0 /\ errDepth e1 < gk) := hid ⟨hn, hr1, he4, by rw [<- he1]; exact Nat.lt_succ_self _⟩
    clear he1 he2 he4 hr1 hn
    go_wp2_with (go_at_call 55; refine HU.out.mono ?_; rintro e w' ⟨rfl, rfl⟩)
    go_roundg (errDepth e1)
    case measure => exact HN.out.2.2.2
    case rel => exact ⟨rfl, hid ⟨e1, rfl, HN.out.1, HN.out.2.1, HN.out.2.2.1⟩⟩
  | plc n e1 =>
   obtain ⟨b, v1, ty, fr, hv, hM, hb, hr1⟩ := he3
   have hv : u0 = .iface 59 (.pointer (some ⟨b, 0, none⟩)) := hv
   subst hv
   have HK : Hidn (k0 = some n) := hid he4.symm
   clear he1 he2 he4 hrel hr1
   have tO := typeOf_plc
   have aa := assign_plc_plc
   have vo := valueOf_plc
   have el := elemV_plc a ⟨tb, 0, none⟩ (w.alloc (.cells #[.pointer (some ⟨GB, 60, none⟩), .pointer (some a), .int .u64 150] tRV)) (by rw [World.cell?_alloc_lt _ _ a hal]; exact ha)
   have st := fun (hb2) => set_plc ⟨tb, 0, none⟩ ⟨w.heap.size + 1, 0, none⟩ ⟨b, 0, none⟩ old ((w.alloc (.cells #[.pointer (some ⟨GB, 60, none⟩), .pointer (some a), .int .u64 150] tRV)).alloc (.cells #[.pointer (some ⟨b, 0, none⟩)] 59)) hb2
    (by rw [World.cell?_alloc_lt _ _ ⟨tb, 0, none⟩ (by simp; omega), World.cell?_alloc_lt _ _ ⟨tb, 0, none⟩ hlt]; exact hc)
    (by rw [World.frozen?_alloc_old _ _ ⟨tb, 0, none⟩ (by simp; omega), World.frozen?_alloc_old _ _ ⟨tb, 0, none⟩ (Nat.ne_of_lt hlt)]; exact hf)
   have st := st (by rw [World.cell?_alloc_at _ _ _ _ (by simp)]; rfl)
   have HB := hid hb
   clear hb
   go_wp2
   go_ret
   rw [HK.out]
   have hh := (((hit_of (.pointer (some ⟨b, 0, none⟩)) (More.refl w) HT.out).alloc (.cells #[.pointer (some ⟨GB, 60, none⟩), .pointer (some a), .int .u64 150] tRV)).alloc (.cells #[.pointer (some ⟨b, 0, none⟩)] 59))
   exact AsPost.hit rfl _ ⟨b, v1, ty, fr, rfl, hh.two HT.out HB.out⟩ hh
set_option maxHeartbeats 4000000 in
theorem As_cls (M : Nat -> Prop) (e : Err) (ve : Value) (w : World) (tb : Nat) (old : Value) (hne : e ≠ .nil) (hr : RepErr I M w e ve)
 (hg : w.cell? ⟨0, 0, none⟩ = some (.iface tRT (.agg #[.pointer (some ⟨GB, 30, none⟩)]))) (ht : w.heap[tb]? = some (.cells #[old] 52 (0, 0))) :
 Calls Tryd.prog 20 #[ve, .iface 54 (.pointer (some ⟨tb, 0, none⟩))] w fun ev w' => AsPost w tb 52 (asCls e) VV_cls ev w' := by
 have hVO := @run_callFunc_extern Tryd.prog 25 _ (fun args => ReflectliteValue.unpack (args.getD 0 (.tuple #[]))) Tryd.func25 (by kernel_rfl) (by kernel_rfl) (by kernel_rfl) (by kernel_rfl)
 have hTy := @run_callFunc_extern Tryd.prog 26 _ (ReflectliteValue.methodAny (ReflectliteValue.valueError "reflectlite.Value.Type" 0) (fun t _ _ _ => ReflectliteType.toType t)) Tryd.func26 (by kernel_rfl) (by kernel_rfl) (by kernel_rfl) (by kernel_rfl)
 have hIN := @run_callFunc_extern Tryd.prog 27 _ (ReflectliteValue.method (ReflectliteValue.valueError "reflectlite.Value.IsNil" 0) ReflectliteValue.isNil) Tryd.func27 (by kernel_rfl) (by kernel_rfl) (by kernel_rfl) (by kernel_rfl)
 have hKi := @run_callFunc_extern Tryd.prog 50 _ (ReflectliteType.abiMethod fun t => do pure (.int .u8 (<- Rtype.kind t))) Tryd.func50 (by kernel_rfl) (by kernel_rfl) (by kernel_rfl) (by kernel_rfl)
 have hRE := @run_callFunc_extern Tryd.prog 64 _ (ReflectliteType.method ReflectliteType.elem) Tryd.func64 (by kernel_rfl) (by kernel_rfl) (by kernel_rfl) (by kernel_rfl)
 have hIm := @run_callFunc_extern Tryd.prog 65 _ (ReflectliteType.relation "Implements" ReflectliteType.implements_) Tryd.func65 (by kernel_rfl) (by kernel_rfl) (by kernel_rfl) (by kernel_rfl)
 have f6 := valueOfP_cls
 have f7 := type_cls
 have mK := methodKind
 have mE := methodElem
 have mI := methodImplements
 have k1 := kindP_cls
 have k2 := kind_cls
 have e1 := elemT_cls
 have i1 := implements_cls
 have n8 := isNilP_cls ⟨w.heap.size, 0, none⟩ ⟨tb, 0, none⟩ ((w.alloc (.cells #[.pointer (some ⟨tb, 0, none⟩)] 54)).alloc (.cells #[.pointer (some ⟨GB, 54, none⟩), .pointer (some ⟨w.heap.size, 0, none⟩), .int .u64 150] tRV)) (by simp)
 have hlt : 0 < w.heap.size := by
  rcases Nat.lt_or_ge 0 w.heap.size with h | h
  ·exact h
  ·simp [World.cell?, Array.getElem?_eq_none h] at hg
 have hg2 : ((w.alloc (.cells #[.pointer (some ⟨tb, 0, none⟩)] 54)).alloc (.cells #[.pointer (some ⟨GB, 54, none⟩), .pointer (some ⟨w.heap.size, 0, none⟩), .int .u64 150] tRV)).cell? ⟨0, 0, none⟩ = some (.iface tRT (.agg #[.pointer (some ⟨GB, 30, none⟩)])) := by
  rw [World.cell?_alloc_lt _ _ ⟨0, 0, none⟩ (by first | (simp; done) | (simp; omega)), World.cell?_alloc_lt _ _ ⟨0, 0, none⟩ hlt]; exact hg
 have hm : Hidn (More w ((w.alloc (.cells #[.pointer (some ⟨tb, 0, none⟩)] 54)).alloc (.cells #[.pointer (some ⟨GB, 54, none⟩), .pointer (some ⟨w.heap.size, 0, none⟩), .int .u64 150] tRV))) := hid ((More.alloc _ _).trans (More.alloc _ _))
 have HR : Hidn (RepErr I M ((w.alloc (.cells #[.pointer (some ⟨tb, 0, none⟩)] 54)).alloc (.cells #[.pointer (some ⟨GB, 54, none⟩), .pointer (some ⟨w.heap.size, 0, none⟩), .int .u64 150] tRV)) e ve) := hid (RepErr.mono (fun b o hM hb => ⟨hM, (hm.out.keep b (lt_of_heap hb)).trans hb⟩) e ve hr)
 have HT : Hidn (((w.alloc (.cells #[.pointer (some ⟨tb, 0, none⟩)] 54)).alloc (.cells #[.pointer (some ⟨GB, 54, none⟩), .pointer (some ⟨w.heap.size, 0, none⟩), .int .u64 150] tRV)).heap[tb]? = some (.cells #[old] 52 (0, 0))) := hid ((hm.out.keep tb (lt_of_heap ht)).trans ht)
 have hvn : ∃ tt xx, ve = .iface tt xx := by
  cases e with
  | nil => exact absurd rfl hne
  | cls k => exact ⟨_, _, hr⟩
  | sec m e2 => obtain ⟨b, v2, t2, f2, h, _⟩ := hr; exact ⟨_, _, h⟩
  | plc m e2 => obtain ⟨b, v2, t2, f2, h, _⟩ := hr; exact ⟨_, _, h⟩
 obtain ⟨tt, xx, rfl⟩ := hvn
 clear hr ht hg
 have HA : Hidn _ := hid (as_cls M e _ _ tb ⟨w.heap.size, 0, none⟩ old hne HR.out (by simp) HT.out)
 cases hk : asCls e with
 | none =>
  rw [hk] at HA
  clear hk
  go_enter Tryd.func20, Tryd.ntmps20
  go_wp2_with (go_at_call 28; refine HA.out.mono ?_; rintro ev w' ⟨rfl, hp⟩; replace hp := hid hp)
  go_ret
  exact AsPost.after hm.out ⟨rfl, hp.out⟩
 | some k =>
  rw [hk] at HA
  clear hk
  go_enter Tryd.func20, Tryd.ntmps20
  go_wp2_with (go_at_call 28; refine HA.out.mono ?_; rintro ev w' ⟨rfl, v, hv, hp⟩; replace hp := hid hp; replace hv := hid hv)
  go_ret
  exact AsPost.after hm.out ⟨rfl, v, hv.out, hp.out⟩
set_option maxHeartbeats 4000000 in
theorem As_sec (M : Nat -> Prop) (e : Err) (ve : Value) (w : World) (tb : Nat) (old : Value) (hne : e ≠ .nil) (hr : RepErr I M w e ve)
 (hg : w.cell? ⟨0, 0, none⟩ = some (.iface tRT (.agg #[.pointer (some ⟨GB, 30, none⟩)]))) (ht : w.heap[tb]? = some (.cells #[old] 55 (0, 0))) :
 Calls Tryd.prog 20 #[ve, .iface 56 (.pointer (some ⟨tb, 0, none⟩))] w fun ev w' => AsPost w tb 55 (asSec e) VV_sec ev w' := by
 have hVO := @run_callFunc_extern Tryd.prog 25 _ (fun args => ReflectliteValue.unpack (args.getD 0 (.tuple #[]))) Tryd.func25 (by kernel_rfl) (by kernel_rfl) (by kernel_rfl) (by kernel_rfl)
 have hTy := @run_callFunc_extern Tryd.prog 26 _ (ReflectliteValue.methodAny (ReflectliteValue.valueError "reflectlite.Value.Type" 0) (fun t _ _ _ => ReflectliteType.toType t)) Tryd.func26 (by kernel_rfl) (by kernel_rfl) (by kernel_rfl) (by kernel_rfl)
 have hIN := @run_callFunc_extern Tryd.prog 27 _ (ReflectliteValue.method (ReflectliteValue.valueError "reflectlite.Value.IsNil" 0) ReflectliteValue.isNil) Tryd.func27 (by kernel_rfl) (by kernel_rfl) (by kernel_rfl) (by kernel_rfl)
 have hKi := @run_callFunc_extern Tryd.prog 50 _ (ReflectliteType.abiMethod fun t => do pure (.int .u8 (<- Rtype.kind t))) Tryd.func50 (by kernel_rfl) (by kernel_rfl) (by kernel_rfl) (by kernel_rfl)
 have hRE := @run_callFunc_extern Tryd.prog 64 _ (ReflectliteType.method ReflectliteType.elem) Tryd.func64 (by kernel_rfl) (by kernel_rfl) (by kernel_rfl) (by kernel_rfl)
 have hIm := @run_callFunc_extern Tryd.prog 65 _ (ReflectliteType.relation "Implements" ReflectliteType.implements_) Tryd.func65 (by kernel_rfl) (by kernel_rfl) (by kernel_rfl) (by kernel_rfl)
 have f6 := valueOfP_sec
 have f7 := type_sec
 have mK := methodKind
 have mE := methodElem
 have mI := methodImplements
 have k1 := kindP_sec
 have k2 := kind_sec
 have e1 := elemT_sec
 have i1 := implements_sec
 have n8 := isNilP_sec ⟨w.heap.size, 0, none⟩ ⟨tb, 0, none⟩ ((w.alloc (.cells #[.pointer (some ⟨tb, 0, none⟩)] 56)).alloc (.cells #[.pointer (some ⟨GB, 56, none⟩), .pointer (some ⟨w.heap.size, 0, none⟩), .int .u64 150] tRV)) (by simp)
 have hlt : 0 < w.heap.size := by
  rcases Nat.lt_or_ge 0 w.heap.size with h | h
  ·exact h
  ·simp [World.cell?, Array.getElem?_eq_none h] at hg
 have hg2 : ((w.alloc (.cells #[.pointer (some ⟨tb, 0, none⟩)] 56)).alloc (.cells #[.pointer (some ⟨GB, 56, none⟩), .pointer (some ⟨w.heap.size, 0, none⟩), .int .u64 150] tRV)).cell? ⟨0, 0, none⟩ = some (.iface tRT (.agg #[.pointer (some ⟨GB, 30, none⟩)])) := by
  rw [World.cell?_alloc_lt _ _ ⟨0, 0, none⟩ (by first | (simp; done) | (simp; omega)), World.cell?_alloc_lt _ _ ⟨0, 0, none⟩ hlt]; exact hg
 have hm : Hidn (More w ((w.alloc (.cells #[.pointer (some ⟨tb, 0, none⟩)] 56)).alloc (.cells #[.pointer (some ⟨GB, 56, none⟩), .pointer (some ⟨w.heap.size, 0, none⟩), .int .u64 150] tRV))) := hid ((More.alloc _ _).trans (More.alloc _ _))
 have HR : Hidn (RepErr I M ((w.alloc (.cells #[.pointer (some ⟨tb, 0, none⟩)] 56)).alloc (.cells #[.pointer (some ⟨GB, 56, none⟩), .pointer (some ⟨w.heap.size, 0, none⟩), .int .u64 150] tRV)) e ve) := hid (RepErr.mono (fun b o hM hb => ⟨hM, (hm.out.keep b (lt_of_heap hb)).trans hb⟩) e ve hr)
 have HT : Hidn (((w.alloc (.cells #[.pointer (some ⟨tb, 0, none⟩)] 56)).alloc (.cells #[.pointer (some ⟨GB, 56, none⟩), .pointer (some ⟨w.heap.size, 0, none⟩), .int .u64 150] tRV)).heap[tb]? = some (.cells #[old] 55 (0, 0))) := hid ((hm.out.keep tb (lt_of_heap ht)).trans ht)
 have hvn : ∃ tt xx, ve = .iface tt xx := by
  cases e with
  | nil => exact absurd rfl hne
  | cls k => exact ⟨_, _, hr⟩
  | sec m e2 => obtain ⟨b, v2, t2, f2, h, _⟩ := hr; exact ⟨_, _, h⟩
  | plc m e2 => obtain ⟨b, v2, t2, f2, h, _⟩ := hr; exact ⟨_, _, h⟩
 obtain ⟨tt, xx, rfl⟩ := hvn
 clear hr ht hg
 have HA : Hidn _ := hid (as_sec M e _ _ tb ⟨w.heap.size, 0, none⟩ old hne HR.out (by simp) HT.out)
 cases hk : asSec e with
 | none =>
  rw [hk] at HA
  clear hk
  go_enter Tryd.func20, Tryd.ntmps20
  go_wp2_with (go_at_call 28; refine HA.out.mono ?_; rintro ev w' ⟨rfl, hp⟩; replace hp := hid hp)
  go_ret
  exact AsPost.after hm.out ⟨rfl, hp.out⟩
 | some k =>
  rw [hk] at HA
  clear hk
  go_enter Tryd.func20, Tryd.ntmps20
  go_wp2_with (go_at_call 28; refine HA.out.mono ?_; rintro ev w' ⟨rfl, v, hv, hp⟩; replace hp := hid hp; replace hv := hid hv)
  go_ret
  exact AsPost.after hm.out ⟨rfl, v, hv.out, hp.out⟩
set_option maxHeartbeats 4000000 in
theorem As_plc (M : Nat -> Prop) (e : Err) (ve : Value) (w : World) (tb : Nat) (old : Value) (hne : e ≠ .nil) (hr : RepErr I M w e ve)
 (hg : w.cell? ⟨0, 0, none⟩ = some (.iface tRT (.agg #[.pointer (some ⟨GB, 30, none⟩)]))) (ht : w.heap[tb]? = some (.cells #[old] 59 (0, 0))) :
 Calls Tryd.prog 20 #[ve, .iface 60 (.pointer (some ⟨tb, 0, none⟩))] w fun ev w' => AsPost w tb 59 (asPlc e) VV_plc ev w' := by
 have hVO := @run_callFunc_extern Tryd.prog 25 _ (fun args => ReflectliteValue.unpack (args.getD 0 (.tuple #[]))) Tryd.func25 (by kernel_rfl) (by kernel_rfl) (by kernel_rfl) (by kernel_rfl)
 have hTy := @run_callFunc_extern Tryd.prog 26 _ (ReflectliteValue.methodAny (ReflectliteValue.valueError "reflectlite.Value.Type" 0) (fun t _ _ _ => ReflectliteType.toType t)) Tryd.func26 (by kernel_rfl) (by kernel_rfl) (by kernel_rfl) (by kernel_rfl)
 have hIN := @run_callFunc_extern Tryd.prog 27 _ (ReflectliteValue.method (ReflectliteValue.valueError "reflectlite.Value.IsNil" 0) ReflectliteValue.isNil) Tryd.func27 (by kernel_rfl) (by kernel_rfl) (by kernel_rfl) (by kernel_rfl)
 have hKi := @run_callFunc_extern Tryd.prog 50 _ (ReflectliteType.abiMethod fun t => do pure (.int .u8 (<- Rtype.kind t))) Tryd.func50 (by kernel_rfl) (by kernel_rfl) (by kernel_rfl) (by kernel_rfl)
 have hRE := @run_callFunc_extern Tryd.prog 64 _ (ReflectliteType.method ReflectliteType.elem) Tryd.func64 (by kernel_rfl) (by kernel_rfl) (by kernel_rfl) (by kernel_rfl)
 have hIm := @run_callFunc_extern Tryd.prog 65 _ (ReflectliteType.relation "Implements" ReflectliteType.implements_) Tryd.func65 (by kernel_rfl) (by kernel_rfl) (by kernel_rfl) (by kernel_rfl)
 have f6 := valueOfP_plc
 have f7 := type_plc
 have mK := methodKind
 have mE := methodElem
 have mI := methodImplements
 have k1 := kindP_plc
 have k2 := kind_plc
 have e1 := elemT_plc
 have i1 := implements_plc
 have n8 := isNilP_plc ⟨w.heap.size, 0, none⟩ ⟨tb, 0, none⟩ ((w.alloc (.cells #[.pointer (some ⟨tb, 0, none⟩)] 60)).alloc (.cells #[.pointer (some ⟨GB, 60, none⟩), .pointer (some ⟨w.heap.size, 0, none⟩), .int .u64 150] tRV)) (by simp)
 have hlt : 0 < w.heap.size := by
  rcases Nat.lt_or_ge 0 w.heap.size with h | h
  ·exact h
  ·simp [World.cell?, Array.getElem?_eq_none h] at hg
 have hg2 : ((w.alloc (.cells #[.pointer (some ⟨tb, 0, none⟩)] 60)).alloc (.cells #[.pointer (some ⟨GB, 60, none⟩), .pointer (some ⟨w.heap.size, 0, none⟩), .int .u64 150] tRV)).cell? ⟨0, 0, none⟩ = some (.iface tRT (.agg #[.pointer (some ⟨GB, 30, none⟩)])) := by
  rw [World.cell?_alloc_lt _ _ ⟨0, 0, none⟩ (by first | (simp; done) | (simp; omega)), World.cell?_alloc_lt _ _ ⟨0, 0, none⟩ hlt]; exact hg
 have hm : Hidn (More w ((w.alloc (.cells #[.pointer (some ⟨tb, 0, none⟩)] 60)).alloc (.cells #[.pointer (some ⟨GB, 60, none⟩), .pointer (some ⟨w.heap.size, 0, none⟩), .int .u64 150] tRV))) := hid ((More.alloc _ _).trans (More.alloc _ _))
 have HR : Hidn (RepErr I M ((w.alloc (.cells #[.pointer (some ⟨tb, 0, none⟩)] 60)).alloc (.cells #[.pointer (some ⟨GB, 60, none⟩), .pointer (some ⟨w.heap.size, 0, none⟩), .int .u64 150] tRV)) e ve) := hid (RepErr.mono (fun b o hM hb => ⟨hM, (hm.out.keep b (lt_of_heap hb)).trans hb⟩) e ve hr)
 have HT : Hidn (((w.alloc (.cells #[.pointer (some ⟨tb, 0, none⟩)] 60)).alloc (.cells #[.pointer (some ⟨GB, 60, none⟩), .pointer (some ⟨w.heap.size, 0, none⟩), .int .u64 150] tRV)).heap[tb]? = some (.cells #[old] 59 (0, 0))) := hid ((hm.out.keep tb (lt_of_heap ht)).trans ht)
 have hvn : ∃ tt xx, ve = .iface tt xx := by
  cases e with
  | nil => exact absurd rfl hne
  | cls k => exact ⟨_, _, hr⟩
  | sec m e2 => obtain ⟨b, v2, t2, f2, h, _⟩ := hr; exact ⟨_, _, h⟩
  | plc m e2 => obtain ⟨b, v2, t2, f2, h, _⟩ := hr; exact ⟨_, _, h⟩
 obtain ⟨tt, xx, rfl⟩ := hvn
 clear hr ht hg
 have HA : Hidn _ := hid (as_plc M e _ _ tb ⟨w.heap.size, 0, none⟩ old hne HR.out (by simp) HT.out)
 cases hk : asPlc e with
 | none =>
  rw [hk] at HA
  clear hk
  go_enter Tryd.func20, Tryd.ntmps20
  go_wp2_with (go_at_call 28; refine HA.out.mono ?_; rintro ev w' ⟨rfl, hp⟩; replace hp := hid hp)
  go_ret
  exact AsPost.after hm.out ⟨rfl, hp.out⟩
 | some k =>
  rw [hk] at HA
  clear hk
  go_enter Tryd.func20, Tryd.ntmps20
  go_wp2_with (go_at_call 28; refine HA.out.mono ?_; rintro ev w' ⟨rfl, v, hv, hp⟩; replace hp := hid hp; replace hv := hid hv)
  go_ret
  exact AsPost.after hm.out ⟨rfl, v, hv.out, hp.out⟩
end Go.Ab.T
