import Derived.Test.YtajpmmjpkpgoeaaDoorAs1
import Derived.Test.YtajpmmjpkpgoeaaDoorTB
set_option linter.unusedVariables false
set_option linter.unusedSimpArgs false
set_option linter.unusedSectionVars false
namespace Go.Ab.T
open Go Go.Ab Go.Proofs
variable [DMode]
open Go.RowKit Go.Extern.Stop Go.Stop Go.Extern
set_option maxRecDepth 100000
theorem of_nil (w : World) : Calls Tryd.prog 11 #[.nilIface] w fun ev w' => ev = .returned (.agg #[.int .i64 0, .int .i64 0, .int .i64 0]) /\ Keep w w' := by
 go_enter Tryd.func11, Tryd.ntmps11
 go_wp2
 refine bodyPost_ret (v := .agg #[.int .i64 0, .int .i64 0, .int .i64 0]) (by simp [results, Tryd.results11, go_sem]) rfl ⟨rfl, ?_⟩
 repeat (first | exact Keep.refl w | refine Keep.set ?_ _ _ (by simp; done) | refine Keep.alloc ?_ _)
set_option maxHeartbeats 1000000 in
theorem of_hhh (M : Nat -> Prop) (e : Err) (ve : Value) (w : World) (hne : e ≠ .nil) (hr : RepErr I M w e ve) (hg : w.cell? ⟨0, 0, none⟩ = some (.iface tRT (.agg #[.pointer (some ⟨GB, 30, none⟩)])))
 (k1 : Int) (k2 : Int) (k3 : Int) (h1 : asCls e = some k1) (h2 : asSec e = some k2) (h3 : asPlc e = some k3) :
 Calls Tryd.prog 11 #[ve] w fun ev w' => ev = .returned (.agg #[.int .i64 k1, .int .i64 k2, .int .i64 k3]) /\ Keep w w' := by
 have hvn : ∃ tt xx, ve = .iface tt xx := by
  cases e with
  | nil => exact absurd rfl hne
  | cls k => exact ⟨_, _, hr⟩
  | sec m e2 => obtain ⟨b, v2, t2, f2, h, _⟩ := hr; exact ⟨_, _, h⟩
  | plc m e2 => obtain ⟨b, v2, t2, f2, h, _⟩ := hr; exact ⟨_, _, h⟩
 obtain ⟨tt, xx, rfl⟩ := hvn
 have HR := hid hr
 have HG := hid hg
 have H1 := hid h1
 have H2 := hid h2
 have H3 := hid h3
 clear hr hg h1 h2 h3
 have kA0 : Hidn (Keep w (((w.alloc (.cells #[.int .i64 0, .int .i64 0, .int .i64 0] 42)).alloc (.cells #[.int .i64 1, .int .i64 0, .int .i64 0] 42)).alloc (.cells #[.int .i64 0] 52))) := hid ((((Keep.refl w).alloc _).alloc _).alloc _)
 have HC1 := hid (As_cls M e (.iface tt xx) (((w.alloc (.cells #[.int .i64 0, .int .i64 0, .int .i64 0] 42)).alloc (.cells #[.int .i64 1, .int .i64 0, .int .i64 0] 42)).alloc (.cells #[.int .i64 0] 52)) (w.heap.size + 1 + 1) (.int .i64 0) hne (kA0.out.err HR.out) (kA0.out.cell HG.out) (heap_new _ _ _ (by simp)))
 rw [H1.out] at HC1
 have G3 : Hidn ((((w.alloc (.cells #[.int .i64 0, .int .i64 0, .int .i64 0] 42)).alloc (.cells #[.int .i64 1, .int .i64 0, .int .i64 0] 42)).alloc (.cells #[.int .i64 0] 52)).heap[(w.heap.size + 1)]? = some (.cells #[.int .i64 1, .int .i64 0, .int .i64 0] 42 (0, 0))) := hid (heap_old _ _ (heap_new _ _ _ (by simp)))
 have G2 : Hidn ((((w.alloc (.cells #[.int .i64 0, .int .i64 0, .int .i64 0] 42)).alloc (.cells #[.int .i64 1, .int .i64 0, .int .i64 0] 42)).alloc (.cells #[.int .i64 0] 52)).heap[w.heap.size]? = some (.cells #[.int .i64 0, .int .i64 0, .int .i64 0] 42 (0, 0))) := hid (heap_old _ _ (heap_old _ _ (heap_new _ _ _ rfl)))
 have G4 : Hidn ((((w.alloc (.cells #[.int .i64 0, .int .i64 0, .int .i64 0] 42)).alloc (.cells #[.int .i64 1, .int .i64 0, .int .i64 0] 42)).alloc (.cells #[.int .i64 0] 52)).heap.size = w.heap.size + 3) := hid (by simp)
 go_enter Tryd.func11, Tryd.ntmps11
 go_wp2_with (first
  | (
   go_at_call 20
   with_reducible refine HC1.out.mono ?_
   rintro ev Wa ⟨rfl, va, hva, hpa⟩
   obtain rfl : va = .int .i64 k1 := hva
   have a4 := cell_of hpa.cell
   have kWa := hid (kA0.out.hit hpa (by omega))
   have a3 := (hpa.keep (w.heap.size + 1) (lt_of_heap G3.out) (by omega)).trans G3.out
   have a2 := (hpa.keep w.heap.size (lt_of_heap G2.out) (by omega)).trans G2.out
   have hza : w.heap.size + 2 < Wa.heap.size + 1 := by have h1 := lt_of_heap a3; omega
   obtain ⟨⟨ap0, ap1, ap2⟩, aq0, aq1, aq2⟩ := cells3 a3
   obtain ⟨⟨ar0, ar1, ar2⟩, as0, as1, as2⟩ := cells3 a2
   replace a3 := hid a3
   replace a2 := hid a2
   replace hpa := hid hpa
   have kA1 : Hidn (Keep w ((Wa.setCell ⟨w.heap.size + 1, 0, none⟩ (.int .i64 k1)).alloc (.cells #[.pointer none] 55))) := hid ((kWa.out.set ⟨w.heap.size + 1, 0, none⟩ (.int .i64 k1) (Nat.le_succ _)).alloc _)
   have HC2 := hid (As_sec M e (.iface tt xx) ((Wa.setCell ⟨w.heap.size + 1, 0, none⟩ (.int .i64 k1)).alloc (.cells #[.pointer none] 55)) Wa.heap.size (.pointer none) hne (kA1.out.err HR.out) (kA1.out.cell HG.out) (heap_new _ _ _ (by simp)))
   rw [H2.out] at HC2
   have G32 := hid (heap_old _ (.cells #[.pointer none] 55) (heap_set3a Wa (.int .i64 k1) a3.out))
   have G22 := hid (heap_old _ (.cells #[.pointer none] 55) (heap_set_ne Wa ⟨w.heap.size + 1, 0, none⟩ (.int .i64 k1) a2.out (by simp))))
  | (
   go_at_call 20
   with_reducible refine HC2.out.mono ?_
   rintro ev Wb ⟨rfl, vb, hvb, hpb⟩
   obtain ⟨bb, veb, tb, frb, rfl, hbb⟩ := hvb
   have b5 := (cells2 hbb).1
   replace hbb := hid hbb
   have b4 := cell_of hpb.cell
   have kWb := hid (kA1.out.hit hpb (by have := hza; omega))
   have b3 := (hpb.keep (w.heap.size + 1) (lt_of_heap G32.out) (by have := hza; omega)).trans G32.out
   have b2 := (hpb.keep w.heap.size (lt_of_heap G22.out) (by have := hza; omega)).trans G22.out
   have hzb : w.heap.size + 2 < Wb.heap.size + 1 := by have h1 := lt_of_heap b3; omega
   obtain ⟨⟨bp0, bp1, bp2⟩, bq0, bq1, bq2⟩ := cells3 b3
   obtain ⟨⟨br0, br1, br2⟩, bs0, bs1, bs2⟩ := cells3 b2
   replace b3 := hid b3
   replace b2 := hid b2
   replace hpb := hid hpb
   have kA2 : Hidn (Keep w ((Wb.setCell ⟨w.heap.size + 1, 1, none⟩ (.int .i64 k2)).alloc (.cells #[.pointer none] 59))) := hid ((kWb.out.set ⟨w.heap.size + 1, 1, none⟩ (.int .i64 k2) (Nat.le_succ _)).alloc _)
   have HC3 := hid (As_plc M e (.iface tt xx) ((Wb.setCell ⟨w.heap.size + 1, 1, none⟩ (.int .i64 k2)).alloc (.cells #[.pointer none] 59)) Wb.heap.size (.pointer none) hne (kA2.out.err HR.out) (kA2.out.cell HG.out) (heap_new _ _ _ (by simp)))
   rw [H3.out] at HC3
   have G33 := hid (heap_old _ (.cells #[.pointer none] 59) (heap_set3b Wb (.int .i64 k2) b3.out))
   have G23 := hid (heap_old _ (.cells #[.pointer none] 59) (heap_set_ne Wb ⟨w.heap.size + 1, 1, none⟩ (.int .i64 k2) b2.out (by simp))))
  | (
   go_at_call 20
   with_reducible refine HC3.out.mono ?_
   rintro ev Wc ⟨rfl, vc, hvc, hpc⟩
   obtain ⟨bc, vec, tc, frc, rfl, hbc⟩ := hvc
   have c5 := (cells2 hbc).1
   replace hbc := hid hbc
   have c4 := cell_of hpc.cell
   have kWc := hid (kA2.out.hit hpc (by have := hzb; omega))
   have c3 := (hpc.keep (w.heap.size + 1) (lt_of_heap G33.out) (by have := hzb; omega)).trans G33.out
   have c2 := (hpc.keep w.heap.size (lt_of_heap G23.out) (by have := hzb; omega)).trans G23.out
   have hzc : w.heap.size + 2 < Wc.heap.size + 1 := by have h1 := lt_of_heap c3; omega
   obtain ⟨⟨cp0, cp1, cp2⟩, cq0, cq1, cq2⟩ := cells3 c3
   obtain ⟨⟨cr0, cr1, cr2⟩, cs0, cs1, cs2⟩ := cells3 c2
   replace c3 := hid c3
   replace c2 := hid c2
   replace hpc := hid hpc
   skip))
 refine bodyPost_ret (v := .agg #[.int .i64 k1, .int .i64 k2, .int .i64 k3]) (by simp [results, Tryd.results11, go_sem, cp0, cp1, cp2, cr0, cr1, cr2, cs0, cs1, cs2, cq0, cq1, cq2]) rfl ⟨rfl, ?_⟩
 repeat (first | exact kWc.out | refine Keep.set ?_ _ _ (by simp; done) | refine Keep.alloc ?_ _)
set_option maxHeartbeats 1000000 in
theorem of_hhm (M : Nat -> Prop) (e : Err) (ve : Value) (w : World) (hne : e ≠ .nil) (hr : RepErr I M w e ve) (hg : w.cell? ⟨0, 0, none⟩ = some (.iface tRT (.agg #[.pointer (some ⟨GB, 30, none⟩)])))
 (k1 : Int) (k2 : Int) (h1 : asCls e = some k1) (h2 : asSec e = some k2) (h3 : asPlc e = none) :
 Calls Tryd.prog 11 #[ve] w fun ev w' => ev = .returned (.agg #[.int .i64 k1, .int .i64 k2, .int .i64 0]) /\ Keep w w' := by
 have hvn : ∃ tt xx, ve = .iface tt xx := by
  cases e with
  | nil => exact absurd rfl hne
  | cls k => exact ⟨_, _, hr⟩
  | sec m e2 => obtain ⟨b, v2, t2, f2, h, _⟩ := hr; exact ⟨_, _, h⟩
  | plc m e2 => obtain ⟨b, v2, t2, f2, h, _⟩ := hr; exact ⟨_, _, h⟩
 obtain ⟨tt, xx, rfl⟩ := hvn
 have HR := hid hr
 have HG := hid hg
 have H1 := hid h1
 have H2 := hid h2
 have H3 := hid h3
 clear hr hg h1 h2 h3
 have kA0 : Hidn (Keep w (((w.alloc (.cells #[.int .i64 0, .int .i64 0, .int .i64 0] 42)).alloc (.cells #[.int .i64 1, .int .i64 0, .int .i64 0] 42)).alloc (.cells #[.int .i64 0] 52))) := hid ((((Keep.refl w).alloc _).alloc _).alloc _)
 have HC1 := hid (As_cls M e (.iface tt xx) (((w.alloc (.cells #[.int .i64 0, .int .i64 0, .int .i64 0] 42)).alloc (.cells #[.int .i64 1, .int .i64 0, .int .i64 0] 42)).alloc (.cells #[.int .i64 0] 52)) (w.heap.size + 1 + 1) (.int .i64 0) hne (kA0.out.err HR.out) (kA0.out.cell HG.out) (heap_new _ _ _ (by simp)))
 rw [H1.out] at HC1
 have G3 : Hidn ((((w.alloc (.cells #[.int .i64 0, .int .i64 0, .int .i64 0] 42)).alloc (.cells #[.int .i64 1, .int .i64 0, .int .i64 0] 42)).alloc (.cells #[.int .i64 0] 52)).heap[(w.heap.size + 1)]? = some (.cells #[.int .i64 1, .int .i64 0, .int .i64 0] 42 (0, 0))) := hid (heap_old _ _ (heap_new _ _ _ (by simp)))
 have G2 : Hidn ((((w.alloc (.cells #[.int .i64 0, .int .i64 0, .int .i64 0] 42)).alloc (.cells #[.int .i64 1, .int .i64 0, .int .i64 0] 42)).alloc (.cells #[.int .i64 0] 52)).heap[w.heap.size]? = some (.cells #[.int .i64 0, .int .i64 0, .int .i64 0] 42 (0, 0))) := hid (heap_old _ _ (heap_old _ _ (heap_new _ _ _ rfl)))
 have G4 : Hidn ((((w.alloc (.cells #[.int .i64 0, .int .i64 0, .int .i64 0] 42)).alloc (.cells #[.int .i64 1, .int .i64 0, .int .i64 0] 42)).alloc (.cells #[.int .i64 0] 52)).heap.size = w.heap.size + 3) := hid (by simp)
 go_enter Tryd.func11, Tryd.ntmps11
 go_wp2_with (first
  | (
   go_at_call 20
   with_reducible refine HC1.out.mono ?_
   rintro ev Wa ⟨rfl, va, hva, hpa⟩
   obtain rfl : va = .int .i64 k1 := hva
   have a4 := cell_of hpa.cell
   have kWa := hid (kA0.out.hit hpa (by omega))
   have a3 := (hpa.keep (w.heap.size + 1) (lt_of_heap G3.out) (by omega)).trans G3.out
   have a2 := (hpa.keep w.heap.size (lt_of_heap G2.out) (by omega)).trans G2.out
   have hza : w.heap.size + 2 < Wa.heap.size + 1 := by have h1 := lt_of_heap a3; omega
   obtain ⟨⟨ap0, ap1, ap2⟩, aq0, aq1, aq2⟩ := cells3 a3
   obtain ⟨⟨ar0, ar1, ar2⟩, as0, as1, as2⟩ := cells3 a2
   replace a3 := hid a3
   replace a2 := hid a2
   replace hpa := hid hpa
   have kA1 : Hidn (Keep w ((Wa.setCell ⟨w.heap.size + 1, 0, none⟩ (.int .i64 k1)).alloc (.cells #[.pointer none] 55))) := hid ((kWa.out.set ⟨w.heap.size + 1, 0, none⟩ (.int .i64 k1) (Nat.le_succ _)).alloc _)
   have HC2 := hid (As_sec M e (.iface tt xx) ((Wa.setCell ⟨w.heap.size + 1, 0, none⟩ (.int .i64 k1)).alloc (.cells #[.pointer none] 55)) Wa.heap.size (.pointer none) hne (kA1.out.err HR.out) (kA1.out.cell HG.out) (heap_new _ _ _ (by simp)))
   rw [H2.out] at HC2
   have G32 := hid (heap_old _ (.cells #[.pointer none] 55) (heap_set3a Wa (.int .i64 k1) a3.out))
   have G22 := hid (heap_old _ (.cells #[.pointer none] 55) (heap_set_ne Wa ⟨w.heap.size + 1, 0, none⟩ (.int .i64 k1) a2.out (by simp))))
  | (
   go_at_call 20
   with_reducible refine HC2.out.mono ?_
   rintro ev Wb ⟨rfl, vb, hvb, hpb⟩
   obtain ⟨bb, veb, tb, frb, rfl, hbb⟩ := hvb
   have b5 := (cells2 hbb).1
   replace hbb := hid hbb
   have b4 := cell_of hpb.cell
   have kWb := hid (kA1.out.hit hpb (by have := hza; omega))
   have b3 := (hpb.keep (w.heap.size + 1) (lt_of_heap G32.out) (by have := hza; omega)).trans G32.out
   have b2 := (hpb.keep w.heap.size (lt_of_heap G22.out) (by have := hza; omega)).trans G22.out
   have hzb : w.heap.size + 2 < Wb.heap.size + 1 := by have h1 := lt_of_heap b3; omega
   obtain ⟨⟨bp0, bp1, bp2⟩, bq0, bq1, bq2⟩ := cells3 b3
   obtain ⟨⟨br0, br1, br2⟩, bs0, bs1, bs2⟩ := cells3 b2
   replace b3 := hid b3
   replace b2 := hid b2
   replace hpb := hid hpb
   have kA2 : Hidn (Keep w ((Wb.setCell ⟨w.heap.size + 1, 1, none⟩ (.int .i64 k2)).alloc (.cells #[.pointer none] 59))) := hid ((kWb.out.set ⟨w.heap.size + 1, 1, none⟩ (.int .i64 k2) (Nat.le_succ _)).alloc _)
   have HC3 := hid (As_plc M e (.iface tt xx) ((Wb.setCell ⟨w.heap.size + 1, 1, none⟩ (.int .i64 k2)).alloc (.cells #[.pointer none] 59)) Wb.heap.size (.pointer none) hne (kA2.out.err HR.out) (kA2.out.cell HG.out) (heap_new _ _ _ (by simp)))
   rw [H3.out] at HC3
   have G33 := hid (heap_old _ (.cells #[.pointer none] 59) (heap_set3b Wb (.int .i64 k2) b3.out))
   have G23 := hid (heap_old _ (.cells #[.pointer none] 59) (heap_set_ne Wb ⟨w.heap.size + 1, 1, none⟩ (.int .i64 k2) b2.out (by simp))))
  | (
   go_at_call 20
   with_reducible refine HC3.out.mono ?_
   rintro ev Wc ⟨rfl, hpc⟩
   have kWc := hid (kA2.out.more hpc)
   have c3 := (hpc.keep (w.heap.size + 1) (lt_of_heap G33.out)).trans G33.out
   have c2 := (hpc.keep w.heap.size (lt_of_heap G23.out)).trans G23.out
   have hzc : w.heap.size + 2 < Wc.heap.size + 1 := by have h1 := lt_of_heap c3; omega
   obtain ⟨⟨cp0, cp1, cp2⟩, cq0, cq1, cq2⟩ := cells3 c3
   obtain ⟨⟨cr0, cr1, cr2⟩, cs0, cs1, cs2⟩ := cells3 c2
   replace c3 := hid c3
   replace c2 := hid c2
   replace hpc := hid hpc
   skip))
 refine bodyPost_ret (v := .agg #[.int .i64 k1, .int .i64 k2, .int .i64 0]) (by simp [results, Tryd.results11, go_sem, cp0, cp1, cp2, cr0, cr1, cr2, cs0, cs1, cs2, cq0, cq1, cq2]) rfl ⟨rfl, ?_⟩
 repeat (first | exact kWc.out | refine Keep.set ?_ _ _ (by simp; done) | refine Keep.alloc ?_ _)
set_option maxHeartbeats 1000000 in
theorem of_hmh (M : Nat -> Prop) (e : Err) (ve : Value) (w : World) (hne : e ≠ .nil) (hr : RepErr I M w e ve) (hg : w.cell? ⟨0, 0, none⟩ = some (.iface tRT (.agg #[.pointer (some ⟨GB, 30, none⟩)])))
 (k1 : Int) (k3 : Int) (h1 : asCls e = some k1) (h2 : asSec e = none) (h3 : asPlc e = some k3) :
 Calls Tryd.prog 11 #[ve] w fun ev w' => ev = .returned (.agg #[.int .i64 k1, .int .i64 0, .int .i64 k3]) /\ Keep w w' := by
 have hvn : ∃ tt xx, ve = .iface tt xx := by
  cases e with
  | nil => exact absurd rfl hne
  | cls k => exact ⟨_, _, hr⟩
  | sec m e2 => obtain ⟨b, v2, t2, f2, h, _⟩ := hr; exact ⟨_, _, h⟩
  | plc m e2 => obtain ⟨b, v2, t2, f2, h, _⟩ := hr; exact ⟨_, _, h⟩
 obtain ⟨tt, xx, rfl⟩ := hvn
 have HR := hid hr
 have HG := hid hg
 have H1 := hid h1
 have H2 := hid h2
 have H3 := hid h3
 clear hr hg h1 h2 h3
 have kA0 : Hidn (Keep w (((w.alloc (.cells #[.int .i64 0, .int .i64 0, .int .i64 0] 42)).alloc (.cells #[.int .i64 1, .int .i64 0, .int .i64 0] 42)).alloc (.cells #[.int .i64 0] 52))) := hid ((((Keep.refl w).alloc _).alloc _).alloc _)
 have HC1 := hid (As_cls M e (.iface tt xx) (((w.alloc (.cells #[.int .i64 0, .int .i64 0, .int .i64 0] 42)).alloc (.cells #[.int .i64 1, .int .i64 0, .int .i64 0] 42)).alloc (.cells #[.int .i64 0] 52)) (w.heap.size + 1 + 1) (.int .i64 0) hne (kA0.out.err HR.out) (kA0.out.cell HG.out) (heap_new _ _ _ (by simp)))
 rw [H1.out] at HC1
 have G3 : Hidn ((((w.alloc (.cells #[.int .i64 0, .int .i64 0, .int .i64 0] 42)).alloc (.cells #[.int .i64 1, .int .i64 0, .int .i64 0] 42)).alloc (.cells #[.int .i64 0] 52)).heap[(w.heap.size + 1)]? = some (.cells #[.int .i64 1, .int .i64 0, .int .i64 0] 42 (0, 0))) := hid (heap_old _ _ (heap_new _ _ _ (by simp)))
 have G2 : Hidn ((((w.alloc (.cells #[.int .i64 0, .int .i64 0, .int .i64 0] 42)).alloc (.cells #[.int .i64 1, .int .i64 0, .int .i64 0] 42)).alloc (.cells #[.int .i64 0] 52)).heap[w.heap.size]? = some (.cells #[.int .i64 0, .int .i64 0, .int .i64 0] 42 (0, 0))) := hid (heap_old _ _ (heap_old _ _ (heap_new _ _ _ rfl)))
 have G4 : Hidn ((((w.alloc (.cells #[.int .i64 0, .int .i64 0, .int .i64 0] 42)).alloc (.cells #[.int .i64 1, .int .i64 0, .int .i64 0] 42)).alloc (.cells #[.int .i64 0] 52)).heap.size = w.heap.size + 3) := hid (by simp)
 go_enter Tryd.func11, Tryd.ntmps11
 go_wp2_with (first
  | (
   go_at_call 20
   with_reducible refine HC1.out.mono ?_
   rintro ev Wa ⟨rfl, va, hva, hpa⟩
   obtain rfl : va = .int .i64 k1 := hva
   have a4 := cell_of hpa.cell
   have kWa := hid (kA0.out.hit hpa (by omega))
   have a3 := (hpa.keep (w.heap.size + 1) (lt_of_heap G3.out) (by omega)).trans G3.out
   have a2 := (hpa.keep w.heap.size (lt_of_heap G2.out) (by omega)).trans G2.out
   have hza : w.heap.size + 2 < Wa.heap.size + 1 := by have h1 := lt_of_heap a3; omega
   obtain ⟨⟨ap0, ap1, ap2⟩, aq0, aq1, aq2⟩ := cells3 a3
   obtain ⟨⟨ar0, ar1, ar2⟩, as0, as1, as2⟩ := cells3 a2
   replace a3 := hid a3
   replace a2 := hid a2
   replace hpa := hid hpa
   have kA1 : Hidn (Keep w ((Wa.setCell ⟨w.heap.size + 1, 0, none⟩ (.int .i64 k1)).alloc (.cells #[.pointer none] 55))) := hid ((kWa.out.set ⟨w.heap.size + 1, 0, none⟩ (.int .i64 k1) (Nat.le_succ _)).alloc _)
   have HC2 := hid (As_sec M e (.iface tt xx) ((Wa.setCell ⟨w.heap.size + 1, 0, none⟩ (.int .i64 k1)).alloc (.cells #[.pointer none] 55)) Wa.heap.size (.pointer none) hne (kA1.out.err HR.out) (kA1.out.cell HG.out) (heap_new _ _ _ (by simp)))
   rw [H2.out] at HC2
   have G32 := hid (heap_old _ (.cells #[.pointer none] 55) (heap_set3a Wa (.int .i64 k1) a3.out))
   have G22 := hid (heap_old _ (.cells #[.pointer none] 55) (heap_set_ne Wa ⟨w.heap.size + 1, 0, none⟩ (.int .i64 k1) a2.out (by simp))))
  | (
   go_at_call 20
   with_reducible refine HC2.out.mono ?_
   rintro ev Wb ⟨rfl, hpb⟩
   have kWb := hid (kA1.out.more hpb)
   have b3 := (hpb.keep (w.heap.size + 1) (lt_of_heap G32.out)).trans G32.out
   have b2 := (hpb.keep w.heap.size (lt_of_heap G22.out)).trans G22.out
   have hzb : w.heap.size + 2 < Wb.heap.size + 1 := by have h1 := lt_of_heap b3; omega
   obtain ⟨⟨bp0, bp1, bp2⟩, bq0, bq1, bq2⟩ := cells3 b3
   obtain ⟨⟨br0, br1, br2⟩, bs0, bs1, bs2⟩ := cells3 b2
   replace b3 := hid b3
   replace b2 := hid b2
   replace hpb := hid hpb
   have kA2 : Hidn (Keep w (Wb.alloc (.cells #[.pointer none] 59))) := hid (kWb.out.alloc _)
   have HC3 := hid (As_plc M e (.iface tt xx) (Wb.alloc (.cells #[.pointer none] 59)) Wb.heap.size (.pointer none) hne (kA2.out.err HR.out) (kA2.out.cell HG.out) (heap_new _ _ _ (by simp)))
   rw [H3.out] at HC3
   have G33 := hid (heap_old _ (.cells #[.pointer none] 59) (b3.out))
   have G23 := hid (heap_old _ (.cells #[.pointer none] 59) (b2.out)))
  | (
   go_at_call 20
   with_reducible refine HC3.out.mono ?_
   rintro ev Wc ⟨rfl, vc, hvc, hpc⟩
   obtain ⟨bc, vec, tc, frc, rfl, hbc⟩ := hvc
   have c5 := (cells2 hbc).1
   replace hbc := hid hbc
   have c4 := cell_of hpc.cell
   have kWc := hid (kA2.out.hit hpc (by have := hzb; omega))
   have c3 := (hpc.keep (w.heap.size + 1) (lt_of_heap G33.out) (by have := hzb; omega)).trans G33.out
   have c2 := (hpc.keep w.heap.size (lt_of_heap G23.out) (by have := hzb; omega)).trans G23.out
   have hzc : w.heap.size + 2 < Wc.heap.size + 1 := by have h1 := lt_of_heap c3; omega
   obtain ⟨⟨cp0, cp1, cp2⟩, cq0, cq1, cq2⟩ := cells3 c3
   obtain ⟨⟨cr0, cr1, cr2⟩, cs0, cs1, cs2⟩ := cells3 c2
   replace c3 := hid c3
   replace c2 := hid c2
   replace hpc := hid hpc
   skip))
 refine bodyPost_ret (v := .agg #[.int .i64 k1, .int .i64 0, .int .i64 k3]) (by simp [results, Tryd.results11, go_sem, cp0, cp1, cp2, cr0, cr1, cr2, cs0, cs1, cs2, cq0, cq1, cq2]) rfl ⟨rfl, ?_⟩
 repeat (first | exact kWc.out | refine Keep.set ?_ _ _ (by simp; done) | refine Keep.alloc ?_ _)
set_option maxHeartbeats 1000000 in
theorem of_hmm (M : Nat -> Prop) (e : Err) (ve : Value) (w : World) (hne : e ≠ .nil) (hr : RepErr I M w e ve) (hg : w.cell? ⟨0, 0, none⟩ = some (.iface tRT (.agg #[.pointer (some ⟨GB, 30, none⟩)])))
 (k1 : Int) (h1 : asCls e = some k1) (h2 : asSec e = none) (h3 : asPlc e = none) :
 Calls Tryd.prog 11 #[ve] w fun ev w' => ev = .returned (.agg #[.int .i64 k1, .int .i64 0, .int .i64 0]) /\ Keep w w' := by
 have hvn : ∃ tt xx, ve = .iface tt xx := by
  cases e with
  | nil => exact absurd rfl hne
  | cls k => exact ⟨_, _, hr⟩
  | sec m e2 => obtain ⟨b, v2, t2, f2, h, _⟩ := hr; exact ⟨_, _, h⟩
  | plc m e2 => obtain ⟨b, v2, t2, f2, h, _⟩ := hr; exact ⟨_, _, h⟩
 obtain ⟨tt, xx, rfl⟩ := hvn
 have HR := hid hr
 have HG := hid hg
 have H1 := hid h1
 have H2 := hid h2
 have H3 := hid h3
 clear hr hg h1 h2 h3
 have kA0 : Hidn (Keep w (((w.alloc (.cells #[.int .i64 0, .int .i64 0, .int .i64 0] 42)).alloc (.cells #[.int .i64 1, .int .i64 0, .int .i64 0] 42)).alloc (.cells #[.int .i64 0] 52))) := hid ((((Keep.refl w).alloc _).alloc _).alloc _)
 have HC1 := hid (As_cls M e (.iface tt xx) (((w.alloc (.cells #[.int .i64 0, .int .i64 0, .int .i64 0] 42)).alloc (.cells #[.int .i64 1, .int .i64 0, .int .i64 0] 42)).alloc (.cells #[.int .i64 0] 52)) (w.heap.size + 1 + 1) (.int .i64 0) hne (kA0.out.err HR.out) (kA0.out.cell HG.out) (heap_new _ _ _ (by simp)))
 rw [H1.out] at HC1
 have G3 : Hidn ((((w.alloc (.cells #[.int .i64 0, .int .i64 0, .int .i64 0] 42)).alloc (.cells #[.int .i64 1, .int .i64 0, .int .i64 0] 42)).alloc (.cells #[.int .i64 0] 52)).heap[(w.heap.size + 1)]? = some (.cells #[.int .i64 1, .int .i64 0, .int .i64 0] 42 (0, 0))) := hid (heap_old _ _ (heap_new _ _ _ (by simp)))
 have G2 : Hidn ((((w.alloc (.cells #[.int .i64 0, .int .i64 0, .int .i64 0] 42)).alloc (.cells #[.int .i64 1, .int .i64 0, .int .i64 0] 42)).alloc (.cells #[.int .i64 0] 52)).heap[w.heap.size]? = some (.cells #[.int .i64 0, .int .i64 0, .int .i64 0] 42 (0, 0))) := hid (heap_old _ _ (heap_old _ _ (heap_new _ _ _ rfl)))
 have G4 : Hidn ((((w.alloc (.cells #[.int .i64 0, .int .i64 0, .int .i64 0] 42)).alloc (.cells #[.int .i64 1, .int .i64 0, .int .i64 0] 42)).alloc (.cells #[.int .i64 0] 52)).heap.size = w.heap.size + 3) := hid (by simp)
 go_enter Tryd.func11, Tryd.ntmps11
 go_wp2_with (first
  | (
   go_at_call 20
   with_reducible refine HC1.out.mono ?_
   rintro ev Wa ⟨rfl, va, hva, hpa⟩
   obtain rfl : va = .int .i64 k1 := hva
   have a4 := cell_of hpa.cell
   have kWa := hid (kA0.out.hit hpa (by omega))
   have a3 := (hpa.keep (w.heap.size + 1) (lt_of_heap G3.out) (by omega)).trans G3.out
   have a2 := (hpa.keep w.heap.size (lt_of_heap G2.out) (by omega)).trans G2.out
   have hza : w.heap.size + 2 < Wa.heap.size + 1 := by have h1 := lt_of_heap a3; omega
   obtain ⟨⟨ap0, ap1, ap2⟩, aq0, aq1, aq2⟩ := cells3 a3
   obtain ⟨⟨ar0, ar1, ar2⟩, as0, as1, as2⟩ := cells3 a2
   replace a3 := hid a3
   replace a2 := hid a2
   replace hpa := hid hpa
   have kA1 : Hidn (Keep w ((Wa.setCell ⟨w.heap.size + 1, 0, none⟩ (.int .i64 k1)).alloc (.cells #[.pointer none] 55))) := hid ((kWa.out.set ⟨w.heap.size + 1, 0, none⟩ (.int .i64 k1) (Nat.le_succ _)).alloc _)
   have HC2 := hid (As_sec M e (.iface tt xx) ((Wa.setCell ⟨w.heap.size + 1, 0, none⟩ (.int .i64 k1)).alloc (.cells #[.pointer none] 55)) Wa.heap.size (.pointer none) hne (kA1.out.err HR.out) (kA1.out.cell HG.out) (heap_new _ _ _ (by simp)))
   rw [H2.out] at HC2
   have G32 := hid (heap_old _ (.cells #[.pointer none] 55) (heap_set3a Wa (.int .i64 k1) a3.out))
   have G22 := hid (heap_old _ (.cells #[.pointer none] 55) (heap_set_ne Wa ⟨w.heap.size + 1, 0, none⟩ (.int .i64 k1) a2.out (by simp))))
  | (
   go_at_call 20
   with_reducible refine HC2.out.mono ?_
   rintro ev Wb ⟨rfl, hpb⟩
   have kWb := hid (kA1.out.more hpb)
   have b3 := (hpb.keep (w.heap.size + 1) (lt_of_heap G32.out)).trans G32.out
   have b2 := (hpb.keep w.heap.size (lt_of_heap G22.out)).trans G22.out
   have hzb : w.heap.size + 2 < Wb.heap.size + 1 := by have h1 := lt_of_heap b3; omega
   obtain ⟨⟨bp0, bp1, bp2⟩, bq0, bq1, bq2⟩ := cells3 b3
   obtain ⟨⟨br0, br1, br2⟩, bs0, bs1, bs2⟩ := cells3 b2
   replace b3 := hid b3
   replace b2 := hid b2
   replace hpb := hid hpb
   have kA2 : Hidn (Keep w (Wb.alloc (.cells #[.pointer none] 59))) := hid (kWb.out.alloc _)
   have HC3 := hid (As_plc M e (.iface tt xx) (Wb.alloc (.cells #[.pointer none] 59)) Wb.heap.size (.pointer none) hne (kA2.out.err HR.out) (kA2.out.cell HG.out) (heap_new _ _ _ (by simp)))
   rw [H3.out] at HC3
   have G33 := hid (heap_old _ (.cells #[.pointer none] 59) (b3.out))
   have G23 := hid (heap_old _ (.cells #[.pointer none] 59) (b2.out)))
  | (
   go_at_call 20
   with_reducible refine HC3.out.mono ?_
   rintro ev Wc ⟨rfl, hpc⟩
   have kWc := hid (kA2.out.more hpc)
   have c3 := (hpc.keep (w.heap.size + 1) (lt_of_heap G33.out)).trans G33.out
   have c2 := (hpc.keep w.heap.size (lt_of_heap G23.out)).trans G23.out
   have hzc : w.heap.size + 2 < Wc.heap.size + 1 := by have h1 := lt_of_heap c3; omega
   obtain ⟨⟨cp0, cp1, cp2⟩, cq0, cq1, cq2⟩ := cells3 c3
   obtain ⟨⟨cr0, cr1, cr2⟩, cs0, cs1, cs2⟩ := cells3 c2
   replace c3 := hid c3
   replace c2 := hid c2
   replace hpc := hid hpc
   skip))
 refine bodyPost_ret (v := .agg #[.int .i64 k1, .int .i64 0, .int .i64 0]) (by simp [results, Tryd.results11, go_sem, cp0, cp1, cp2, cr0, cr1, cr2, cs0, cs1, cs2, cq0, cq1, cq2]) rfl ⟨rfl, ?_⟩
 repeat (first | exact kWc.out | refine Keep.set ?_ _ _ (by simp; done) | refine Keep.alloc ?_ _)
set_option maxHeartbeats 1000000 in
theorem of_mhh (M : Nat -> Prop) (e : Err) (ve : Value) (w : World) (hne : e ≠ .nil) (hr : RepErr I M w e ve) (hg : w.cell? ⟨0, 0, none⟩ = some (.iface tRT (.agg #[.pointer (some ⟨GB, 30, none⟩)])))
 (k2 : Int) (k3 : Int) (h1 : asCls e = none) (h2 : asSec e = some k2) (h3 : asPlc e = some k3) :
 Calls Tryd.prog 11 #[ve] w fun ev w' => ev = .returned (.agg #[.int .i64 1, .int .i64 k2, .int .i64 k3]) /\ Keep w w' := by
 have hvn : ∃ tt xx, ve = .iface tt xx := by
  cases e with
  | nil => exact absurd rfl hne
  | cls k => exact ⟨_, _, hr⟩
  | sec m e2 => obtain ⟨b, v2, t2, f2, h, _⟩ := hr; exact ⟨_, _, h⟩
  | plc m e2 => obtain ⟨b, v2, t2, f2, h, _⟩ := hr; exact ⟨_, _, h⟩
 obtain ⟨tt, xx, rfl⟩ := hvn
 have HR := hid hr
 have HG := hid hg
 have H1 := hid h1
 have H2 := hid h2
 have H3 := hid h3
 clear hr hg h1 h2 h3
 have kA0 : Hidn (Keep w (((w.alloc (.cells #[.int .i64 0, .int .i64 0, .int .i64 0] 42)).alloc (.cells #[.int .i64 1, .int .i64 0, .int .i64 0] 42)).alloc (.cells #[.int .i64 0] 52))) := hid ((((Keep.refl w).alloc _).alloc _).alloc _)
 have HC1 := hid (As_cls M e (.iface tt xx) (((w.alloc (.cells #[.int .i64 0, .int .i64 0, .int .i64 0] 42)).alloc (.cells #[.int .i64 1, .int .i64 0, .int .i64 0] 42)).alloc (.cells #[.int .i64 0] 52)) (w.heap.size + 1 + 1) (.int .i64 0) hne (kA0.out.err HR.out) (kA0.out.cell HG.out) (heap_new _ _ _ (by simp)))
 rw [H1.out] at HC1
 have G3 : Hidn ((((w.alloc (.cells #[.int .i64 0, .int .i64 0, .int .i64 0] 42)).alloc (.cells #[.int .i64 1, .int .i64 0, .int .i64 0] 42)).alloc (.cells #[.int .i64 0] 52)).heap[(w.heap.size + 1)]? = some (.cells #[.int .i64 1, .int .i64 0, .int .i64 0] 42 (0, 0))) := hid (heap_old _ _ (heap_new _ _ _ (by simp)))
 have G2 : Hidn ((((w.alloc (.cells #[.int .i64 0, .int .i64 0, .int .i64 0] 42)).alloc (.cells #[.int .i64 1, .int .i64 0, .int .i64 0] 42)).alloc (.cells #[.int .i64 0] 52)).heap[w.heap.size]? = some (.cells #[.int .i64 0, .int .i64 0, .int .i64 0] 42 (0, 0))) := hid (heap_old _ _ (heap_old _ _ (heap_new _ _ _ rfl)))
 have G4 : Hidn ((((w.alloc (.cells #[.int .i64 0, .int .i64 0, .int .i64 0] 42)).alloc (.cells #[.int .i64 1, .int .i64 0, .int .i64 0] 42)).alloc (.cells #[.int .i64 0] 52)).heap.size = w.heap.size + 3) := hid (by simp)
 go_enter Tryd.func11, Tryd.ntmps11
 go_wp2_with (first
  | (
   go_at_call 20
   with_reducible refine HC1.out.mono ?_
   rintro ev Wa ⟨rfl, hpa⟩
   have kWa := hid (kA0.out.more hpa)
   have a3 := (hpa.keep (w.heap.size + 1) (lt_of_heap G3.out)).trans G3.out
   have a2 := (hpa.keep w.heap.size (lt_of_heap G2.out)).trans G2.out
   have hza : w.heap.size + 2 < Wa.heap.size + 1 := by have h1 := lt_of_heap a3; omega
   obtain ⟨⟨ap0, ap1, ap2⟩, aq0, aq1, aq2⟩ := cells3 a3
   obtain ⟨⟨ar0, ar1, ar2⟩, as0, as1, as2⟩ := cells3 a2
   replace a3 := hid a3
   replace a2 := hid a2
   replace hpa := hid hpa
   have kA1 : Hidn (Keep w (Wa.alloc (.cells #[.pointer none] 55))) := hid (kWa.out.alloc _)
   have HC2 := hid (As_sec M e (.iface tt xx) (Wa.alloc (.cells #[.pointer none] 55)) Wa.heap.size (.pointer none) hne (kA1.out.err HR.out) (kA1.out.cell HG.out) (heap_new _ _ _ (by simp)))
   rw [H2.out] at HC2
   have G32 := hid (heap_old _ (.cells #[.pointer none] 55) (a3.out))
   have G22 := hid (heap_old _ (.cells #[.pointer none] 55) (a2.out)))
  | (
   go_at_call 20
   with_reducible refine HC2.out.mono ?_
   rintro ev Wb ⟨rfl, vb, hvb, hpb⟩
   obtain ⟨bb, veb, tb, frb, rfl, hbb⟩ := hvb
   have b5 := (cells2 hbb).1
   replace hbb := hid hbb
   have b4 := cell_of hpb.cell
   have kWb := hid (kA1.out.hit hpb (by have := hza; omega))
   have b3 := (hpb.keep (w.heap.size + 1) (lt_of_heap G32.out) (by have := hza; omega)).trans G32.out
   have b2 := (hpb.keep w.heap.size (lt_of_heap G22.out) (by have := hza; omega)).trans G22.out
   have hzb : w.heap.size + 2 < Wb.heap.size + 1 := by have h1 := lt_of_heap b3; omega
   obtain ⟨⟨bp0, bp1, bp2⟩, bq0, bq1, bq2⟩ := cells3 b3
   obtain ⟨⟨br0, br1, br2⟩, bs0, bs1, bs2⟩ := cells3 b2
   replace b3 := hid b3
   replace b2 := hid b2
   replace hpb := hid hpb
   have kA2 : Hidn (Keep w ((Wb.setCell ⟨w.heap.size + 1, 1, none⟩ (.int .i64 k2)).alloc (.cells #[.pointer none] 59))) := hid ((kWb.out.set ⟨w.heap.size + 1, 1, none⟩ (.int .i64 k2) (Nat.le_succ _)).alloc _)
   have HC3 := hid (As_plc M e (.iface tt xx) ((Wb.setCell ⟨w.heap.size + 1, 1, none⟩ (.int .i64 k2)).alloc (.cells #[.pointer none] 59)) Wb.heap.size (.pointer none) hne (kA2.out.err HR.out) (kA2.out.cell HG.out) (heap_new _ _ _ (by simp)))
   rw [H3.out] at HC3
   have G33 := hid (heap_old _ (.cells #[.pointer none] 59) (heap_set3b Wb (.int .i64 k2) b3.out))
   have G23 := hid (heap_old _ (.cells #[.pointer none] 59) (heap_set_ne Wb ⟨w.heap.size + 1, 1, none⟩ (.int .i64 k2) b2.out (by simp))))
  | (
   go_at_call 20
   with_reducible refine HC3.out.mono ?_
   rintro ev Wc ⟨rfl, vc, hvc, hpc⟩
   obtain ⟨bc, vec, tc, frc, rfl, hbc⟩ := hvc
   have c5 := (cells2 hbc).1
   replace hbc := hid hbc
   have c4 := cell_of hpc.cell
   have kWc := hid (kA2.out.hit hpc (by have := hzb; omega))
   have c3 := (hpc.keep (w.heap.size + 1) (lt_of_heap G33.out) (by have := hzb; omega)).trans G33.out
   have c2 := (hpc.keep w.heap.size (lt_of_heap G23.out) (by have := hzb; omega)).trans G23.out
   have hzc : w.heap.size + 2 < Wc.heap.size + 1 := by have h1 := lt_of_heap c3; omega
   obtain ⟨⟨cp0, cp1, cp2⟩, cq0, cq1, cq2⟩ := cells3 c3
   obtain ⟨⟨cr0, cr1, cr2⟩, cs0, cs1, cs2⟩ := cells3 c2
   replace c3 := hid c3
   replace c2 := hid c2
   replace hpc := hid hpc
   skip))
 refine bodyPost_ret (v := .agg #[.int .i64 1, .int .i64 k2, .int .i64 k3]) (by simp [results, Tryd.results11, go_sem, cp0, cp1, cp2, cr0, cr1, cr2, cs0, cs1, cs2, cq0, cq1, cq2]) rfl ⟨rfl, ?_⟩
 repeat (first | exact kWc.out | refine Keep.set ?_ _ _ (by simp; done) | refine Keep.alloc ?_ _)
set_option maxHeartbeats 1000000 in
theorem of_mhm (M : Nat -> Prop) (e : Err) (ve : Value) (w : World) (hne : e ≠ .nil) (hr : RepErr I M w e ve) (hg : w.cell? ⟨0, 0, none⟩ = some (.iface tRT (.agg #[.pointer (some ⟨GB, 30, none⟩)])))
 (k2 : Int) (h1 : asCls e = none) (h2 : asSec e = some k2) (h3 : asPlc e = none) :
 Calls Tryd.prog 11 #[ve] w fun ev w' => ev = .returned (.agg #[.int .i64 1, .int .i64 k2, .int .i64 0]) /\ Keep w w' := by
 have hvn : ∃ tt xx, ve = .iface tt xx := by
  cases e with
  | nil => exact absurd rfl hne
  | cls k => exact ⟨_, _, hr⟩
  | sec m e2 => obtain ⟨b, v2, t2, f2, h, _⟩ := hr; exact ⟨_, _, h⟩
  | plc m e2 => obtain ⟨b, v2, t2, f2, h, _⟩ := hr; exact ⟨_, _, h⟩
 obtain ⟨tt, xx, rfl⟩ := hvn
 have HR := hid hr
 have HG := hid hg
 have H1 := hid h1
 have H2 := hid h2
 have H3 := hid h3
 clear hr hg h1 h2 h3
 have kA0 : Hidn (Keep w (((w.alloc (.cells #[.int .i64 0, .int .i64 0, .int .i64 0] 42)).alloc (.cells #[.int .i64 1, .int .i64 0, .int .i64 0] 42)).alloc (.cells #[.int .i64 0] 52))) := hid ((((Keep.refl w).alloc _).alloc _).alloc _)
 have HC1 := hid (As_cls M e (.iface tt xx) (((w.alloc (.cells #[.int .i64 0, .int .i64 0, .int .i64 0] 42)).alloc (.cells #[.int .i64 1, .int .i64 0, .int .i64 0] 42)).alloc (.cells #[.int .i64 0] 52)) (w.heap.size + 1 + 1) (.int .i64 0) hne (kA0.out.err HR.out) (kA0.out.cell HG.out) (heap_new _ _ _ (by simp)))
 rw [H1.out] at HC1
 have G3 : Hidn ((((w.alloc (.cells #[.int .i64 0, .int .i64 0, .int .i64 0] 42)).alloc (.cells #[.int .i64 1, .int .i64 0, .int .i64 0] 42)).alloc (.cells #[.int .i64 0] 52)).heap[(w.heap.size + 1)]? = some (.cells #[.int .i64 1, .int .i64 0, .int .i64 0] 42 (0, 0))) := hid (heap_old _ _ (heap_new _ _ _ (by simp)))
 have G2 : Hidn ((((w.alloc (.cells #[.int .i64 0, .int .i64 0, .int .i64 0] 42)).alloc (.cells #[.int .i64 1, .int .i64 0, .int .i64 0] 42)).alloc (.cells #[.int .i64 0] 52)).heap[w.heap.size]? = some (.cells #[.int .i64 0, .int .i64 0, .int .i64 0] 42 (0, 0))) := hid (heap_old _ _ (heap_old _ _ (heap_new _ _ _ rfl)))
 have G4 : Hidn ((((w.alloc (.cells #[.int .i64 0, .int .i64 0, .int .i64 0] 42)).alloc (.cells #[.int .i64 1, .int .i64 0, .int .i64 0] 42)).alloc (.cells #[.int .i64 0] 52)).heap.size = w.heap.size + 3) := hid (by simp)
 go_enter Tryd.func11, Tryd.ntmps11
 go_wp2_with (first
  | (
   go_at_call 20
   with_reducible refine HC1.out.mono ?_
   rintro ev Wa ⟨rfl, hpa⟩
   have kWa := hid (kA0.out.more hpa)
   have a3 := (hpa.keep (w.heap.size + 1) (lt_of_heap G3.out)).trans G3.out
   have a2 := (hpa.keep w.heap.size (lt_of_heap G2.out)).trans G2.out
   have hza : w.heap.size + 2 < Wa.heap.size + 1 := by have h1 := lt_of_heap a3; omega
   obtain ⟨⟨ap0, ap1, ap2⟩, aq0, aq1, aq2⟩ := cells3 a3
   obtain ⟨⟨ar0, ar1, ar2⟩, as0, as1, as2⟩ := cells3 a2
   replace a3 := hid a3
   replace a2 := hid a2
   replace hpa := hid hpa
   have kA1 : Hidn (Keep w (Wa.alloc (.cells #[.pointer none] 55))) := hid (kWa.out.alloc _)
   have HC2 := hid (As_sec M e (.iface tt xx) (Wa.alloc (.cells #[.pointer none] 55)) Wa.heap.size (.pointer none) hne (kA1.out.err HR.out) (kA1.out.cell HG.out) (heap_new _ _ _ (by simp)))
   rw [H2.out] at HC2
   have G32 := hid (heap_old _ (.cells #[.pointer none] 55) (a3.out))
   have G22 := hid (heap_old _ (.cells #[.pointer none] 55) (a2.out)))
  | (
   go_at_call 20
   with_reducible refine HC2.out.mono ?_
   rintro ev Wb ⟨rfl, vb, hvb, hpb⟩
   obtain ⟨bb, veb, tb, frb, rfl, hbb⟩ := hvb
   have b5 := (cells2 hbb).1
   replace hbb := hid hbb
   have b4 := cell_of hpb.cell
   have kWb := hid (kA1.out.hit hpb (by have := hza; omega))
   have b3 := (hpb.keep (w.heap.size + 1) (lt_of_heap G32.out) (by have := hza; omega)).trans G32.out
   have b2 := (hpb.keep w.heap.size (lt_of_heap G22.out) (by have := hza; omega)).trans G22.out
   have hzb : w.heap.size + 2 < Wb.heap.size + 1 := by have h1 := lt_of_heap b3; omega
   obtain ⟨⟨bp0, bp1, bp2⟩, bq0, bq1, bq2⟩ := cells3 b3
   obtain ⟨⟨br0, br1, br2⟩, bs0, bs1, bs2⟩ := cells3 b2
   replace b3 := hid b3
   replace b2 := hid b2
   replace hpb := hid hpb
   have kA2 : Hidn (Keep w ((Wb.setCell ⟨w.heap.size + 1, 1, none⟩ (.int .i64 k2)).alloc (.cells #[.pointer none] 59))) := hid ((kWb.out.set ⟨w.heap.size + 1, 1, none⟩ (.int .i64 k2) (Nat.le_succ _)).alloc _)
   have HC3 := hid (As_plc M e (.iface tt xx) ((Wb.setCell ⟨w.heap.size + 1, 1, none⟩ (.int .i64 k2)).alloc (.cells #[.pointer none] 59)) Wb.heap.size (.pointer none) hne (kA2.out.err HR.out) (kA2.out.cell HG.out) (heap_new _ _ _ (by simp)))
   rw [H3.out] at HC3
   have G33 := hid (heap_old _ (.cells #[.pointer none] 59) (heap_set3b Wb (.int .i64 k2) b3.out))
   have G23 := hid (heap_old _ (.cells #[.pointer none] 59) (heap_set_ne Wb ⟨w.heap.size + 1, 1, none⟩ (.int .i64 k2) b2.out (by simp))))
  | (
   go_at_call 20
   with_reducible refine HC3.out.mono ?_
   rintro ev Wc ⟨rfl, hpc⟩
   have kWc := hid (kA2.out.more hpc)
   have c3 := (hpc.keep (w.heap.size + 1) (lt_of_heap G33.out)).trans G33.out
   have c2 := (hpc.keep w.heap.size (lt_of_heap G23.out)).trans G23.out
   have hzc : w.heap.size + 2 < Wc.heap.size + 1 := by have h1 := lt_of_heap c3; omega
   obtain ⟨⟨cp0, cp1, cp2⟩, cq0, cq1, cq2⟩ := cells3 c3
   obtain ⟨⟨cr0, cr1, cr2⟩, cs0, cs1, cs2⟩ := cells3 c2
   replace c3 := hid c3
   replace c2 := hid c2
   replace hpc := hid hpc
   skip))
 refine bodyPost_ret (v := .agg #[.int .i64 1, .int .i64 k2, .int .i64 0]) (by simp [results, Tryd.results11, go_sem, cp0, cp1, cp2, cr0, cr1, cr2, cs0, cs1, cs2, cq0, cq1, cq2]) rfl ⟨rfl, ?_⟩
 repeat (first | exact kWc.out | refine Keep.set ?_ _ _ (by simp; done) | refine Keep.alloc ?_ _)
set_option maxHeartbeats 1000000 in
theorem of_mmh (M : Nat -> Prop) (e : Err) (ve : Value) (w : World) (hne : e ≠ .nil) (hr : RepErr I M w e ve) (hg : w.cell? ⟨0, 0, none⟩ = some (.iface tRT (.agg #[.pointer (some ⟨GB, 30, none⟩)])))
 (k3 : Int) (h1 : asCls e = none) (h2 : asSec e = none) (h3 : asPlc e = some k3) :
 Calls Tryd.prog 11 #[ve] w fun ev w' => ev = .returned (.agg #[.int .i64 1, .int .i64 0, .int .i64 k3]) /\ Keep w w' := by
 have hvn : ∃ tt xx, ve = .iface tt xx := by
  cases e with
  | nil => exact absurd rfl hne
  | cls k => exact ⟨_, _, hr⟩
  | sec m e2 => obtain ⟨b, v2, t2, f2, h, _⟩ := hr; exact ⟨_, _, h⟩
  | plc m e2 => obtain ⟨b, v2, t2, f2, h, _⟩ := hr; exact ⟨_, _, h⟩
 obtain ⟨tt, xx, rfl⟩ := hvn
 have HR := hid hr
 have HG := hid hg
 have H1 := hid h1
 have H2 := hid h2
 have H3 := hid h3
 clear hr hg h1 h2 h3
 have kA0 : Hidn (Keep w (((w.alloc (.cells #[.int .i64 0, .int .i64 0, .int .i64 0] 42)).alloc (.cells #[.int .i64 1, .int .i64 0, .int .i64 0] 42)).alloc (.cells #[.int .i64 0] 52))) := hid ((((Keep.refl w).alloc _).alloc _).alloc _)
 have HC1 := hid (As_cls M e (.iface tt xx) (((w.alloc (.cells #[.int .i64 0, .int .i64 0, .int .i64 0] 42)).alloc (.cells #[.int .i64 1, .int .i64 0, .int .i64 0] 42)).alloc (.cells #[.int .i64 0] 52)) (w.heap.size + 1 + 1) (.int .i64 0) hne (kA0.out.err HR.out) (kA0.out.cell HG.out) (heap_new _ _ _ (by simp)))
 rw [H1.out] at HC1
 have G3 : Hidn ((((w.alloc (.cells #[.int .i64 0, .int .i64 0, .int .i64 0] 42)).alloc (.cells #[.int .i64 1, .int .i64 0, .int .i64 0] 42)).alloc (.cells #[.int .i64 0] 52)).heap[(w.heap.size + 1)]? = some (.cells #[.int .i64 1, .int .i64 0, .int .i64 0] 42 (0, 0))) := hid (heap_old _ _ (heap_new _ _ _ (by simp)))
 have G2 : Hidn ((((w.alloc (.cells #[.int .i64 0, .int .i64 0, .int .i64 0] 42)).alloc (.cells #[.int .i64 1, .int .i64 0, .int .i64 0] 42)).alloc (.cells #[.int .i64 0] 52)).heap[w.heap.size]? = some (.cells #[.int .i64 0, .int .i64 0, .int .i64 0] 42 (0, 0))) := hid (heap_old _ _ (heap_old _ _ (heap_new _ _ _ rfl)))
 have G4 : Hidn ((((w.alloc (.cells #[.int .i64 0, .int .i64 0, .int .i64 0] 42)).alloc (.cells #[.int .i64 1, .int .i64 0, .int .i64 0] 42)).alloc (.cells #[.int .i64 0] 52)).heap.size = w.heap.size + 3) := hid (by simp)
 go_enter Tryd.func11, Tryd.ntmps11
 go_wp2_with (first
  | (
   go_at_call 20
   with_reducible refine HC1.out.mono ?_
   rintro ev Wa ⟨rfl, hpa⟩
   have kWa := hid (kA0.out.more hpa)
   have a3 := (hpa.keep (w.heap.size + 1) (lt_of_heap G3.out)).trans G3.out
   have a2 := (hpa.keep w.heap.size (lt_of_heap G2.out)).trans G2.out
   have hza : w.heap.size + 2 < Wa.heap.size + 1 := by have h1 := lt_of_heap a3; omega
   obtain ⟨⟨ap0, ap1, ap2⟩, aq0, aq1, aq2⟩ := cells3 a3
   obtain ⟨⟨ar0, ar1, ar2⟩, as0, as1, as2⟩ := cells3 a2
   replace a3 := hid a3
   replace a2 := hid a2
   replace hpa := hid hpa
   have kA1 : Hidn (Keep w (Wa.alloc (.cells #[.pointer none] 55))) := hid (kWa.out.alloc _)
   have HC2 := hid (As_sec M e (.iface tt xx) (Wa.alloc (.cells #[.pointer none] 55)) Wa.heap.size (.pointer none) hne (kA1.out.err HR.out) (kA1.out.cell HG.out) (heap_new _ _ _ (by simp)))
   rw [H2.out] at HC2
   have G32 := hid (heap_old _ (.cells #[.pointer none] 55) (a3.out))
   have G22 := hid (heap_old _ (.cells #[.pointer none] 55) (a2.out)))
  | (
   go_at_call 20
   with_reducible refine HC2.out.mono ?_
   rintro ev Wb ⟨rfl, hpb⟩
   have kWb := hid (kA1.out.more hpb)
   have b3 := (hpb.keep (w.heap.size + 1) (lt_of_heap G32.out)).trans G32.out
   have b2 := (hpb.keep w.heap.size (lt_of_heap G22.out)).trans G22.out
   have hzb : w.heap.size + 2 < Wb.heap.size + 1 := by have h1 := lt_of_heap b3; omega
   obtain ⟨⟨bp0, bp1, bp2⟩, bq0, bq1, bq2⟩ := cells3 b3
   obtain ⟨⟨br0, br1, br2⟩, bs0, bs1, bs2⟩ := cells3 b2
   replace b3 := hid b3
   replace b2 := hid b2
   replace hpb := hid hpb
   have kA2 : Hidn (Keep w (Wb.alloc (.cells #[.pointer none] 59))) := hid (kWb.out.alloc _)
   have HC3 := hid (As_plc M e (.iface tt xx) (Wb.alloc (.cells #[.pointer none] 59)) Wb.heap.size (.pointer none) hne (kA2.out.err HR.out) (kA2.out.cell HG.out) (heap_new _ _ _ (by simp)))
   rw [H3.out] at HC3
   have G33 := hid (heap_old _ (.cells #[.pointer none] 59) (b3.out))
   have G23 := hid (heap_old _ (.cells #[.pointer none] 59) (b2.out)))
  | (
   go_at_call 20
   with_reducible refine HC3.out.mono ?_
   rintro ev Wc ⟨rfl, vc, hvc, hpc⟩
   obtain ⟨bc, vec, tc, frc, rfl, hbc⟩ := hvc
   have c5 := (cells2 hbc).1
   replace hbc := hid hbc
   have c4 := cell_of hpc.cell
   have kWc := hid (kA2.out.hit hpc (by have := hzb; omega))
   have c3 := (hpc.keep (w.heap.size + 1) (lt_of_heap G33.out) (by have := hzb; omega)).trans G33.out
   have c2 := (hpc.keep w.heap.size (lt_of_heap G23.out) (by have := hzb; omega)).trans G23.out
   have hzc : w.heap.size + 2 < Wc.heap.size + 1 := by have h1 := lt_of_heap c3; omega
   obtain ⟨⟨cp0, cp1, cp2⟩, cq0, cq1, cq2⟩ := cells3 c3
   obtain ⟨⟨cr0, cr1, cr2⟩, cs0, cs1, cs2⟩ := cells3 c2
   replace c3 := hid c3
   replace c2 := hid c2
   replace hpc := hid hpc
   skip))
 refine bodyPost_ret (v := .agg #[.int .i64 1, .int .i64 0, .int .i64 k3]) (by simp [results, Tryd.results11, go_sem, cp0, cp1, cp2, cr0, cr1, cr2, cs0, cs1, cs2, cq0, cq1, cq2]) rfl ⟨rfl, ?_⟩
 repeat (first | exact kWc.out | refine Keep.set ?_ _ _ (by simp; done) | refine Keep.alloc ?_ _)
set_option maxHeartbeats 1000000 in
theorem of_mmm (M : Nat -> Prop) (e : Err) (ve : Value) (w : World) (hne : e ≠ .nil) (hr : RepErr I M w e ve) (hg : w.cell? ⟨0, 0, none⟩ = some (.iface tRT (.agg #[.pointer (some ⟨GB, 30, none⟩)])))
 (h1 : asCls e = none) (h2 : asSec e = none) (h3 : asPlc e = none) :
 Calls Tryd.prog 11 #[ve] w fun ev w' => ev = .returned (.agg #[.int .i64 1, .int .i64 0, .int .i64 0]) /\ Keep w w' := by
 have hvn : ∃ tt xx, ve = .iface tt xx := by
  cases e with
  | nil => exact absurd rfl hne
  | cls k => exact ⟨_, _, hr⟩
  | sec m e2 => obtain ⟨b, v2, t2, f2, h, _⟩ := hr; exact ⟨_, _, h⟩
  | plc m e2 => obtain ⟨b, v2, t2, f2, h, _⟩ := hr; exact ⟨_, _, h⟩
 obtain ⟨tt, xx, rfl⟩ := hvn
 have HR := hid hr
 have HG := hid hg
 have H1 := hid h1
 have H2 := hid h2
 have H3 := hid h3
 clear hr hg h1 h2 h3
 have kA0 : Hidn (Keep w (((w.alloc (.cells #[.int .i64 0, .int .i64 0, .int .i64 0] 42)).alloc (.cells #[.int .i64 1, .int .i64 0, .int .i64 0] 42)).alloc (.cells #[.int .i64 0] 52))) := hid ((((Keep.refl w).alloc _).alloc _).alloc _)
 have HC1 := hid (As_cls M e (.iface tt xx) (((w.alloc (.cells #[.int .i64 0, .int .i64 0, .int .i64 0] 42)).alloc (.cells #[.int .i64 1, .int .i64 0, .int .i64 0] 42)).alloc (.cells #[.int .i64 0] 52)) (w.heap.size + 1 + 1) (.int .i64 0) hne (kA0.out.err HR.out) (kA0.out.cell HG.out) (heap_new _ _ _ (by simp)))
 rw [H1.out] at HC1
 have G3 : Hidn ((((w.alloc (.cells #[.int .i64 0, .int .i64 0, .int .i64 0] 42)).alloc (.cells #[.int .i64 1, .int .i64 0, .int .i64 0] 42)).alloc (.cells #[.int .i64 0] 52)).heap[(w.heap.size + 1)]? = some (.cells #[.int .i64 1, .int .i64 0, .int .i64 0] 42 (0, 0))) := hid (heap_old _ _ (heap_new _ _ _ (by simp)))
 have G2 : Hidn ((((w.alloc (.cells #[.int .i64 0, .int .i64 0, .int .i64 0] 42)).alloc (.cells #[.int .i64 1, .int .i64 0, .int .i64 0] 42)).alloc (.cells #[.int .i64 0] 52)).heap[w.heap.size]? = some (.cells #[.int .i64 0, .int .i64 0, .int .i64 0] 42 (0, 0))) := hid (heap_old _ _ (heap_old _ _ (heap_new _ _ _ rfl)))
 have G4 : Hidn ((((w.alloc (.cells #[.int .i64 0, .int .i64 0, .int .i64 0] 42)).alloc (.cells #[.int .i64 1, .int .i64 0, .int .i64 0] 42)).alloc (.cells #[.int .i64 0] 52)).heap.size = w.heap.size + 3) := hid (by simp)
 go_enter Tryd.func11, Tryd.ntmps11
 go_wp2_with (first
  | (
   go_at_call 20
   with_reducible refine HC1.out.mono ?_
   rintro ev Wa ⟨rfl, hpa⟩
   have kWa := hid (kA0.out.more hpa)
   have a3 := (hpa.keep (w.heap.size + 1) (lt_of_heap G3.out)).trans G3.out
   have a2 := (hpa.keep w.heap.size (lt_of_heap G2.out)).trans G2.out
   have hza : w.heap.size + 2 < Wa.heap.size + 1 := by have h1 := lt_of_heap a3; omega
   obtain ⟨⟨ap0, ap1, ap2⟩, aq0, aq1, aq2⟩ := cells3 a3
   obtain ⟨⟨ar0, ar1, ar2⟩, as0, as1, as2⟩ := cells3 a2
   replace a3 := hid a3
   replace a2 := hid a2
   replace hpa := hid hpa
   have kA1 : Hidn (Keep w (Wa.alloc (.cells #[.pointer none] 55))) := hid (kWa.out.alloc _)
   have HC2 := hid (As_sec M e (.iface tt xx) (Wa.alloc (.cells #[.pointer none] 55)) Wa.heap.size (.pointer none) hne (kA1.out.err HR.out) (kA1.out.cell HG.out) (heap_new _ _ _ (by simp)))
   rw [H2.out] at HC2
   have G32 := hid (heap_old _ (.cells #[.pointer none] 55) (a3.out))
   have G22 := hid (heap_old _ (.cells #[.pointer none] 55) (a2.out)))
  | (
   go_at_call 20
   with_reducible refine HC2.out.mono ?_
   rintro ev Wb ⟨rfl, hpb⟩
   have kWb := hid (kA1.out.more hpb)
   have b3 := (hpb.keep (w.heap.size + 1) (lt_of_heap G32.out)).trans G32.out
   have b2 := (hpb.keep w.heap.size (lt_of_heap G22.out)).trans G22.out
   have hzb : w.heap.size + 2 < Wb.heap.size + 1 := by have h1 := lt_of_heap b3; omega
   obtain ⟨⟨bp0, bp1, bp2⟩, bq0, bq1, bq2⟩ := cells3 b3
   obtain ⟨⟨br0, br1, br2⟩, bs0, bs1, bs2⟩ := cells3 b2
   replace b3 := hid b3
   replace b2 := hid b2
   replace hpb := hid hpb
   have kA2 : Hidn (Keep w (Wb.alloc (.cells #[.pointer none] 59))) := hid (kWb.out.alloc _)
   have HC3 := hid (As_plc M e (.iface tt xx) (Wb.alloc (.cells #[.pointer none] 59)) Wb.heap.size (.pointer none) hne (kA2.out.err HR.out) (kA2.out.cell HG.out) (heap_new _ _ _ (by simp)))
   rw [H3.out] at HC3
   have G33 := hid (heap_old _ (.cells #[.pointer none] 59) (b3.out))
   have G23 := hid (heap_old _ (.cells #[.pointer none] 59) (b2.out)))
  | (
   go_at_call 20
   with_reducible refine HC3.out.mono ?_
   rintro ev Wc ⟨rfl, hpc⟩
   have kWc := hid (kA2.out.more hpc)
   have c3 := (hpc.keep (w.heap.size + 1) (lt_of_heap G33.out)).trans G33.out
   have c2 := (hpc.keep w.heap.size (lt_of_heap G23.out)).trans G23.out
   have hzc : w.heap.size + 2 < Wc.heap.size + 1 := by have h1 := lt_of_heap c3; omega
   obtain ⟨⟨cp0, cp1, cp2⟩, cq0, cq1, cq2⟩ := cells3 c3
   obtain ⟨⟨cr0, cr1, cr2⟩, cs0, cs1, cs2⟩ := cells3 c2
   replace c3 := hid c3
   replace c2 := hid c2
   replace hpc := hid hpc
   skip))
 refine bodyPost_ret (v := .agg #[.int .i64 1, .int .i64 0, .int .i64 0]) (by simp [results, Tryd.results11, go_sem, cp0, cp1, cp2, cr0, cr1, cr2, cs0, cs1, cs2, cq0, cq1, cq2]) rfl ⟨rfl, ?_⟩
 repeat (first | exact kWc.out | refine Keep.set ?_ _ _ (by simp; done) | refine Keep.alloc ?_ _)
theorem of_any (M : Nat -> Prop) (e : Err) (ve : Value) (w : World) (hr : RepErr I M w e ve) (hg : w.cell? ⟨0, 0, none⟩ = some (.iface tRT (.agg #[.pointer (some ⟨GB, 30, none⟩)]))) :
 Calls Tryd.prog 11 #[ve] w fun ev w' => ev = .returned (.agg #[.int .i64 (ofE e).1, .int .i64 (ofE e).2.1, .int .i64 (ofE e).2.2]) /\ Keep w w' := by
 by_cases hne : e = .nil
 ·subst hne
  simp only [RepErr] at hr
  subst hr
  exact of_nil w
 ·have h0 : ofE e = ((asCls e).getD 1, (asSec e).getD 0, (asPlc e).getD 0) := by
   cases e with
   | nil => exact absurd rfl hne
   | cls k => rfl
   | sec n e => rfl
   | plc n e => rfl
  rw [h0]
  cases h1 : asCls e <;> cases h2 : asSec e <;> cases h3 : asPlc e <;>
  first
  | exact of_mmm M e ve w hne hr hg h1 h2 h3
  | exact of_mmh M e ve w hne hr hg _ h1 h2 h3
  | exact of_mhm M e ve w hne hr hg _ h1 h2 h3
  | exact of_mhh M e ve w hne hr hg _ _ h1 h2 h3
  | exact of_hmm M e ve w hne hr hg _ h1 h2 h3
  | exact of_hmh M e ve w hne hr hg _ _ h1 h2 h3
  | exact of_hhm M e ve w hne hr hg _ _ h1 h2 h3
  | exact of_hhh M e ve w hne hr hg _ _ _ h1 h2 h3
theorem fnOf : FnOk Tryd.prog 11 Tryd.f11 (bodyOf Tryd.f11) := ⟨by kernel_rfl, by kernel_rfl, by kernel_rfl⟩
def ofS : SpecS := fun ys Φ => match ys with
 | [.err e] => Φ [.agg [.int .i64 (ofE e).1, .int .i64 (ofE e).2.1, .int .i64 (ofE e).2.2]]
 | _ => False
theorem of_ok : FunS B 11 ofS := by
 intro Z ys Φ hF w vs hZ hg hv
 unfold ofS at hF
 split at hF
 ·rename_i e
  obtain ⟨v, r, rfl, ⟨⟨v', h1, hr⟩, h2⟩, h3⟩ := hv
  simp only [RepFs] at h3
  subst h3
  have hcell : w.cell? ⟨0, 0, none⟩ = some (.iface tRT (.agg #[.pointer (some ⟨GB, 30, none⟩)])) := by
   obtain ⟨⟨b, base, cells, t, fr, cs, hq, hM, hb, hcs, hcell⟩, _⟩ := hg 0 _ rfl
   simp only [List.cons.injEq, Value.pointer.injEq, Option.some.injEq, Addr.mk.injEq, and_true] at hq
   obtain ⟨rfl, hbase⟩ := hq
   obtain ⟨v, rfl, ha, hr2⟩ := hcs
   obtain ⟨us, hu⟩ : ∃ us, v = .agg us := by
    cases v <;> simp [isAggV, PV.isAgg] at ha
    exact ⟨_, rfl⟩
   subst hu
   obtain ⟨v1, r1, hc1, _, hv1, hr1⟩ := hr2
   simp only [RepF.go] at hr1
   subst hr1
   obtain ⟨hv1, _⟩ := hv1
   simp only [List.cons.injEq, and_true] at hv1
   subst hv1
   have hus : us = #[.pointer (some ⟨GB, 30, none⟩)] := by
    apply Array.ext'
    exact hc1
   subst hus
   have := hcell 0 _ rfl
   simp only [World.cell?, hb]
   have hz : base = 0 := by omega
   subst hz
   simpa using this
  have hve : v = v' := by
   cases v with
   | agg us => cases h2
   | _ => simpa [Value.cells] using h1
  subst hve
  refine .inl ⟨11, #[v], fnOf.call _ _, ?_⟩
  refine (of_any Z e v w hr hcell).mono fun ev w' h => ?_
  obtain ⟨rfl, hk⟩ := h
  refine ⟨_, hF, ?_, hk.toMore⟩
  exact .inr ⟨rfl, _, _, rfl, ⟨rfl, rfl⟩, rfl, _, _, rfl, ⟨rfl, rfl⟩, rfl, _, _, rfl, ⟨rfl, rfl⟩, rfl, rfl⟩
 ·exact hF.elim
end Go.Ab.T
