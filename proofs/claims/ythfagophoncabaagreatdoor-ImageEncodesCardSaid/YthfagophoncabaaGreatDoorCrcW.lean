import Derived.Test.YthfagophoncabaaGreatDoorCrc1
import Derived.Shelf.Abstract
import Derived.WalkKit
import Derived.RangeFuncRecord
import Derived.Laws.Rows
import Derived.Laws.Tables
import Derived.Deep.LoopGhost
import Derived.Lib.Walk
import Derived.Lib.Hide
import Derived.BigCall
import Derived.BigGuard
set_option linter.unusedVariables false
set_option linter.unusedSimpArgs false
set_option linter.unusedSectionVars false
namespace Go.Ab.T
open Go Go.Ab Go.Proofs Go.RowKit
variable [DMode]
set_option maxRecDepth 100000
set_option maxHeartbeats 4000000
theorem one_calls (u : Nat) (hu : u < 4294967296) (w : World) : Calls Tryz.prog 173 #[.int .u32 (u : Int)] w fun e w' => e = .returned (.int .u32 ((step8 u : Nat) : Int)) /\ w' = w := by
 go_enter Tryz.func173, Tryz.ntmps173
 go_wp2
 go_loopg [0, 4] 8 (fun k t0 t4 wr => wr = w /\ ∃ v i : Nat, t0 = .int .u32 (v : Int) /\ t4 = .int .i64 (i : Int) /\ i + k = 8 /\ v < 4294967296 /\ stepIt k v = step8 u)
 case atStart => exact ⟨rfl, u, 0, rfl, rfl, rfl, hu, rfl⟩
 case round =>
  obtain ⟨rfl, v, i, rfl, rfl, hi, hv, hs⟩ := hrel
  by_cases c : i < 8
  ·obtain ⟨m, rfl⟩ : ∃ m, gk = m + 1 := ⟨gk - 1, by omega⟩
   have hs : stepIt m (stepN v) = step8 u := hs
   have hn := stepN_lt hv
   by_cases c2 : v % 2 = 1
   ·have e : bits BinOp.and IntKind.u32 (v : Int) 1 = 1 := by rw [odd32 hv, c2]; rfl
    go_wp2
    go_roundg m
    case measure => omega
    case rel =>
     have hh : (v : Int) / 2 = ((v / 2 : Nat) : Int) := by omega
     have ex : bits BinOp.xor IntKind.u32 ((v : Int) / 2) 3988292384 = ((stepN v : Nat) : Int) := by
      unfold stepN
      rw [if_pos c2, hh]
      exact u32_xorN _ _ (by omega) (by decide)
     exact ⟨rfl, stepN v, i + 1, by rw [ex], by push_cast; rfl, by omega, hn, hs⟩
   ·have e : bits BinOp.and IntKind.u32 (v : Int) 1 = 0 := by rw [odd32 hv]; omega
    go_wp2
    go_roundg m
    case measure => omega
    case rel =>
     have ex : (v : Int) / 2 = ((stepN v : Nat) : Int) := by
      unfold stepN
      rw [if_neg c2]; omega
     exact ⟨rfl, stepN v, i + 1, by rw [ex], by push_cast; rfl, by omega, hn, hs⟩
  ·obtain rfl : gk = 0 := by omega
   have hs : v = step8 u := hs
   subst hs
   go_wp2
   go_ret
   exact ⟨rfl, rfl⟩
def Filled (i : Nat) (cs : Array Value) : Prop := cs.size = 256 /\ (∀ j, j < i -> cs[j]? = some (.int .u32 ((step8 j : Nat) : Int))) /\ ∀ j, j < 256 -> ∃ n : Int, cs[j]? = some (.int .u32 n)
theorem table_calls (w : World) : Calls Tryz.prog 156 #[] w fun e w' => ∃ cs, Filled 256 cs /\ e = .returned (.agg cs) /\ Below w.heap.size w w' := by
 have hal : Tryz.prog.arrayLen 250 = 256 := by simp [Program.arrayLen, Tryz.underlying250]
 go_enter Tryz.func156, Tryz.ntmps156
 go_wp2
 go_loopg [3] 256 (fun k t3 wr => ∃ i : Nat, t3 = .int .i64 (i : Int) /\ i + k = 256 /\ ∃ Z cs, Filled 0 Z /\ Filled i cs /\ wr = (w.alloc (.cells Z 250)).alloc (.cells cs 250))
 case atStart =>
  have hz : Tryz.zeroCells250 = Array.replicate 256 (.int .u32 0) := by kernel_rfl
  have h0 : Filled 0 Tryz.zeroCells250 := by
   rw [hz]
   exact ⟨by simp, fun j hj => by omega, fun j hj => ⟨0, by rw [Array.getElem?_replicate, if_pos hj]⟩⟩
  exact ⟨0, rfl, rfl, _, _, h0, h0, rfl⟩
 case round =>
  obtain ⟨i, rfl, hi, Z, cs, hZ, hcs, rfl⟩ := hrel
  have HZ := Lib.hid hZ
  clear hZ
  have HC := Lib.hid hcs
  clear hcs
  by_cases c : i < 256
  ·obtain ⟨m, rfl⟩ : ∃ m, gk = m + 1 := ⟨gk - 1, by omega⟩
   have hw : IntKind.u32.wrap (i : Int) = (i : Int) := by rw [IntKind.wrap_u32]; omega
   obtain ⟨old, hold⟩ := HC.out.2.2 i c
   have hc1 : ((w.alloc (.cells Z 250)).alloc (.cells cs 250)).cell? ⟨w.heap.size + 1, i, none⟩ = some (.int .u32 old) := by
    rw [World.cell?_alloc_at _ _ _ _ (by simp)]
    exact hold
   have hf1 : ((w.alloc (.cells Z 250)).alloc (.cells cs 250)).frozen? ⟨w.heap.size + 1, i, none⟩ = false := by
    simp
   clear hold
   go_wp2_with (go_at_fn 173)
   refine (one_calls i (by omega) _).mono ?_
   rintro e w' ⟨he, hw'⟩
   subst he
   subst hw'
   go_wp2
   go_roundg m
   case measure => omega
   case rel =>
    refine ⟨i + 1, by push_cast; rfl, by omega, Z, _, HZ.out, ?_, rfl⟩
    obtain ⟨f1, f2, f3⟩ := HC.out
    refine ⟨by simp [f1], fun j hj => ?_, fun j hj => ?_⟩
    ·rw [Array.getElem?_setIfInBounds]
     split
     ·next h => subst h; rw [if_pos (by omega)]
     ·exact f2 j (by omega)
    ·rw [Array.getElem?_setIfInBounds]
     split
     ·next h => rw [if_pos (by omega)]; exact ⟨_, rfl⟩
     ·exact f3 j hj
  ·obtain rfl : gk = 0 := by omega
   obtain rfl : i = 256 := by omega
   obtain ⟨f1, f2, f3⟩ := HC.out
   have HF := Lib.hid f2
   obtain ⟨z1, z2, z3⟩ := HZ.out
   have hi256 : (Tryz.prog.info? 250).map (·.size) = some 256 := by kernel_rfl
   have hall : cs.all (·.oneCell') = true := by
    rw [Array.all_eq_true]
    intro j hj
    obtain ⟨n, hn⟩ := f3 j (by omega)
    have : cs[j] = .int .u32 n := (Array.getElem?_eq_some_iff.1 hn).2
    rw [this]; rfl
   clear f2 f3 z2 z3
   go_wp2
   refine wp_load_row 250 (.tmp 1) rfl (w.heap.size + 1) rfl 250 cs (0, 0) _ ?_ Tryz.underlying250 rfl (by rw [hi256, f1]) ?_
   ·have := World.alloc_heap_new (w.alloc (.cells Z 250)) (.cells cs 250)
    simpa using this
   have hg0 : ((w.alloc (.cells Z 250)).alloc (.cells cs 250)).heap[w.heap.size]? = some (.cells Z 250 (0, 0)) :=
    (Below.heap_alloc (w.alloc (.cells Z 250)) _ w.heap.size (by simp)).trans (World.alloc_heap_new w _)
   have hst : (storeCells ⟨w.heap.size, 0, none⟩ cs.toList).run Tryz.prog ((w.alloc (.cells Z 250)).alloc (.cells cs 250)) = .ok () (((w.alloc (.cells Z 250)).alloc (.cells cs 250)).setRow w.heap.size cs) := by
    have := run_storeCells_from (P := Tryz.prog) w.heap.size 250 cs.toList 0 Z _ hg0 (by simp; omega) (fun v hv => (Array.all_eq_true_iff_forall_mem.1 hall) v (by simpa using hv))
    simpa using this
   have hg1 := Lib.hid (setRow_heap _ _ _ cs _ _ hg0)
   clear hall hg0
   go_wp2
   refine bodyPost_ret (results_cell_row rfl _ _ w.heap.size 250 cs (0, 0) _ rfl hg1.out Tryz.underlying250 rfl (by rw [hi256, f1])) rfl ?_
   refine ⟨cs, ⟨f1, HF.out, ?_⟩, rfl, ?_⟩
   ·intro j hj
    exact ⟨_, HF.out j hj⟩
   ·refine ⟨rfl, rfl, rfl, by simp; omega, fun b hb => ?_⟩
    rw [setRow_other _ _ _ _ (by omega)]
    exact (Below.heap_alloc _ _ b (by simp; omega)).trans (Below.heap_alloc _ _ b hb)
end Go.Ab.T
