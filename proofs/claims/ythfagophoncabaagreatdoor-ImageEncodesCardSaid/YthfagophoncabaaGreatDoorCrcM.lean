import Derived.Test.YthfagophoncabaaGreatDoorCrcN
import Derived.RegionTactic
set_option linter.unusedVariables false
set_option linter.unusedSimpArgs false
set_option linter.unusedSectionVars false
namespace Go.Ab.T
open Go Go.Ab Go.Proofs Go.RowKit
variable [DMode]
set_option maxRecDepth 100000
set_option maxHeartbeats 4000000
theorem write_calls (s : ByteArray) (hs : s.size < 4611686018427387904) (B : Nat) (w : World) (R0 : Array Value) (v0 : Nat) (hv0 : v0 < 4294967296) (hR0 : Hsh v0 0 R0) (hw : w.heap[B]? = some (.cells R0 253 (0, 0))) :
 Calls Tryz.prog 120 #[.pointer (some ⟨B, 0, none⟩), .string s] w fun e w' =>
  ∃ R x, Hsh (crcV v0 s.data.toList) (s.size : Int) R /\ w'.heap[B]? = some (.cells R 253 (0, 0)) /\ Below B w w' /\ e = .returned x := by
 have hal : Tryz.prog.arrayLen 250 = 256 := by simp [Program.arrayLen, Tryz.underlying250]
 have HR := Lib.hid hR0
 clear hR0
 go_enter Tryz.func120, Tryz.ntmps120
 go_wp2
 go_loopg [7] s.size (fun k t7 wr => ∃ i v : Nat, t7 = .int .i64 (i : Int) /\ i + k = s.size /\ v < 4294967296 /\ crcV v (s.data.toList.drop i) = crcV v0 s.data.toList /\ ∃ R, Hsh v 0 R /\ wr.heap[B]? = some (.cells R 253 (0, 0)) /\ Below B w wr)
 case atStart => exact ⟨0, v0, rfl, by omega, hv0, rfl, R0, HR.out, hw, Below.refl B w⟩
 case round =>
  obtain ⟨i, v, rfl, hi, hv, hcr, R, hR, hB, hbel⟩ := hrel
  have HS := Lib.hid hR
  clear hR
  have HB := Lib.hid hbel
  clear hbel
  by_cases c : i < s.size
  ·obtain ⟨m, rfl⟩ : ∃ m, gk = m + 1 := ⟨gk - 1, by omega⟩
   obtain ⟨f1, f2, f3, f4⟩ := HS.out
   have hci : (i : Int) < (s.size : Int) := by omega
   have hci0 : (0 : Int) <= (i : Int) := by omega
   have hb2 := (s[i]'c).toNat_lt
   have hx : (v % 256) ^^^ (s[i]'c).toNat < 256 := Nat.xor_lt_two_pow (n := 8) (by omega) (by omega)
   generalize hxe : (v % 256) ^^^ (s[i]'c).toNat = x at hx
   have hx1 : (x : Int) < 256 := by omega
   have hx0 : ¬ (x : Int) < 0 := by omega
   have e1 : IntKind.u8.wrap (v : Int) = ((v % 256 : Nat) : Int) := by rw [IntKind.wrap_u8]; omega
   have e2 : bits BinOp.xor IntKind.u8 ((v % 256 : Nat) : Int) (((s[i]'c).toNat : Nat) : Int) = (x : Int) := by rw [<- hxe]; exact Go.u8_xor_nat _ _ (by omega) (by omega)
   have e3 : bits BinOp.xor IntKind.u8 ((v : Int) % 256) (((s[i]'c).toNat : Nat) : Int) = (x : Int) := by rw [<- e2]; congr 1
   have e4 : bits BinOp.xor IntKind.u8 (IntKind.u8.wrap (v : Int)) (((s[i]'c).toNat : Nat) : Int) = (x : Int) := by rw [e1, e2]
   clear e1 e2
   have hc1 : wr.cell? ⟨B, 256, none⟩ = some (.int .u32 (v : Int)) := by simp [World.cell?, hB, f3]
   have hc2 : wr.cell? ⟨B, x, none⟩ = some (.int .u32 ((step8 x : Nat) : Int)) := by simp only [World.cell?, hB]; exact f2 _ hx
   have hf1 : wr.frozen? ⟨B, 256, none⟩ = false := by simp [World.frozen?, hB]
   clear f1 f2 f3 f4
   go_wp2
   have hne1 : ¬ x = 256 := by omega
   have hne2 : ¬ 256 = x := by omega
   have hset0 : ∀ u, (wr.setCell ⟨B, 256, none⟩ u).heap[B]? = some (.cells (R.setIfInBounds 256 u) 253 (0, 0)) := fun u => by
    show (wr.heap.modify B _)[B]? = _
    rw [Array.getElem?_modify, if_pos rfl, hB]; rfl
   have hcx : ∀ u, (wr.setCell ⟨B, 256, none⟩ u).cell? ⟨B, x, none⟩ = some (.int .u32 ((step8 x : Nat) : Int)) := fun u => by
    simp only [World.cell?, hset0 u]
    rw [Array.getElem?_setIfInBounds, if_neg hne2]
    exact HS.out.2.1 x hx
   have hset : ∀ u, (wr.setCell ⟨B, 256, none⟩ u).drew.heap[B]? = some (.cells (R.setIfInBounds 256 u) 253 (0, 0)) := fun u => hset0 u
   have hbel2 : ∀ u, Below B w (wr.setCell ⟨B, 256, none⟩ u).drew := fun u => by
    have := HB.out.setCell (p := ⟨B, 256, none⟩) (Nat.le_refl _) u
    exact this.drew
   have hb : s[i]? = some (s[i]'c) := by simp [c]
   have hstep : step8 (v ^^^ (s[i]'c).toNat) = step8 x ^^^ (v / 256) := by rw [step8_tab, hxe]
   have hxor : bits BinOp.xor IntKind.u32 ((step8 x : Nat) : Int) ((v : Int) / 256) = ((step8 (v ^^^ (s[i]'c).toNat) : Nat) : Int) := by
    rw [hstep, show (v : Int) / 256 = ((v / 256 : Nat) : Int) by omega]
    exact u32_xorN _ _ (step8_lt (by omega)) (by omega)
   have hfin : ∃ i' v' : Nat, Value.int .i64 ((i : Int) + 1) = .int .i64 (i' : Int) /\ i' + m = s.size /\ v' < 4294967296 /\ crcV v' (s.data.toList.drop i') = crcV v0 s.data.toList /\
    ∃ R, Hsh v' 0 R /\ (wr.setCell ⟨B, 256, none⟩ (.int .u32 (bits BinOp.xor IntKind.u32 ((step8 x : Nat) : Int) ((v : Int) / 256)))).drew.heap[B]? = some (.cells R 253 (0, 0)) /\ Below B w (wr.setCell ⟨B, 256, none⟩ (.int .u32 (bits BinOp.xor IntKind.u32 ((step8 x : Nat) : Int) ((v : Int) / 256)))).drew := by
    refine ⟨i + 1, step8 (v ^^^ (s[i]'c).toNat), by push_cast; rfl, by omega, upd_lt hv _, ?_, _, ?_, hset _, hbel2 _⟩
    ·rw [drop_cons' (by rw [<- bget]; exact hb)] at hcr
     exact hcr
    ·obtain ⟨g1, g2, g3, g4⟩ := HS.out
     rw [hxor]
     refine ⟨by rw [Array.size_setIfInBounds, g1], fun j hj => ?_, ?_, ?_⟩
     ·rw [Array.getElem?_setIfInBounds, if_neg (by omega)]; exact g2 j hj
     ·rw [Array.getElem?_setIfInBounds, if_pos rfl, if_pos (by omega)]
     ·rw [Array.getElem?_setIfInBounds, if_neg (by omega)]; exact g4
   have HFIN := Lib.hid hfin
   clear hfin hxor hstep
   go_region
   all_goals go_wp2
   all_goals go_roundg m
   all_goals first | (case measure => omega) | skip
   all_goals exact HFIN.out
  ·obtain rfl : gk = 0 := by omega
   obtain rfl : i = s.size := by omega
   obtain ⟨f1, f2, f3, f4⟩ := HS.out
   have hc1 : wr.cell? ⟨B, 257, none⟩ = some (.int .i64 0) := by simp [World.cell?, hB, f4]
   have hf1 : wr.frozen? ⟨B, 257, none⟩ = false := by simp [World.frozen?, hB]
   have hset0 : ∀ u, (wr.setCell ⟨B, 257, none⟩ u).heap[B]? = some (.cells (R.setIfInBounds 257 u) 253 (0, 0)) := fun u => by
    show (wr.heap.modify B _)[B]? = _
    rw [Array.getElem?_modify, if_pos rfl, hB]; rfl
   have hbel2 : ∀ u, Below B w (wr.setCell ⟨B, 257, none⟩ u) := fun u => HB.out.setCell (p := ⟨B, 257, none⟩) (Nat.le_refl _) u
   have hv' : v = crcV v0 s.data.toList := by
    rw [<- hcr, show s.size = s.data.toList.length from rfl, List.drop_length]; rfl
   have F1 := Lib.hid f1
   have F2 := Lib.hid f2
   have F3 := Lib.hid f3
   clear f1 f2 f3 f4
   go_wp2
   go_end0
   refine ⟨_, _, ?_, hset0 _, hbel2 _, rfl⟩
   have f1 := F1.out
   refine ⟨by rw [Array.size_setIfInBounds, f1], fun j hj => ?_, ?_, ?_⟩
   ·rw [Array.getElem?_setIfInBounds, if_neg (by omega)]; exact F2.out j hj
   ·rw [Array.getElem?_setIfInBounds, if_neg (by omega), <- hv']; exact F3.out
   ·rw [Array.getElem?_setIfInBounds, if_pos rfl, if_pos (by omega)]
end Go.Ab.T
