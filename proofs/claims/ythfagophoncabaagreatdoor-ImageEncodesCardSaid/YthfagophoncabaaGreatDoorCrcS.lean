import Derived.Test.YthfagophoncabaaGreatDoorCrcM
import Derived.Test.YthfagophoncabaaGreatDoorAbC
set_option linter.unusedVariables false
set_option linter.unusedSimpArgs false
set_option linter.unusedSectionVars false
namespace Go.Ab.T
open Go Go.Ab Go.Proofs Go.RowKit
set_option maxRecDepth 100000
set_option maxHeartbeats 4000000
instance : DMode := ⟨false⟩
theorem not32 {v : Nat} (hv : v < 4294967296) : 4294967295 ^^^ v = 4294967295 - v := by
 have h1 : (BitVec.allOnes 32 ^^^ BitVec.ofNat 32 v).toNat = 4294967295 ^^^ v := by
  rw [BitVec.toNat_xor, BitVec.toNat_allOnes, BitVec.toNat_ofNat, Nat.mod_eq_of_lt (by omega)]
 have h2 : (BitVec.allOnes 32 ^^^ BitVec.ofNat 32 v).toNat = 4294967295 - v := by
  rw [BitVec.allOnes_xor, BitVec.toNat_not, BitVec.toNat_ofNat, Nat.mod_eq_of_lt (by omega)]
 rw [<- h1, h2]
theorem hsum_calls (B : Nat) (w : World) (R : Array Value) (v : Nat) (n : Int) (hv : v < 4294967296) (hR : Hsh v n R) (hw : w.heap[B]? = some (.cells R 253 (0, 0))) :
 Calls Tryz.prog 121 #[.pointer (some ⟨B, 0, none⟩)] w fun e w' => e = .returned (.int .u32 ((4294967295 - v : Nat) : Int)) /\ w' = w := by
 obtain ⟨f1, f2, f3, f4⟩ := hR
 have hc1 : w.cell? ⟨B, 256, none⟩ = some (.int .u32 (v : Int)) := by simp [World.cell?, hw, f3]
 clear f1 f2 f3 f4
 go_enter Tryz.func121, Tryz.ntmps121
 go_wp2
 go_ret
 have e : bits BinOp.xor IntKind.u32 IntKind.u32.max (v : Int) = ((4294967295 - v : Nat) : Int) := by
  rw [<- not32 hv]
  exact u32_xorN 4294967295 v (by decide) hv
 rw [e]
 exact ⟨rfl, rfl⟩
theorem csum_calls (s : ByteArray) (hs : s.size < 4611686018427387904) (w : World) :
 Calls Tryz.prog 50 #[.string s] w fun e w' => e = .returned (.int .u32 ((crcN s.data.toList : Nat) : Int)) /\ Below w.heap.size w w' := by
 go_enter Tryz.func50, Tryz.ntmps50
 go_wp2_with (go_at_fn 119)
 refine (new_calls _).mono ?_
 rintro e w' ⟨w1, R, hB, hR, hw, he⟩
 subst he
 subst hw
 have HB := Lib.hid hB
 have HR := Lib.hid hR
 clear hB hR
 have hw2 : (w1.alloc (.cells R 253)).heap[w1.heap.size]? = some (.cells R 253 (0, 0)) := World.alloc_heap_new w1 _
 go_wp2_with (go_at_fn 120)
 refine (write_calls s hs w1.heap.size _ R 4294967295 (by decide) HR.out hw2).mono ?_
 rintro e w' ⟨R', x, hR', hw', hB', he⟩
 subst he
 have HR' := Lib.hid hR'
 have HB' := Lib.hid hB'
 clear hR' hB'
 go_wp2_with (go_at_fn 121)
 refine (hsum_calls w1.heap.size _ R' _ _ (crcV_lt _ _ (by decide)) HR'.out hw').mono ?_
 rintro e w'' ⟨he, hw''⟩
 subst he
 subst hw''
 go_wp2
 go_ret
 have hle : w.heap.size <= w1.heap.size := HB.out.size
 refine ⟨rfl, ?_⟩
 have hal : Below w.heap.size w (w1.alloc (.cells R 253)) := HB.out.alloc hle _
 refine hal.trans ⟨HB'.out.os, HB'.out.tape, HB'.out.output, HB'.out.size, fun b hb => HB'.out.block b (by omega)⟩
def cSumS : SpecS := fun ys Φ => match ys with
 | [.str s] => (s.size < 4611686018427387904) /\ Φ [.int .u32 (crcN s.data.toList)]
 | _ => False
theorem cSumS_inv {ys : List PV} {Φ : List PV -> Prop} (h : cSumS ys Φ) : ∃ (s : ByteArray), ys = [.str s] /\ (s.size < 4611686018427387904) /\ Φ [.int .u32 (crcN s.data.toList)] := by
 unfold cSumS at h
 split at h
 ·exact ⟨_, rfl, h⟩
 ·exact h.elim
theorem fn_cSum : FnOk Tryz.prog 50 Tryz.f50 (bodyOf Tryz.f50) := ⟨by kernel_rfl, by kernel_rfl, by kernel_rfl⟩
theorem ok_cSum : FunS B 50 cSumS := by
 refine funS_ofCalls (C := B) fn_cSum ?_
 intro Z ys Φ hF w vs hZ hg hv
 obtain ⟨s, rfl, hs, hk⟩ := cSumS_inv hF
 obtain ⟨v, r, rfl, h1, h2⟩ := hv
 have hr : r = [] := h2
 subst hr
 have h1 : v = .string s := by
  obtain ⟨h3, h4⟩ := h1
  cases v <;> simp [RepF, Value.cells] at h3 <;> first | exact (by subst h3; rfl) | (cases h4)
 subst h1
 refine (csum_calls s hs w).mono ?_
 rintro e w' ⟨rfl, hB⟩
 exact ⟨_, _, rfl, hk, .inr ⟨rfl, rfl⟩, More.below rfl hB (Nat.le_refl _)⟩
end Go.Ab.T
