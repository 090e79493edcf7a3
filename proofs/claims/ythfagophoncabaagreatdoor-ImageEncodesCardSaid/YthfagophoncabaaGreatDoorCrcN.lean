import Derived.Test.YthfagophoncabaaGreatDoorCrcW
set_option linter.unusedVariables false
set_option linter.unusedSimpArgs false
set_option linter.unusedSectionVars false
namespace Go.Ab.T
open Go Go.Ab Go.Proofs Go.RowKit
variable [DMode]
set_option maxRecDepth 100000
set_option maxHeartbeats 4000000
def Hsh (v : Nat) (n : Int) (R : Array Value) : Prop := R.size = 258 /\ (∀ j, j < 256 -> R[j]? = some (.int .u32 ((step8 j : Nat) : Int))) /\ R[256]? = some (.int .u32 (v : Int)) /\ R[257]? = some (.int .i64 n)
theorem foldSet : ∀ (l : List Value) (k : Nat) (Z : Array Value), k + l.length <= Z.size ->
 ((l.zipIdx k).foldl (fun cs x => cs.setIfInBounds x.2 x.1) Z).size = Z.size /\ ∀ j, ((l.zipIdx k).foldl (fun cs x => cs.setIfInBounds x.2 x.1) Z)[j]? = if k <= j /\ j < k + l.length then l[j - k]? else Z[j]?
 | [], k, Z, _ => ⟨rfl, fun j => by rw [if_neg (by simp only [List.length_nil]; omega)]; rfl⟩
 | y :: l, k, Z, h => by
  rw [List.length_cons] at h
  have hs : (Z.setIfInBounds k y).size = Z.size := Array.size_setIfInBounds
  obtain ⟨h1, h2⟩ := foldSet l (k + 1) (Z.setIfInBounds k y) (by omega)
  rw [List.zipIdx_cons, List.foldl_cons]
  refine ⟨by rw [h1, hs], fun j => ?_⟩
  rw [h2, List.length_cons]
  by_cases c : j = k
  ·subst c
   rw [if_neg (by omega), if_pos (by omega), Array.getElem?_setIfInBounds, if_pos rfl, if_pos (by omega), Nat.sub_self]; rfl
  ·by_cases c2 : k + 1 <= j /\ j < k + 1 + l.length
   ·rw [if_pos c2, if_pos (by omega), show j - k = (j - (k + 1)) + 1 by omega]; rfl
   ·rw [if_neg c2, if_neg (by omega), Array.getElem?_setIfInBounds, if_neg (by omega)]
theorem foldSetA (cs Z : Array Value) (h : cs.size <= Z.size) :
 (Array.foldl (fun cs x => cs.setIfInBounds x.2 x.1) Z cs.zipIdx 0 cs.size).size = Z.size /\ ∀ j, (Array.foldl (fun cs x => cs.setIfInBounds x.2 x.1) Z cs.zipIdx 0 cs.size)[j]? = if j < cs.size then cs[j]? else Z[j]? := by
 have e : Array.foldl (fun cs x => cs.setIfInBounds x.2 x.1) Z cs.zipIdx 0 cs.size = (cs.toList.zipIdx 0).foldl (fun (cs : Array Value) x => cs.setIfInBounds x.2 x.1) Z := by
  have : cs.size = cs.zipIdx.size := by simp
  conv => lhs; rw [this]
  rw [<- Array.foldl_toList]; simp
 rw [e]
 obtain ⟨h1, h2⟩ := foldSet cs.toList 0 Z (by simpa using h)
 refine ⟨h1, fun j => ?_⟩
 rw [h2]
 by_cases c : j < cs.size
 ·rw [if_pos ⟨Nat.zero_le _, by simpa using c⟩, if_pos c]; simp
 ·rw [if_neg (fun h => c (by simpa using h.2)), if_neg c]
theorem new_calls (w : World) : Calls Tryz.prog 119 #[] w fun e w' => ∃ w1 R, Below w.heap.size w w1 /\ Hsh 4294967295 0 R /\ w' = w1.alloc (.cells R 253) /\ e = .returned (.pointer (some ⟨w1.heap.size, 0, none⟩)) := by
 go_enter Tryz.func119, Tryz.ntmps119
 go_wp2_with (go_at_fn 156)
 refine (table_calls _).mono ?_
 rintro e w' ⟨cs, hF, he, hB⟩
 subst he
 have hz : Tryz.zeroCells253 = (Array.replicate 257 (.int .u32 0)).push (.int .i64 0) := by kernel_rfl
 have hzs : Tryz.zeroCells253.size = 258 := by rw [hz]; simp
 have hz257 : Tryz.zeroCells253[257]? = some (.int .i64 0) := by rw [hz, Array.getElem?_push, if_pos (by simp)]
 obtain ⟨hfs, hfg⟩ := foldSetA cs Tryz.zeroCells253 (by rw [hzs, hF.1]; omega)
 have H1 := Lib.hid hzs
 have H2 := Lib.hid hz257
 have H3 := Lib.hid hfs
 have H4 := Lib.hid hfg
 have HF := Lib.hid hF
 clear hF hz hzs hz257 hfs hfg
 go_wp2
 case inl h =>
  exfalso
  have := HF.out.1
  rcases h with h | h
  ·simp [this] at h
  ·omega
 case inr.inl h =>
  exfalso
  have h3 := H3.out
  have h1 := H1.out
  omega
 go_ret
 have h3 := H3.out
 have h1 := H1.out
 have h4 := H4.out
 obtain ⟨f1, f2, f3⟩ := HF.out
 refine ⟨w', _, hB, ⟨?_, fun j hj => ?_, ?_, ?_⟩, rfl, rfl⟩
 ·rw [Array.size_setIfInBounds, h3, h1]
 ·rw [Array.getElem?_setIfInBounds, if_neg (by omega), h4, if_pos (by omega), f2 j hj]
 ·rw [Array.getElem?_setIfInBounds, if_pos rfl, if_pos (by omega)]; rfl
 ·rw [Array.getElem?_setIfInBounds, if_neg (by omega), h4, if_neg (by omega), H2.out]
end Go.Ab.T
