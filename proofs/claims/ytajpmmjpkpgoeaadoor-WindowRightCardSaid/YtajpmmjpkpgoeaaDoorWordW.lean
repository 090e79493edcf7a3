import Derived.Test.YtajpmmjpkpgoeaaDoorTI
import Derived.Test.YtajpmmjpkpgoeaaDoorMaB
import Derived.RangeFuncNested
import Derived.RangeFuncBound
import Derived.RangeFuncCalls
import Derived.RangeFuncLeaves
import Derived.Shelf.Abstract
import Derived.Shelf.RegionOpen
import Derived.WalkKit
import Derived.OwnWalkIn
import Derived.TacticsInMore
import Derived.LoopNIn
import Derived.LoopIn
import Derived.RangeFuncBox
import Derived.Lib.Hide
set_option linter.unusedVariables false
set_option linter.unusedSimpArgs false
set_option linter.unusedSectionVars false
namespace Go.Ab.T
open Go Go.Ab Go.Proofs Go.RowKit Go.Shelf
variable [DMode]
attribute [local go_sem] Oper.semAt_some
set_option maxRecDepth 100000
set_option maxHeartbeats 4000000
def WinAt (W : World) (b off : Nat) (x : Win) : Prop := W.cell? ⟨b, off, none⟩ = some (.int .i64 x.1) /\ W.cell? ⟨b, off + 1, none⟩ = some (.int .i64 x.2.1) /\ W.cell? ⟨b, off + 2, none⟩ = some (.int .i64 x.2.2)
def KpB (n₀ Bs : Nat) (W W' : World) : Prop := Below n₀ W W' /\ W'.heap[Bs]? = W.heap[Bs]?
theorem KpB.refl (n₀ Bs : Nat) (W : World) : KpB n₀ Bs W W := ⟨Below.refl _ _, rfl⟩
theorem KpB.trans {n₀ Bs : Nat} {A B C : World} (h : KpB n₀ Bs A B) (k : KpB n₀ Bs B C) : KpB n₀ Bs A C := ⟨h.1.trans k.1, k.2.trans h.2⟩
theorem KpB.cell {n₀ Bs : Nat} {A B : World} (h : KpB n₀ Bs A B) (j : Nat) : B.cell? ⟨Bs, j, none⟩ = A.cell? ⟨Bs, j, none⟩ := by
 simp only [World.cell?, h.2]
theorem back1_in (F : Fence) (n : Nat) (hf : F.fn 35) (hro : F.round = none) (hn : 1 <= n) (l Bs n₀ b off cap : Nat) (ws : List Win) (hreach : ws.length < 4611686018427387904) (hb : b < n₀) (J Jx : List Win -> World -> Prop)
 (hY : ∀ pre x W, J pre W -> pre.length < ws.length -> ∀ i : Int, YieldAt F (n - 1) Tryd.prog l #[.int .i64 i, .agg #[.int .i64 x.1, .int .i64 x.2.1, .int .i64 x.2.2]] W fun e W' =>
  (e = .returned (.bool true) /\ J (pre ++ [x]) W' /\ KpB n₀ Bs W W') \/ (e = .returned (.bool false) /\ Jx (pre ++ [x]) W'))
 (W : World) (hBs : W.cell? ⟨Bs, 0, none⟩ = some (.slice (some ⟨b, off, none⟩) ws.length cap)) (hc : ∀ j x, ws[j]? = some x -> WinAt W b (off + j * 3) x) (h0 : J [] W) :
 CallsIn F n Tryd.prog 35 #[.func (.yield l) #[] #[], .pointer (some ⟨Bs, 0, none⟩)] W fun e W' => (∃ v, e = .returned v) /\
  ((∃ ys, ys = ws.reverse /\ J ys W') \/ (∃ pre, pre <+: ws.reverse /\ Jx pre W')) := by
 refine callsIn_of_wp Tryd.func35 rfl hf ?_ hro
 simp only [Tryd.ntmps35, List.size_toArray, List.length_cons, List.length_nil, Nat.reduceAdd, Nat.reduceSub, Array.replicate_succ, Array.replicate_zero, List.push_toArray, List.append_toArray, List.nil_append, List.cons_append]
 have hwr : IntKind.i64.wrap ((ws.length : Int) - 1) = (ws.length : Int) - 1 := wrap_id _ (by omega) (by omega)
 gi_wp2
 gi_loopw [3] (fun i wr => ∃ k : Nat, k <= ws.length /\ i = .int .i64 ((ws.length : Int) - 1 - k) /\ J (ws.reverse.take k) wr /\ KpB n₀ Bs W wr)
  (fun i _ => (intOf i + 1).toNat)
 case atStart => exact ⟨0, Nat.zero_le _, by simp [hwr], by simpa using h0, KpB.refl _ _ _⟩
 case round =>
  obtain ⟨k, hk, rfl, hJs, hnx⟩ := hrel
  by_cases hlt : k < ws.length
  ·obtain ⟨m, hm⟩ : ∃ m : Nat, m = ws.length - 1 - k := ⟨_, rfl⟩
   have em : (ws.length : Int) - 1 - (k : Int) = (m : Int) := by omega
   have hml : m < ws.length := by omega
   obtain ⟨x, hx⟩ : ∃ x, ws[m]? = some x := ⟨ws[m], List.getElem?_eq_getElem hml⟩
   have hrev : ws.reverse.take (k + 1) = ws.reverse.take k ++ [x] := by
    rw [List.take_add_one, List.getElem?_reverse (by omega), show ws.length - 1 - k = m from hm.symm, hx]; rfl
   have hcb : ∀ j, wr.cell? ⟨b, j, none⟩ = W.cell? ⟨b, j, none⟩ := fun j => hnx.1.cell (p := ⟨b, j, none⟩) hb
   obtain ⟨c1, c2, c3⟩ := hc m x hx
   have c1' := (hcb _).trans c1
   have c2' := (hcb _).trans c2
   have c3' := (hcb _).trans c3
   have hBs' : wr.cell? ⟨Bs, 0, none⟩ = some (.slice (some ⟨b, off, none⟩) ws.length cap) := (hnx.cell 0).trans hBs
   have hwm : IntKind.i64.wrap ((m : Int) - 1) = (m : Int) - 1 := wrap_id _ (by omega) (by omega)
   have hmlI : (m : Int) < (ws.length : Int) := by omega
   obtain ⟨fn, tmps, assign, body, hy, hR⟩ := hY _ x wr hJs (by rw [List.length_take, List.length_reverse]; omega) (m : Int)
   rw [em]
   have hmk : (ws.length : Int) - 1 - ((k + 1 : Nat) : Int) = (m : Int) - 1 := by omega
   clear hc c1 c2 c3 hcb hm em hx hBs
   gi_wp2
   refine hR.mono ?_
   rintro e W3 (⟨rfl, hJ3, hk3⟩ | ⟨rfl, hJx3⟩)
   ·gi_wp2
    go_roundw
    case rel => exact ⟨k + 1, by omega, by rw [hmk], by rw [hrev]; exact hJ3, hnx.trans hk3⟩
    case measure => simp [intOf, hwm]
   ·gi_wp2
    refine bodyPost_ret (results_none rfl _ _ _) rfl ?_
    exact ⟨⟨_, rfl⟩, .inr ⟨_, ⟨_, by rw [<- hrev]; exact List.take_append_drop (k + 1) _⟩, hJx3⟩⟩
  ·obtain rfl : k = ws.length := by omega
   have em : (ws.length : Int) - 1 - (ws.length : Int) = -1 := by omega
   rw [em]
   clear em hc hBs
   gi_wp2
   go_end0
   exact ⟨⟨_, rfl⟩, .inl ⟨_, rfl, by have := hJs; rw [show ws.length = ws.reverse.length from (List.length_reverse).symm, List.take_length] at this; exact this⟩⟩
theorem back1_nil_in (F : Fence) (n : Nat) (hf : F.fn 35) (hro : F.round = none) (l Bs cap : Nat) (A0 : Option Addr) (J : List Win -> World -> Prop) (W : World) (hBs : W.cell? ⟨Bs, 0, none⟩ = some (.slice A0 0 cap)) (h0 : J [] W) :
 CallsIn F n Tryd.prog 35 #[.func (.yield l) #[] #[], .pointer (some ⟨Bs, 0, none⟩)] W fun e W' => (∃ v, e = .returned v) /\ J [] W' := by
 refine callsIn_of_wp Tryd.func35 rfl hf ?_ hro
 simp only [Tryd.ntmps35, List.size_toArray, List.length_cons, List.length_nil, Nat.reduceAdd, Nat.reduceSub, Array.replicate_succ, Array.replicate_zero, List.push_toArray, List.append_toArray, List.nil_append, List.cons_append]
 gi_wp2
 gi_loopw [3] (fun i wr => i = .int .i64 (-1) /\ J [] wr) (fun _ _ => 0)
 case atStart => exact ⟨rfl, h0⟩
 case round =>
  obtain ⟨rfl, hJs⟩ := hrel
  gi_wp2
  go_end0
  exact ⟨⟨_, rfl⟩, hJs⟩
theorem back_in (F : Fence) (n : Nat) (hf : F.fn 31) (hro : F.round = none) (sa : Option Addr) (len cap : Nat) (w : World) :
 CallsIn F n Tryd.prog 31 #[.slice sa len cap] w fun e w' => e = .returned (.func (.func 35) #[] #[.pointer (some ⟨w.heap.size, 0, none⟩)]) /\ w' = w.alloc (.cells #[.slice sa len cap] 22) := by
 refine callsIn_of_wp Tryd.func31 rfl hf ?_ hro
 simp only [Tryd.ntmps31, List.size_toArray, List.length_cons, List.length_nil, Nat.reduceAdd, Nat.reduceSub, Array.replicate_succ, Array.replicate_zero, List.push_toArray, List.append_toArray, List.nil_append, List.cons_append]
 gi_wp2
 go_ret
 exact ⟨rfl, rfl⟩
def WinsAt (n₀ : Nat) (W : World) (sa : Option Addr) (ws : List Win) : Prop := ws = [] \/ ∃ b off, sa = some ⟨b, off, none⟩ /\ b < n₀ /\ ∀ j x, ws[j]? = some x -> WinAt W b (off + j * 3) x
theorem WinsAt.below {n₀ : Nat} {A B : World} (h : Below n₀ A B) {sa : Option Addr} {ws : List Win} : WinsAt n₀ A sa ws -> WinsAt n₀ B sa ws
 | .inl e => .inl e
 | .inr ⟨b, off, e, hb, hc⟩ => .inr ⟨b, off, e, hb, fun j x hx => by
  obtain ⟨c1, c2, c3⟩ := hc j x hx
  exact ⟨(h.cell (p := ⟨b, _, none⟩) hb).trans c1, (h.cell (p := ⟨b, _, none⟩) hb).trans c2, (h.cell (p := ⟨b, _, none⟩) hb).trans c3⟩⟩
theorem back_stops (F : Fence) (n : Nat) (hf : F.fn 35) (hro : F.round = none) (hn : 1 <= n) (Bs n₀ cap : Nat) (sa : Option Addr) (ws : List Win) (hreach : ws.length < 4611686018427387904) (w : World) (hBs : Bs < w.heap.size) (hn₀ : n₀ <= w.heap.size)
 (hc : w.cell? ⟨Bs, 0, none⟩ = some (.slice sa ws.length cap)) (hI : WinsAt n₀ w sa ws) :
 SeqStopsK F n Tryd.prog 35 #[.pointer (some ⟨Bs, 0, none⟩)] (fun x : Int × Win => #[Value.int .i64 x.1, .agg #[.int .i64 x.2.1, .int .i64 x.2.2.1, .int .i64 x.2.2.2]]) (KpB n₀ Bs)
  (fun ys => ys.map Prod.snd = ws.reverse) (fun pre => pre.map Prod.snd <+: ws.reverse) ws.length w := fun l J Jx W hW _ _ hY h0 => by
 have hc' := (hW.cell (p := ⟨Bs, 0, none⟩) hBs).trans hc
 rcases hI.below (hW.mono hn₀) with rfl | ⟨b, off, rfl, hb, hcs⟩
 ·exact (back1_nil_in F n hf hro l Bs cap sa (fun pre W => J [] W) W hc' h0).mono fun e W' ⟨he, hj⟩ => ⟨he, .inl ⟨[], rfl, hj⟩⟩
 ·refine (back1_in F n hf hro hn l Bs n₀ b off cap ws hreach hb (fun pre W => ∃ ps : List (Int × Win), ps.map Prod.snd = pre /\ J ps W) (fun pre W => ∃ ps : List (Int × Win), ps.map Prod.snd = pre /\ Jx ps W) ?_ W hc' hcs ⟨[], rfl, h0⟩).mono ?_
  ·rintro pre x W1 ⟨ps, rfl, hj⟩ hlen i
   obtain ⟨fn, tmps, assign, body, hy, hR⟩ := hY ps (i, x) W1 hj (by simpa using hlen)
   refine ⟨fn, tmps, assign, body, hy, hR.mono fun e w' hr => ?_⟩
   rcases hr with ⟨r1, r2, r3⟩ | ⟨r1, r2⟩
   ·exact .inl ⟨r1, ⟨_, by simp, r2⟩, r3⟩
   ·exact .inr ⟨r1, ⟨_, by simp, r2⟩⟩
  ·rintro e W' ⟨he, ⟨ys, rfl, ps, hp, hj⟩ | ⟨pre, hpre, ps, rfl, hj⟩⟩
   ·exact ⟨he, .inl ⟨ps, hp, hj⟩⟩
   ·exact ⟨he, .inr ⟨ps, hpre, hj⟩⟩
end Go.Ab.T
