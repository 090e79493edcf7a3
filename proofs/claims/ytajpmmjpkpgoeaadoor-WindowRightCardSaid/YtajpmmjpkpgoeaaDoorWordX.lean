import Derived.Test.YtajpmmjpkpgoeaaDoorWordW
import Derived.Laws.MakeOwn
import Derived.Test.YtajpmmjpkpgoeaaDoorAbC
set_option linter.unusedVariables false
set_option linter.unusedSimpArgs false
set_option linter.unusedSectionVars false
namespace Go.Ab.T
open Go Go.Ab Go.Proofs Go.RowKit Go.Shelf
variable [DMode]
attribute [local go_sem] Oper.semAt_some
set_option maxRecDepth 100000
set_option maxHeartbeats 4000000
def NumsAt (W : World) (B n : Nat) (f : Nat -> Int) : Prop := ∃ A : Array Value, W.heap[B]? = some (.cells A 3 (0, 0)) /\ A.size = n /\ ∀ j, j < n -> A[j]? = some (.int .i64 (f j))
theorem NumsAt.lt {W : World} {B n : Nat} {f : Nat -> Int} (h : NumsAt W B n f) : B < W.heap.size := by
 obtain ⟨A, h, _⟩ := h
 exact (Array.getElem?_eq_some_iff.1 h).1
theorem NumsAt.kept {W W' : World} {row : Option Nat} {B n : Nat} {f : Nat -> Int} (h : NumsAt W B n f) (hg : W.grownBy W' row) (hne : some B ≠ row) : NumsAt W' B n f := by
 have hl := h.lt
 obtain ⟨A, h1, h2⟩ := h
 exact ⟨A, (hg.block B hl hne).trans h1, h2⟩
theorem NumsAt.alloc {W : World} {B n : Nat} {f : Nat -> Int} (h : NumsAt W B n f) (o : Obj) : NumsAt (W.alloc o) B n f := h.kept (World.grownBy_alloc W o none) (by simp)
theorem NumsAt.cell {W : World} {B n : Nat} {f : Nat -> Int} (h : NumsAt W B n f) {j : Nat} (hj : j < n) : W.cell? ⟨B, j, none⟩ = some (.int .i64 (f j)) := by
 obtain ⟨A, h1, h2, h3⟩ := h
 simp [World.cell?, h1, h3 j hj]
theorem NumsAt.frozen {W : World} {B n : Nat} {f : Nat -> Int} (h : NumsAt W B n f) (j : Nat) : W.frozen? ⟨B, j, none⟩ = false := by
 obtain ⟨A, h1, h2, h3⟩ := h
 simp [World.frozen?, h1]
theorem NumsAt.set {W : World} {B n : Nat} {f : Nat -> Int} (h : NumsAt W B n f) {i : Nat} (v : Int) : NumsAt (W.setCell ⟨B, i, none⟩ (.int .i64 v)) B n (fun j => if j = i then v else f j) := by
 obtain ⟨A, h1, h2, h3⟩ := h
 refine ⟨A.setIfInBounds i (.int .i64 v), ?_, by simpa using h2, fun j hj => ?_⟩
 ·simp [World.setCell, Array.getElem?_modify, h1]
 ·by_cases hji : j = i
  ·subst hji
   rw [Array.getElem?_setIfInBounds_self_of_lt (by omega)]; simp
  ·rw [Array.getElem?_setIfInBounds_ne (Ne.symm hji), h3 j hj]; simp [hji]
theorem NumsAt.congr {W : World} {B n : Nat} {f g : Nat -> Int} (h : NumsAt W B n f) (hfg : ∀ j, j < n -> f j = g j) : NumsAt W B n g := by
 obtain ⟨A, h1, h2, h3⟩ := h
 exact ⟨A, h1, h2, fun j hj => by rw [<- hfg j hj]; exact h3 j hj⟩
theorem NumsAt.other {W : World} {B n : Nat} {f : Nat -> Int} (h : NumsAt W B n f) {p : Addr} (hp : B ≠ p.block) (v : Value) : NumsAt (W.setCell p v) B n f := by
 obtain ⟨A, h1, h2⟩ := h
 exact ⟨A, by rw [heap_setCell_other W p v B hp]; exact h1, h2⟩
theorem numsAt_made (w : World) (n : Nat) : NumsAt (w.alloc (.cells (madeCells #[.int .i64 0] n) 3)) w.heap.size n (fun _ => 0) := by
 refine ⟨_, World.alloc_heap_new w _, size_madeCells _ _, fun j hj => ?_⟩
 have h1 : j % 1 = 0 := Nat.mod_one j
 simp [madeCells, hj, h1]
def Box4 (W : World) (B : Nat) (v0 v1 v2 v3 : Value) : Prop := W.heap[B]? = some (.cells #[v0, v1, v2, v3] 25 (0, 0))
theorem Box4.lt {W : World} {B : Nat} {v0 v1 v2 v3 : Value} (h : Box4 W B v0 v1 v2 v3) : B < W.heap.size := (Array.getElem?_eq_some_iff.1 h).1
theorem Box4.c2 {W : World} {B : Nat} {v0 v1 v2 v3 : Value} (h : Box4 W B v0 v1 v2 v3) : W.cell? ⟨B, 2, none⟩ = some v2 := by
 simp [World.cell?, show W.heap[B]? = _ from h]
theorem Box4.other {W : World} {B : Nat} {v0 v1 v2 v3 : Value} (h : Box4 W B v0 v1 v2 v3) {p : Addr} (hp : B ≠ p.block) (v : Value) : Box4 (W.setCell p v) B v0 v1 v2 v3 := by
 show (W.setCell p v).heap[B]? = _
 rw [heap_setCell_other W p v B hp]; exact h
theorem boxOther {W : World} {B : Nat} {t : TypeId} {v : Value} (h : Boxed W B t v) {p : Addr} (hp : B ≠ p.block) (u : Value) : Boxed (W.setCell p u) B t v := by
 show (W.setCell p u).heap[B]? = _
 rw [heap_setCell_other W p u B hp]; exact h
theorem nums_own {β : Type} (B n : Nat) (f : β -> Nat -> Int) : Own (fun s W => NumsAt W B n (f s)) := fun s X Y row hs hg hrow =>
 hs.kept hg (fun e' => by
  obtain ⟨o, ho, hc⟩ := hrow B e'.symm
  obtain ⟨A, h1, _⟩ := hs
  rw [h1] at ho; cases ho; cases hc)
def Box3 (W : World) (B : Nat) (x : Win) : Prop := W.heap[B]? = some (.cells #[.int .i64 x.1, .int .i64 x.2.1, .int .i64 x.2.2] 33 (0, 0))
theorem Box3.lt {W : World} {B : Nat} {x : Win} (h : Box3 W B x) : B < W.heap.size := (Array.getElem?_eq_some_iff.1 h).1
theorem Box3.cells {W : World} {B : Nat} {x : Win} (h : Box3 W B x) : W.cell? ⟨B, 0, none⟩ = some (.int .i64 x.1) /\ W.cell? ⟨B, 1, none⟩ = some (.int .i64 x.2.1) /\ W.cell? ⟨B, 2, none⟩ = some (.int .i64 x.2.2) := by
 simp [World.cell?, show W.heap[B]? = _ from h]
theorem Box3.other {W : World} {B : Nat} {x : Win} (h : Box3 W B x) {p : Addr} (hp : B ≠ p.block) (u : Value) : Box3 (W.setCell p u) B x := by
 show (W.setCell p u).heap[B]? = _
 rw [heap_setCell_other W p u B hp]; exact h
theorem box3_own (B : Nat) (x : Win) (X Y : World) (row : Option Nat) (hs : Box3 X B x) (hg : X.grownBy Y row) (hrow : ∀ r, row = some r -> ∃ o : Obj, X.heap[r]? = some o /\ o.isCells = false) : Box3 Y B x :=
 (hg.block B hs.lt (fun e' => by
  obtain ⟨o, ho, hc⟩ := hrow B e'.symm
  rw [show X.heap[B]? = _ from hs] at ho; cases ho; cases hc)).trans hs
theorem kpB_b {w0 : World} {n₀ Bs : Nat} (h1 : n₀ <= w0.heap.size) (h2 : Bs < w0.heap.size) : ∀ (W : World) (l : Nat) (o o' : Obj), w0.heap.size <= l -> W.heap[l]? = some o -> o.isCells = false -> o.isWalk = false -> KpB n₀ Bs W (W.putObj l o') := fun W l o o' hl ho hc hw =>
 ⟨belowK_b (w := w0) h1 W l o o' hl ho hc hw, by
  have := (grownBy_putObj' W l o').block Bs (by have := (Array.getElem?_eq_some_iff.1 ho).1; omega) (fun e => by cases e; omega)
  exact this⟩
theorem NumsAt.drewN {W : World} {B n : Nat} {f : Nat -> Int} (h : NumsAt W B n f) (q : Nat) : NumsAt (W.drewN q) B n f := h
theorem boxDrewN {W : World} {B : Nat} {t : TypeId} {v : Value} (h : Boxed W B t v) (q : Nat) : Boxed (W.drewN q) B t v := h
theorem belowDrewN {n : Nat} {w W : World} (h : Below n w W) (q : Nat) : Below n w (W.drewN q) := ⟨h.os, h.tape, h.output, h.size, h.block⟩
theorem keepsDrewN (B : Nat) (W : World) (q : Nat) : KeepsFrom B W (W.drewN q) := ⟨Nat.le_refl _, fun _ _ _ h _ => h⟩
theorem kpBDrewN (n Bs : Nat) (W : World) (q : Nat) : KpB n Bs W (W.drewN q) := ⟨belowDrewN (Below.refl _ _) q, rfl⟩
theorem paint_step {F : Int} {v o : Int} {j m : Nat} (h : F <= (m : Int)) : (if j = m then v else if F <= (j : Int) /\ (j : Int) < (m : Int) then v else o) = if F <= (j : Int) /\ (j : Int) < ((m + 1 : Nat) : Int) then v else o := by
 by_cases h1 : j = m
 ·subst h1; rw [if_pos rfl, if_pos ⟨h, by omega⟩]
 ·rw [if_neg h1]
  by_cases h2 : F <= (j : Int) /\ (j : Int) < (m : Int)
  ·rw [if_pos h2, if_pos ⟨h2.1, by omega⟩]
  ·rw [if_neg h2, if_neg (by omega)]
theorem paint_end {F i O E : Int} {v o : Int} {j : Nat} (h1 : (F <= (j : Int) /\ (j : Int) < i) -> (O <= (j : Int) /\ (j : Int) < E)) (h2 : (O <= (j : Int) /\ (j : Int) < E) -> (F <= (j : Int) /\ (j : Int) < i)) : (if F <= (j : Int) /\ (j : Int) < i then v else o) = bif decide ((j : Int) >= O) && decide ((j : Int) < E) then v else o := by
 by_cases h : O <= (j : Int) /\ (j : Int) < E
 ·rw [if_pos (h2 h)]; simp [h.1, h.2]
 ·rw [if_neg (fun hh => h (h1 hh))]
  by_cases h3 : O <= (j : Int)
  ·have : ¬ (j : Int) < E := fun h4 => h ⟨h3, h4⟩
   simp [h3, this]
  ·simp [h3]
theorem word_calls (id : Int) (n : Nat) (sa : Option Addr) (cap : Nat) (v3 : Value) (ws : List Win) (hws : ws.length < 4611686018427387904) (hfr : n < 1099511627776) (w : World) (hI : WinsAt w.heap.size w sa ws) (hv3 : v3.oneCell' = true) :
 Calls Tryd.prog 24 #[.agg #[.int .i64 id, .int .i64 (n : Int), .slice sa ws.length cap, v3]] w fun e w' => ∃ B, w.heap.size <= B /\ e = .returned (.slice (some ⟨B, 0, none⟩) n n) /\ NumsAt w' B n (fun j => ownW ws (j : Int)) /\ Below w.heap.size w w' := by
 refine (callsIn_wide (n := 8)).1 ?_
 have hn0 : ¬ ((n : Int) < 0) := by omega
 have hn1 : (n : Int).toNat = n := by omega
 have hI3 : (Tryd.prog.info? 3).map (fun i => (i.zero, i.size, i.bytes)) = some (some (.int .i64 0), 1, 8) := by kernel_rfl
 obtain ⟨i0, hi, hz0, hz1, hz2⟩ := info_parts hI3
 have hmk : ∀ u : World, (Instr.makeSlice 26 (.int .i64 (n : Int)) (.int .i64 (n : Int))).run Tryd.prog u = .ok (.slice (some ⟨u.heap.size, 0, none⟩) n n) (u.alloc (.cells (madeCells #[.int .i64 0] n) 3)) := fun u => by
  have h := run_make (P := Tryd.prog) u 26 3 i0 (.int .i64 0) Tryd.underlying26 hi hz0 .i64 .i64 (n : Int) (n : Int) (by omega) (Int.le_refl _) (by rw [hz2]; omega) (by omega)
  simpa [hz1, Value.cells] using h
 refine callsIn_of_wp_marks Tryd.func24 rfl trivial ?_ rfl
 simp only [Tryd.ntmps24, List.size_toArray, List.length_cons, List.length_nil, Nat.reduceAdd, Nat.reduceSub, Array.replicate_succ, Array.replicate_zero, List.push_toArray, List.append_toArray, List.nil_append, List.cons_append]
 gi_wp2
 have q0 : Box4 (((w.alloc (.cells #[.int .i64 id, .int .i64 (n : Int), .slice sa ws.length cap, v3] 25)).alloc (.cells (madeCells #[.int .i64 0] n) 3)).alloc (.cells #[.slice (some ⟨w.heap.size + 1, 0, none⟩) n n] 26)) w.heap.size (.int .i64 id) (.int .i64 (n : Int)) (.slice sa ws.length cap) v3 := by
  have h1 := World.alloc_heap_new w (.cells #[.int .i64 id, .int .i64 (n : Int), .slice sa ws.length cap, v3] 25)
  have h2 := (Below.heap_alloc _ (.cells (madeCells #[.int .i64 0] n) 3) _ (Array.getElem?_eq_some_iff.1 h1).1).trans h1
  exact (Below.heap_alloc _ _ _ (Array.getElem?_eq_some_iff.1 h2).1).trans h2
 have q1 := (numsAt_made (w.alloc (.cells #[.int .i64 id, .int .i64 (n : Int), .slice sa ws.length cap, v3] 25)) n).alloc (.cells #[.slice (some ⟨w.heap.size + 1, 0, none⟩) n n] 26)
 rw [World.size_alloc] at q1
 have q2 := Boxed.new ((w.alloc (.cells #[.int .i64 id, .int .i64 (n : Int), .slice sa ws.length cap, v3] 25)).alloc (.cells (madeCells #[.int .i64 0] n) 3)) 26 (.slice (some ⟨w.heap.size + 1, 0, none⟩) n n)
 simp only [World.size_alloc] at q2
 have q3 : Below w.heap.size w (((w.alloc (.cells #[.int .i64 id, .int .i64 (n : Int), .slice sa ws.length cap, v3] 25)).alloc (.cells (madeCells #[.int .i64 0] n) 3)).alloc (.cells #[.slice (some ⟨w.heap.size + 1, 0, none⟩) n n] 26)) :=
  (((Below.refl _ w).alloc (Nat.le_refl _) _).alloc (by simp) _).alloc (by simp; omega) _
 have hI3 := True.intro
 clear hi hz0 hz1 hz2 hI3
 gi_loopw [16] (fun i wr => ∃ k : Nat, k <= n /\ i = .int .i64 (k : Int) /\ Box4 wr w.heap.size (.int .i64 id) (.int .i64 (n : Int)) (.slice sa ws.length cap) v3 /\ NumsAt wr (w.heap.size + 1) n (fun j => if j < k then -1 else 0) /\ Boxed wr (w.heap.size + 1 + 1) 26 (.slice (some ⟨w.heap.size + 1, 0, none⟩) n n) /\ Below w.heap.size w wr)
  (fun i _ => n - (intOf i).toNat)
 case atStart => exact ⟨0, Nat.zero_le _, rfl, q0, q1.congr (fun j _ => by simp), q2, q3⟩
 case round =>
  obtain ⟨k, hk, rfl, r0, r1, r2, r3⟩ := hrel
  have c2 := r2.cell
  by_cases hlt : k < n
  ·have c1 := r1.cell hlt
   have f1 := r1.frozen k
   have hki : (k : Int) < (n : Int) := by omega
   have hwk : IntKind.i64.wrap ((k : Int) + 1) = ((k + 1 : Nat) : Int) := wrap_succ (by omega)
   gi_wp2
   refine ⟨⟨k + 1, by omega, by push_cast; rfl, r0.other (by simp) _, (r1.set (-1)).congr (fun j hj => ?_), boxOther r2 (by simp) _, r3.setCell (p := ⟨w.heap.size + 1, k, none⟩) (by simp) _⟩, by simp [intOf]; omega⟩
   by_cases h1 : j = k
   ·subst h1; simp
   ·have : (j < k) = (j < k + 1) := by apply propext; omega
    simp [h1, this]
  ·have hkn : k = n := by omega
   subst hkn
   have c0 := r0.c2
   gi_wp2_with (refine ⟨trivial, ?_⟩; gi_at_call 31; refine (back_in Fence.wide (8 - 1) trivial rfl _ _ _ _).mono ?_; rintro e w' ⟨rfl, rfl⟩)
   have hS1 : w.heap.size + 1 + 1 < wr.heap.size := r2.lt
   have bN := Boxed.new wr 22 (.slice sa ws.length cap)
   have s1 := r1.alloc (.cells #[.slice sa ws.length cap] 22)
   have s2 := Boxed.alloc r2 (.cells #[.slice sa ws.length cap] 22)
   have hB0 : Below w.heap.size w (wr.alloc (.cells #[.slice sa ws.length cap] 22)) := r3.alloc r3.size _
   have hsz : (wr.alloc (.cells #[.slice sa ws.length cap] 22)).heap.size = wr.heap.size + 1 := World.size_alloc _ _
   obtain ⟨W0, hW0⟩ : ∃ W0, wr.alloc (.cells #[.slice sa ws.length cap] 22) = W0 := ⟨_, rfl⟩
   rw [hW0] at bN s1 s2 hB0 hsz ⊢
   have hI0 := hI.below hB0
   clear hW0 r0 r1 r2 r3 c0 c2 q0 q1 q2 q3 hmk hI
   refine wpIn_rangeFunc_ownH rfl (by decide) (gf := 35) (lb := #[.pointer (some ⟨wr.heap.size, 0, none⟩)]) rfl trivial (enters_of Tryd.func35 (by kernel_rfl) rfl)
    (back_stops Fence.wide (8 - 1) trivial rfl (by decide) wr.heap.size w.heap.size cap sa ws hws W0 (by omega) (by omega) bN.cell hI0) (fun h k => h.trans k) (kpB_b (by omega) (by omega)) (Below.refl _ _) (fun _ => rfl)
    (fun pre W => (NumsAt W (w.heap.size + 1) k (fun j => ownW (pre.map Prod.snd).reverse (j : Int)) /\ Boxed W (w.heap.size + 1 + 1) 26 (.slice (some ⟨w.heap.size + 1, 0, none⟩) k k) /\ Boxed W wr.heap.size 22 (.slice sa ws.length cap)) /\ Below w.heap.size w W)
    (fun _ _ _ => False)
    (OwnFrom.and (OwnFrom.and (Own.from (nums_own _ _ _) _) (OwnFrom.and (Own.from (boxed_own _ _ _) _) (Own.from (boxed_own _ _ _) _))) (ownFrom_below (Nat.le_refl _) (by omega)))
    (fun _ _ _ _ _ hs _ _ => hs)
    ⟨⟨s1.congr (fun j hj => by simp [ownW, hj]), s2, bN⟩, hB0⟩
    (fun x a' W => ∃ Bx, w.heap.size + 1 + 1 < Bx /\ Box3 W Bx x.2 /\ a' = { tmps := #[.agg #[.int .i64 id, .int .i64 (k : Int), .slice sa ws.length cap, v3], .pointer (some ⟨w.heap.size, 0, none⟩), .slice none 0 0, .pointer (some ⟨w.heap.size + 1 + 1, 0, none⟩), u4, undef, .pointer (some ⟨Bx, 0, none⟩), undef, undef, undef, .pointer (some ⟨w.heap.size, 1, none⟩), .int .i64 (k : Int), .int .i64 (k : Int), .slice (some ⟨w.heap.size + 1, 0, none⟩) k k, .slice (some ⟨w.heap.size + 1, 0, none⟩) k k, .int .i64 (k : Int), .int .i64 (k : Int), .bool false, u18, u19, u20, u21, u22, .pointer (some ⟨w.heap.size, 2, none⟩), .slice sa ws.length cap, .func (.func 35) #[] #[.pointer (some ⟨wr.heap.size, 0, none⟩)], .int .i64 x.1, .agg #[.int .i64 x.2.1, .int .i64 x.2.2.1, .int .i64 x.2.2.2], undef, undef, undef, undef, undef, undef, undef, undef, undef, undef, undef, undef, undef, undef, undef, undef, undef, undef, undef, undef, undef, undef, undef], defers := [] })
    (fun x a' _ X Y row hs hg hr => by obtain ⟨Bx, h1, h2, h3⟩ := hs; exact ⟨Bx, h1, box3_own Bx x.2 X Y row h2 hg (fun r e => (hr r e).2), h3⟩)
    ?assign ?body ?done ?stop
   case assign =>
    rintro l pre x W K ⟨⟨p1, p2, p4⟩, p3⟩ hK
    gi_wp2
    exact hK _ _ ((KeepsOthers.alloc _ _).from _) ⟨(Below.refl _ W).alloc p3.size _, Below.heap_alloc W _ _ p4.lt⟩ ⟨⟨p1.alloc _, Boxed.alloc p2 _, Boxed.alloc p4 _⟩, p3.alloc p3.size _⟩ ⟨W.heap.size, p2.lt, World.alloc_heap_new W _, rfl⟩
   case body =>
    rintro l pre x a' W hl ⟨r, hr⟩ ⟨⟨p1, p2, p4⟩, p3⟩ ⟨Bx, hBx, bX, rfl⟩ hlen
    have cB := p2.cell
    obtain ⟨d0, d1, d2⟩ := bX.cells
    obtain ⟨E, hE⟩ : ∃ E, E = IntKind.i64.wrap (x.2.2.1 + x.2.2.2) := ⟨_, rfl⟩
    have hE' := hE.symm
    clear hE
    have hmx : Tryd.prog.follows .mixedOrders = true := by kernel_rfl
    by_cases g1 : x.2.2.1 < 0
    ·by_cases g2 : (k : Int) < E
     ·gi_wp2_with fail
      gi_quiet_r (fail)
      gi_wp2
      gi_loopw [9] (fun i X => ∃ i0 : Int, i = .int .i64 i0 /\ (0 : Int) <= i0 /\ (i0 <= (k : Int) \/ i0 = (0 : Int)) /\ NumsAt X (w.heap.size + 1) k (fun j => if (0 : Int) <= (j : Int) /\ (j : Int) < i0 then x.2.1 else ownW (pre.map Prod.snd).reverse (j : Int)) /\ Boxed X (w.heap.size + 1 + 1) 26 (.slice (some ⟨w.heap.size + 1, 0, none⟩) k k) /\ Boxed X wr.heap.size 22 (.slice sa ws.length cap) /\ Below w.heap.size w X /\ Box3 X Bx x.2 /\ KeepsFrom W0.heap.size W X /\ KpB w.heap.size wr.heap.size W X)
       (fun i _ => ((k : Int) - intOf i).toNat)
      case atStart => exact ⟨_, rfl, Int.le_refl _, .inr rfl, (p1.drewN nq).congr (fun j _ => by rw [if_neg (by omega)]), boxDrewN p2 nq, boxDrewN p4 nq, belowDrewN p3 nq, bX, keepsDrewN _ _ nq, kpBDrewN _ _ _ nq⟩
      case round =>
       obtain ⟨i0, rfl, h1, h2, r1, r2, r4, r3, rX, rK, rB⟩ := hrel
       have c2 := r2.cell
       obtain ⟨e0, _, _⟩ := rX.cells
       by_cases hlt : i0 < (k : Int)
       ·obtain ⟨m, rfl⟩ : ∃ m : Nat, i0 = (m : Int) := ⟨i0.toNat, by omega⟩
        have hm : m < k := by omega
        have c1 := r1.cell hm
        have f1 := r1.frozen m
        have hki : (m : Int) < (k : Int) := by omega
        have hwk : IntKind.i64.wrap ((m : Int) + 1) = ((m + 1 : Nat) : Int) := wrap_succ (by omega)
        gi_wp2
        refine ⟨⟨((m + 1 : Nat) : Int), rfl, by omega, .inl (by omega), (r1.set x.2.1).congr (fun j hj => ?_), boxOther r2 (by simp) _, boxOther r4 (by simp; omega) _, r3.setCell (p := ⟨w.heap.size + 1, m, none⟩) (by simp) _, rX.other (by simp; omega) _, rK.trans ((KeepsOthers.setCell _ _ _).from _), rB.trans ⟨(Below.refl _ _).setCell (p := ⟨w.heap.size + 1, m, none⟩) (by simp) _, heap_setCell_other _ _ _ _ (by simp; omega)⟩⟩, by simp [intOf]; omega⟩
        exact paint_step (by omega)
       ·gi_wp2
        refine ⟨by rw [hsz] at rK; exact rK, rB, ⟨r1.congr (fun j hj => ?_), r2, r4⟩, r3⟩
        rw [List.map_append, List.reverse_append]
        show _ = ownW (x.2 :: (pre.map Prod.snd).reverse) (j : Int)
        rw [ownW, hE']
        exact paint_end (by omega) (by omega)
     ·gi_wp2_with fail
      gi_quiet_r (fail)
      gi_wp2
      gi_loopw [9] (fun i X => ∃ i0 : Int, i = .int .i64 i0 /\ (0 : Int) <= i0 /\ (i0 <= E \/ i0 = (0 : Int)) /\ NumsAt X (w.heap.size + 1) k (fun j => if (0 : Int) <= (j : Int) /\ (j : Int) < i0 then x.2.1 else ownW (pre.map Prod.snd).reverse (j : Int)) /\ Boxed X (w.heap.size + 1 + 1) 26 (.slice (some ⟨w.heap.size + 1, 0, none⟩) k k) /\ Boxed X wr.heap.size 22 (.slice sa ws.length cap) /\ Below w.heap.size w X /\ Box3 X Bx x.2 /\ KeepsFrom W0.heap.size W X /\ KpB w.heap.size wr.heap.size W X)
       (fun i _ => (E - intOf i).toNat)
      case atStart => exact ⟨_, rfl, Int.le_refl _, .inr rfl, (p1.drewN nq).congr (fun j _ => by rw [if_neg (by omega)]), boxDrewN p2 nq, boxDrewN p4 nq, belowDrewN p3 nq, bX, keepsDrewN _ _ nq, kpBDrewN _ _ _ nq⟩
      case round =>
       obtain ⟨i0, rfl, h1, h2, r1, r2, r4, r3, rX, rK, rB⟩ := hrel
       have c2 := r2.cell
       obtain ⟨e0, _, _⟩ := rX.cells
       by_cases hlt : i0 < E
       ·obtain ⟨m, rfl⟩ : ∃ m : Nat, i0 = (m : Int) := ⟨i0.toNat, by omega⟩
        have hm : m < k := by omega
        have c1 := r1.cell hm
        have f1 := r1.frozen m
        have hki : (m : Int) < (k : Int) := by omega
        have hwk : IntKind.i64.wrap ((m : Int) + 1) = ((m + 1 : Nat) : Int) := wrap_succ (by omega)
        gi_wp2
        refine ⟨⟨((m + 1 : Nat) : Int), rfl, by omega, .inl (by omega), (r1.set x.2.1).congr (fun j hj => ?_), boxOther r2 (by simp) _, boxOther r4 (by simp; omega) _, r3.setCell (p := ⟨w.heap.size + 1, m, none⟩) (by simp) _, rX.other (by simp; omega) _, rK.trans ((KeepsOthers.setCell _ _ _).from _), rB.trans ⟨(Below.refl _ _).setCell (p := ⟨w.heap.size + 1, m, none⟩) (by simp) _, heap_setCell_other _ _ _ _ (by simp; omega)⟩⟩, by simp [intOf]; omega⟩
        exact paint_step (by omega)
       ·gi_wp2
        refine ⟨by rw [hsz] at rK; exact rK, rB, ⟨r1.congr (fun j hj => ?_), r2, r4⟩, r3⟩
        rw [List.map_append, List.reverse_append]
        show _ = ownW (x.2 :: (pre.map Prod.snd).reverse) (j : Int)
        rw [ownW, hE']
        exact paint_end (by omega) (by omega)
    ·by_cases g2 : (k : Int) < E
     ·gi_wp2_with fail
      gi_quiet_r (fail)
      gi_wp2
      gi_loopw [9] (fun i X => ∃ i0 : Int, i = .int .i64 i0 /\ x.2.2.1 <= i0 /\ (i0 <= (k : Int) \/ i0 = x.2.2.1) /\ NumsAt X (w.heap.size + 1) k (fun j => if x.2.2.1 <= (j : Int) /\ (j : Int) < i0 then x.2.1 else ownW (pre.map Prod.snd).reverse (j : Int)) /\ Boxed X (w.heap.size + 1 + 1) 26 (.slice (some ⟨w.heap.size + 1, 0, none⟩) k k) /\ Boxed X wr.heap.size 22 (.slice sa ws.length cap) /\ Below w.heap.size w X /\ Box3 X Bx x.2 /\ KeepsFrom W0.heap.size W X /\ KpB w.heap.size wr.heap.size W X)
       (fun i _ => ((k : Int) - intOf i).toNat)
      case atStart => exact ⟨_, rfl, Int.le_refl _, .inr rfl, (p1.drewN nq).congr (fun j _ => by rw [if_neg (by omega)]), boxDrewN p2 nq, boxDrewN p4 nq, belowDrewN p3 nq, bX, keepsDrewN _ _ nq, kpBDrewN _ _ _ nq⟩
      case round =>
       obtain ⟨i0, rfl, h1, h2, r1, r2, r4, r3, rX, rK, rB⟩ := hrel
       have c2 := r2.cell
       obtain ⟨e0, _, _⟩ := rX.cells
       by_cases hlt : i0 < (k : Int)
       ·obtain ⟨m, rfl⟩ : ∃ m : Nat, i0 = (m : Int) := ⟨i0.toNat, by omega⟩
        have hm : m < k := by omega
        have c1 := r1.cell hm
        have f1 := r1.frozen m
        have hki : (m : Int) < (k : Int) := by omega
        have hwk : IntKind.i64.wrap ((m : Int) + 1) = ((m + 1 : Nat) : Int) := wrap_succ (by omega)
        gi_wp2
        refine ⟨⟨((m + 1 : Nat) : Int), rfl, by omega, .inl (by omega), (r1.set x.2.1).congr (fun j hj => ?_), boxOther r2 (by simp) _, boxOther r4 (by simp; omega) _, r3.setCell (p := ⟨w.heap.size + 1, m, none⟩) (by simp) _, rX.other (by simp; omega) _, rK.trans ((KeepsOthers.setCell _ _ _).from _), rB.trans ⟨(Below.refl _ _).setCell (p := ⟨w.heap.size + 1, m, none⟩) (by simp) _, heap_setCell_other _ _ _ _ (by simp; omega)⟩⟩, by simp [intOf]; omega⟩
        exact paint_step (by omega)
       ·gi_wp2
        refine ⟨by rw [hsz] at rK; exact rK, rB, ⟨r1.congr (fun j hj => ?_), r2, r4⟩, r3⟩
        rw [List.map_append, List.reverse_append]
        show _ = ownW (x.2 :: (pre.map Prod.snd).reverse) (j : Int)
        rw [ownW, hE']
        exact paint_end (by omega) (by omega)
     ·gi_wp2_with fail
      gi_quiet_r (fail)
      gi_wp2
      gi_loopw [9] (fun i X => ∃ i0 : Int, i = .int .i64 i0 /\ x.2.2.1 <= i0 /\ (i0 <= E \/ i0 = x.2.2.1) /\ NumsAt X (w.heap.size + 1) k (fun j => if x.2.2.1 <= (j : Int) /\ (j : Int) < i0 then x.2.1 else ownW (pre.map Prod.snd).reverse (j : Int)) /\ Boxed X (w.heap.size + 1 + 1) 26 (.slice (some ⟨w.heap.size + 1, 0, none⟩) k k) /\ Boxed X wr.heap.size 22 (.slice sa ws.length cap) /\ Below w.heap.size w X /\ Box3 X Bx x.2 /\ KeepsFrom W0.heap.size W X /\ KpB w.heap.size wr.heap.size W X)
       (fun i _ => (E - intOf i).toNat)
      case atStart => exact ⟨_, rfl, Int.le_refl _, .inr rfl, (p1.drewN nq).congr (fun j _ => by rw [if_neg (by omega)]), boxDrewN p2 nq, boxDrewN p4 nq, belowDrewN p3 nq, bX, keepsDrewN _ _ nq, kpBDrewN _ _ _ nq⟩
      case round =>
       obtain ⟨i0, rfl, h1, h2, r1, r2, r4, r3, rX, rK, rB⟩ := hrel
       have c2 := r2.cell
       obtain ⟨e0, _, _⟩ := rX.cells
       by_cases hlt : i0 < E
       ·obtain ⟨m, rfl⟩ : ∃ m : Nat, i0 = (m : Int) := ⟨i0.toNat, by omega⟩
        have hm : m < k := by omega
        have c1 := r1.cell hm
        have f1 := r1.frozen m
        have hki : (m : Int) < (k : Int) := by omega
        have hwk : IntKind.i64.wrap ((m : Int) + 1) = ((m + 1 : Nat) : Int) := wrap_succ (by omega)
        gi_wp2
        refine ⟨⟨((m + 1 : Nat) : Int), rfl, by omega, .inl (by omega), (r1.set x.2.1).congr (fun j hj => ?_), boxOther r2 (by simp) _, boxOther r4 (by simp; omega) _, r3.setCell (p := ⟨w.heap.size + 1, m, none⟩) (by simp) _, rX.other (by simp; omega) _, rK.trans ((KeepsOthers.setCell _ _ _).from _), rB.trans ⟨(Below.refl _ _).setCell (p := ⟨w.heap.size + 1, m, none⟩) (by simp) _, heap_setCell_other _ _ _ _ (by simp; omega)⟩⟩, by simp [intOf]; omega⟩
        exact paint_step (by omega)
       ·gi_wp2
        refine ⟨by rw [hsz] at rK; exact rK, rB, ⟨r1.congr (fun j hj => ?_), r2, r4⟩, r3⟩
        rw [List.map_append, List.reverse_append]
        show _ = ownW (x.2 :: (pre.map Prod.snd).reverse) (j : Int)
        rw [ownW, hE']
        exact paint_end (by omega) (by omega)
   case done =>
    rintro D zs W hD hz ⟨⟨p1, p2, p4⟩, p3⟩ hK
    have cS := p2.cell
    gi_wp2
    refine ⟨by simp, .inl ⟨_, _, rfl, run_takeDeferred hK, ?_⟩⟩
    refine ⟨_, results_tmp rfl _ _ _, w.heap.size + 1, Nat.le_succ _, rfl, ?_, p3.trans (belowK_b (w := w) (Nat.le_refl _) W D _ _ (by have := hB0.size; omega) hK rfl rfl)⟩
    have := p1.kept (grownBy_putObj' W D (.deferred none)) (by intro e; cases e; omega)
    rw [hz, List.reverse_reverse] at this
    exact this
   case stop =>
    rintro D c pre W _ _ h _
    exact h.elim
end Go.Ab.T
