import Derived.Test.YtajpmmjpkpgoeaaDoorAbA
set_option linter.unusedVariables false
set_option linter.unusedSimpArgs false
set_option linter.unusedSectionVars false
namespace Go.Ab.T
open Go Go.Ab
def Hidn (p : Prop) : Prop := p
theorem hid {p : Prop} (h : p) : Hidn p := h
theorem Hidn.out {p : Prop} (h : Hidn p) : p := h
def asCls : Err -> Option Int
 | .nil => none
 | .cls k => some k
 | .sec _ e => asCls e
 | .plc _ e => asCls e
def asSec : Err -> Option Int
 | .nil => none
 | .cls _ => none
 | .sec n _ => some n
 | .plc _ e => asSec e
def asPlc : Err -> Option Int
 | .nil => none
 | .cls _ => none
 | .sec _ e => asPlc e
 | .plc n _ => some n
def errDepth : Err -> Nat
 | .nil => 0
 | .cls _ => 1
 | .sec _ e => errDepth e + 1
 | .plc _ e => errDepth e + 1
structure Hit [DMode] (w w' : World) (tb : Nat) (ty : TypeId) (v : Value) : Prop where
 os : w'.os = w.os
 tape : Tp w w'
 output : w'.output = w.output
 size : w.heap.size <= w'.heap.size
 cell : w'.heap[tb]? = some (.cells #[v] ty (0, 0))
 keep : ∀ b, b < w.heap.size -> b ≠ tb -> w'.heap[b]? = w.heap[b]?
end Go.Ab.T
namespace Go.Ab.T
open Go Go.Ab
variable [DMode]
theorem heap_setCell_other (w : World) (p : Addr) (v : Value) (b : Nat) (h : b ≠ p.block) : (w.setCell p v).heap[b]? = w.heap[b]? := by
 simp [World.setCell, Array.getElem?_modify, Ne.symm h]
theorem heap_setCell_one (w : World) (tb : Nat) (v old : Value) (ty : TypeId) (h : w.heap[tb]? = some (.cells #[old] ty (0, 0))) : (w.setCell ⟨tb, 0, none⟩ v).heap[tb]? = some (.cells #[v] ty (0, 0)) := by
 simp [World.setCell, Array.getElem?_modify, h]
theorem lt_of_heap {w : World} {b : Nat} {o : Obj} (h : w.heap[b]? = some o) : b < w.heap.size := by
 rcases Nat.lt_or_ge b w.heap.size with h1 | h1
 ·exact h1
 ·rw [Array.getElem?_eq_none h1] at h; cases h
theorem hit_of {w W : World} {tb : Nat} {ty : TypeId} {old : Value} (v : Value) (hm : More w W) (ht : w.heap[tb]? = some (.cells #[old] ty (0, 0))) : Hit w (W.setCell ⟨tb, 0, none⟩ v) tb ty v where
 os := hm.os
 tape := hm.tape
 output := hm.output
 size := by
  have := hm.size
  simpa [World.setCell] using this
 cell := heap_setCell_one W tb v old ty ((hm.keep tb (lt_of_heap ht)).trans ht)
 keep := fun b hb hne => (heap_setCell_other W _ v b hne).trans (hm.keep b hb)
theorem Hit.more {w W W' : World} {tb : Nat} {ty : TypeId} {v : Value} (h : Hit w W tb ty v) (hm : More W W') : Hit w W' tb ty v where
 os := hm.os.trans h.os
 tape := hm.tape.trans h.tape
 output := hm.output.trans h.output
 size := Nat.le_trans h.size hm.size
 cell := (hm.keep tb (lt_of_heap h.cell)).trans h.cell
 keep := fun b hb hne => (hm.keep b (Nat.lt_of_lt_of_le hb h.size)).trans (h.keep b hb hne)
theorem Hit.alloc {w W : World} {tb : Nat} {ty : TypeId} {v : Value} (h : Hit w W tb ty v) (o : Obj) : Hit w (W.alloc o) tb ty v := h.more (More.alloc W o)
def AsPost (w : World) (tb : Nat) (ty : TypeId) (o : Option Int) (V : World -> Int -> Value -> Prop) (ev : Ending) (w' : World) : Prop :=
 match o with
 | some k => ev = .returned (.bool true) /\ ∃ v, V w' k v /\ Hit w w' tb ty v
 | none => ev = .returned (.bool false) /\ More w w'
theorem AsPost.hit {w w' : World} {tb : Nat} {ty : TypeId} {k : Int} {V : World -> Int -> Value -> Prop} {ev : Ending} (h : ev = .returned (.bool true)) (v : Value) (hv : V w' k v) (hh : Hit w w' tb ty v) : AsPost w tb ty (some k) V ev w' := ⟨h, v, hv, hh⟩
theorem AsPost.miss {w w' : World} {tb : Nat} {ty : TypeId} {V : World -> Int -> Value -> Prop} {ev : Ending} (h : ev = .returned (.bool false)) (hh : More w w') : AsPost w tb ty none V ev w' := ⟨h, hh⟩
theorem Hit.after {w W W' : World} {tb : Nat} {ty : TypeId} {v : Value} (hm : More w W) (h : Hit W W' tb ty v) : Hit w W' tb ty v where
 os := h.os.trans hm.os
 tape := h.tape.trans hm.tape
 output := h.output.trans hm.output
 size := Nat.le_trans hm.size h.size
 cell := h.cell
 keep := fun b hb hne => (h.keep b (Nat.lt_of_lt_of_le hb hm.size) hne).trans (hm.keep b hb)
theorem AsPost.after {w W w' : World} {tb : Nat} {ty : TypeId} {o : Option Int} {V : World -> Int -> Value -> Prop} {ev : Ending} (hm : More w W) (h : AsPost W tb ty o V ev w') : AsPost w tb ty o V ev w' := by
 cases o with
 | none => exact ⟨h.1, hm.trans h.2⟩
 | some k => obtain ⟨h1, v, h2, h3⟩ := h; exact ⟨h1, v, h2, h3.after hm⟩
theorem Hit.two {w w' : World} {tb : Nat} {ty : TypeId} {v old : Value} (h : Hit w w' tb ty v) (ht : w.heap[tb]? = some (.cells #[old] ty (0, 0))) {b : Nat} {x y : Value} {t : TypeId} {fr : Nat × Nat} (hb : w.heap[b]? = some (.cells #[x, y] t fr)) : w'.heap[b]? = some (.cells #[x, y] t fr) := by
 refine (h.keep b (lt_of_heap hb) ?_).trans hb
 rintro rfl
 rw [ht] at hb
 simp at hb
theorem cell_of {w : World} {b : Nat} {v : Value} {ty : TypeId} {fr : Nat × Nat} (h : w.heap[b]? = some (.cells #[v] ty fr)) : w.cell? ⟨b, 0, none⟩ = some v := by simp [World.cell?, h]
theorem frozen_of {w : World} {b : Nat} {v : Value} {ty : TypeId} (h : w.heap[b]? = some (.cells #[v] ty (0, 0))) : w.frozen? ⟨b, 0, none⟩ = false := by simp [World.frozen?, h]
end Go.Ab.T
namespace Go.Ab.T
open Go Go.Ab
variable [DMode]
def ofE (e : Err) : Int × Int × Int := match e with
 | .nil => (0, 0, 0)
 | e => ((asCls e).getD 1, (asSec e).getD 0, (asPlc e).getD 0)
def Keep (w W : World) : Prop := w.heap.size <= W.heap.size /\ (∀ b, b < w.heap.size -> W.heap[b]? = w.heap[b]?) /\ W.os = w.os /\ Tp w W /\ W.output = w.output
theorem Keep.refl (w : World) : Keep w w := ⟨Nat.le_refl _, fun _ _ => rfl, rfl, .refl _, rfl⟩
theorem Keep.alloc {w W : World} (h : Keep w W) (o : Obj) : Keep w (W.alloc o) :=
 ⟨Nat.le_trans h.1 (More.alloc W o).size, fun b hb => ((More.alloc W o).keep b (Nat.lt_of_lt_of_le hb h.1)).trans (h.2.1 b hb), h.2.2.1, h.2.2.2.1, h.2.2.2.2⟩
theorem Keep.set {w W : World} (h : Keep w W) (p : Addr) (v : Value) (hp : w.heap.size <= p.block) : Keep w (W.setCell p v) :=
 ⟨by have := h.1; simpa [World.setCell] using this, fun b hb => (heap_setCell_other W p v b (by omega)).trans (h.2.1 b hb), h.2.2.1, h.2.2.2.1, h.2.2.2.2⟩
theorem Keep.hit {w W W' : World} (h : Keep w W) {tb : Nat} {ty : TypeId} {v : Value} (hh : Hit W W' tb ty v) (ht : w.heap.size <= tb) : Keep w W' :=
 ⟨Nat.le_trans h.1 hh.size, fun b hb => (hh.keep b (Nat.lt_of_lt_of_le hb h.1) (by omega)).trans (h.2.1 b hb), hh.os.trans h.2.2.1, hh.tape.trans h.2.2.2.1, hh.output.trans h.2.2.2.2⟩
theorem Keep.more {w W W' : World} (h : Keep w W) (hh : More W W') : Keep w W' :=
 ⟨Nat.le_trans h.1 hh.size, fun b hb => (hh.keep b (Nat.lt_of_lt_of_le hb h.1)).trans (h.2.1 b hb), hh.os.trans h.2.2.1, hh.tape.trans h.2.2.2.1, hh.output.trans h.2.2.2.2⟩
theorem Keep.toMore {w W : World} (h : Keep w W) : More w W := ⟨h.2.2.1, h.2.2.2.1, h.2.2.2.2, h.1, h.2.1⟩
theorem Keep.err {w W : World} (h : Keep w W) {I : Ids} {M : Nat -> Prop} {e : Err} {ve : Value} (hr : RepErr I M w e ve) : RepErr I M W e ve :=
 RepErr.mono (fun b o hM hb => ⟨hM, (h.2.1 b (lt_of_heap hb)).trans hb⟩) e ve hr
theorem Keep.cell {w W : World} (h : Keep w W) {p : Addr} {v : Value} (hp : w.cell? p = some v) : W.cell? p = some v := by
 have hlt : p.block < w.heap.size := by
  rcases Nat.lt_or_ge p.block w.heap.size with h | h
  ·exact h
  ·simp [World.cell?, Array.getElem?_eq_none h] at hp
 unfold World.cell? at hp ⊢
 rw [h.2.1 p.block hlt]; exact hp
theorem cells3 {w : World} {b : Nat} {x y z : Value} {ty : TypeId} (h : w.heap[b]? = some (.cells #[x, y, z] ty (0, 0))) :
 (w.cell? ⟨b, 0, none⟩ = some x /\ w.cell? ⟨b, 1, none⟩ = some y /\ w.cell? ⟨b, 2, none⟩ = some z) /\ (w.frozen? ⟨b, 0, none⟩ = false /\ w.frozen? ⟨b, 1, none⟩ = false /\ w.frozen? ⟨b, 2, none⟩ = false) := by
 simp [World.cell?, World.frozen?, h]
theorem cells2 {w : World} {b : Nat} {x y : Value} {ty : TypeId} {fr : Nat × Nat} (h : w.heap[b]? = some (.cells #[x, y] ty fr)) : w.cell? ⟨b, 0, none⟩ = some x /\ w.cell? ⟨b, 1, none⟩ = some y := by
 simp [World.cell?, h]
theorem heap_new (W : World) (o : Obj) (b : Nat) (h : b = W.heap.size) : (W.alloc o).heap[b]? = some o := by
 subst h
 show (W.heap.push o)[W.heap.size]? = some o
 simp
theorem heap_old (W : World) (o : Obj) {b : Nat} {x : Obj} (h : W.heap[b]? = some x) : (W.alloc o).heap[b]? = some x := ((More.alloc W o).keep b (lt_of_heap h)).trans h
theorem heap_set3a (W : World) (v : Value) {b : Nat} {x y z : Value} {ty : TypeId} (h : W.heap[b]? = some (.cells #[x, y, z] ty (0, 0))) : (W.setCell ⟨b, 0, none⟩ v).heap[b]? = some (.cells #[v, y, z] ty (0, 0)) := by
 simp [World.setCell, Array.getElem?_modify, h]
theorem heap_set3b (W : World) (v : Value) {b : Nat} {x y z : Value} {ty : TypeId} (h : W.heap[b]? = some (.cells #[x, y, z] ty (0, 0))) : (W.setCell ⟨b, 1, none⟩ v).heap[b]? = some (.cells #[x, v, z] ty (0, 0)) := by
 simp [World.setCell, Array.getElem?_modify, h]
theorem heap_set_ne (W : World) (p : Addr) (v : Value) {b : Nat} {o : Obj} (h : W.heap[b]? = some o) (hne : b ≠ p.block) : (W.setCell p v).heap[b]? = some o := (heap_setCell_other W p v b hne).trans h
end Go.Ab.T
