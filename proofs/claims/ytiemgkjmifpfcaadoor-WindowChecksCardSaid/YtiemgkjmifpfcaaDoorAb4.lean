import Derived.Test.YtiemgkjmifpfcaaDoorAb3
set_option linter.unusedVariables false
set_option linter.unusedSimpArgs false
namespace Go.Ab
open Go
variable {K : Codes} {G : Sig}

def upd (η : Eta) (o : Nat) (b : Option Nat) : Eta := fun p => if p = o then b else η p
theorem upd_same (η : Eta) (o : Nat) (b : Option Nat) : upd η o b o = b := if_pos rfl
theorem upd_ne (η : Eta) {o p : Nat} (b : Option Nat) (h : p ≠ o) : upd η o b p = η p := if_neg h

theorem renO_some (x : AObj K) : renO some x = x := by cases x <;> simp [renO, PV.ren_id_go]

theorem get_snoc {α : Type _} (L : List α) (x : α) (o : Nat) (y : α) (h : (L ++ [x])[o]? = some y) : (o < L.length ∧ L[o]? = some y) ∨ (o = L.length ∧ y = x) := by
  rcases Nat.lt_trichotomy o L.length with ho | ho | ho
  · rw [List.getElem?_append_left ho] at h; exact .inl ⟨ho, h⟩
  · subst ho; rw [List.getElem?_append_right (Nat.le_refl _)] at h; simp at h; exact .inr ⟨rfl, h.symm⟩
  · rw [List.getElem?_eq_none (by simp; omega)] at h; cases h

/-- A world with more blocks, the old ones as they were. -/
structure More (w w' : World) : Prop where
  os : w'.os = w.os
  tape : w'.tape = w.tape
  output : w'.output = w.output
  size : w.heap.size ≤ w'.heap.size
  keep : ∀ b, b < w.heap.size → w'.heap[b]? = w.heap[b]?

theorem More.refl (w : World) : More w w := ⟨rfl, rfl, rfl, Nat.le_refl _, fun _ _ => rfl⟩
theorem More.alloc (w : World) (o : Obj) : More w (w.alloc o) :=
  ⟨rfl, rfl, rfl, by simp, fun b hb => Go.RowKit.Below.heap_alloc w o b hb⟩
theorem More.of_heap {w w' : World} (h : w'.heap = w.heap) (h1 : w'.os = w.os) (h2 : w'.tape = w.tape) (h3 : w'.output = w.output) : More w w' :=
  ⟨h1, h2, h3, by rw [h]; exact Nat.le_refl _, fun _ _ => by rw [h]⟩
theorem More.trans {a b c : World} (h : More a b) (k : More b c) : More a c :=
  ⟨k.os.trans h.os, k.tape.trans h.tape, k.output.trans h.output, Nat.le_trans h.size k.size, fun i hi => (k.keep i (Nat.lt_of_lt_of_le hi h.size)).trans (h.keep i hi)⟩
theorem blk_lt {w : World} {b : Nat} {o : Obj} (h : w.heap[b]? = some o) : b < w.heap.size := (Array.getElem?_eq_some_iff.1 h).1
theorem More.blk {w w' : World} (h : More w w') {b : Nat} {o : Obj} (hb : w.heap[b]? = some o) : w'.heap[b]? = some o := (h.keep b (blk_lt hb)).trans hb

theorem ObjRel.lt {L : Heap K} {η : Eta} {w : World} {o : Nat} {x : AObj K} (hx : ObjRel G L η w o x) (hl : x.live = true) {b : Nat} (hb : η o = some b) : b < w.heap.size := by
  cases x with
  | gone => cases hl
  | box cs => obtain ⟨b', t, cells, h1, h2, _⟩ := hx; rw [hb] at h1; cases h1; exact blk_lt h2
  | row e xs =>
    rcases hx with ⟨_, h2⟩ | ⟨b', cells, h1, h2, _⟩
    · rw [hb] at h2; cases h2
    · rw [hb] at h1; cases h1; exact blk_lt h2

theorem HeapRel.lt {L : Heap K} {η : Eta} {w : World} (h : HeapRel G L η w) {b : Nat} (hb : Mut L η b) : b < w.heap.size := by
  obtain ⟨o, x, h1, h2, h3⟩ := hb
  exact (h.obj o x h1).lt h2 h3

theorem Fwd.more {L : Heap K} {η : Eta} {w w' : World} (h : More w w') : Fwd L η w L η w' noBad :=
  ⟨h.os, h.tape, h.output, h.size, fun b hb _ => h.keep b hb, fun _ q => .inl q, Nat.le_refl _, fun _ cs _ q => ⟨cs, q, rfl⟩, fun _ _ xs _ q => ⟨xs, q⟩,
    fun _ _ xs _ _ q => ⟨xs, q, rfl, rfl, fun b cells t fr _ hb => ⟨cells, t, fr, h.blk hb, rfl⟩⟩, fun _ _ _ h => .inl h⟩

theorem HeapRel.more {L : Heap K} {η : Eta} {w w' : World} (hh : HeapRel G L η w) (h : More w w') : HeapRel G L η w' := by
  have hm := (Fwd.more (L := L) (η := η) h).moves (C := G) (fun b hb => (hh.ext b hb).1)
  refine ⟨?_, hh.inj, fun b hb => ⟨Nat.lt_of_lt_of_le (hh.ext b hb).1 h.size, (hh.ext b hb).2⟩, hh.none⟩
  intro o x hL
  cases hl : x.live with
  | false => cases x <;> first | exact trivial | cases hl
  | true =>
    have := (hh.obj o x hL).mono hm (o' := o) rfl (fun b hb => h.keep b ((hh.obj o x hL).lt hl hb))
    rw [butB_noBad, renO_some] at this
    exact this

theorem RelT.more {C : Cfg K} {N : Nat} {env : List PV} {L : Heap K} {η : Eta} {w w' : World} {a : Act} (h : RelT C G N env L η w a) (hm : More w w') : RelT C G N env L η w' a :=
  h.step0 (Fwd.more hm) (h.heap.more hm)

/-- A new object. -/
theorem push_fwd {L : Heap K} {η : Eta} {w w' : World} (hh : HeapRel G L η w) (h : More w w') (x : AObj K) (nb : Option Nat) (hnb : ∀ b, nb = some b → w.heap.size ≤ b) :
    Fwd L η w (L ++ [x]) (upd η L.length nb) w' noBad where
  os := h.os
  tape := h.tape
  output := h.output
  size := h.size
  keep := fun b hb _ => h.keep b hb
  muts := by
    rintro b ⟨o, y, h1, h2, h3⟩
    rcases get_snoc L x o y h1 with ⟨ho, h1⟩ | ⟨rfl, rfl⟩
    · rw [upd_ne _ _ (by omega)] at h3; exact .inl ⟨o, y, h1, h2, h3⟩
    · rw [upd_same] at h3; exact .inr (hnb b h3)
  len := by simp
  box := by
    intro o cs' ho hL
    rw [List.getElem?_append_left ho] at hL
    exact ⟨cs', hL, upd_ne _ _ (by omega)⟩
  kind := by
    intro o e xs' ho hL
    rw [List.getElem?_append_left ho] at hL
    exact ⟨xs', hL⟩
  row := by
    intro o e xs' ho _ hL
    rw [List.getElem?_append_left ho] at hL
    exact ⟨xs', hL, rfl, upd_ne _ _ (by omega), fun b cells t fr _ hb => ⟨cells, t, fr, h.blk hb, rfl⟩⟩
  trk := by
    intro o b ho hb
    rw [upd_ne _ _ (by omega)] at hb
    exact .inl hb

theorem push_heap {L : Heap K} {η : Eta} {w w' : World} (hh : HeapRel G L η w) (h : More w w') (x : AObj K) (nb : Option Nat) (hnb : ∀ b, nb = some b → w.heap.size ≤ b)
    (hx : ObjRel G (L ++ [x]) (upd η L.length nb) w' L.length x) : HeapRel G (L ++ [x]) (upd η L.length nb) w' := by
  have hf := push_fwd hh h x nb hnb
  have hm := hf.moves (C := G) (fun b hb => (hh.ext b hb).1)
  refine ⟨?_, ?_, ?_, ?_⟩
  · intro o y hL
    rcases get_snoc L x o y hL with ⟨ho, h1⟩ | ⟨rfl, rfl⟩
    · cases hl : y.live with
      | false => cases y <;> first | exact trivial | cases hl
      | true =>
        have := (hh.obj o y h1).mono hm (o' := o) (upd_ne _ _ (by omega)) (fun b hb => h.keep b ((hh.obj o y h1).lt hl hb))
        rw [butB_noBad, renO_some] at this
        exact this
    · exact hx
  · intro o o' y y' b h1 h2 h3 h4 h5 h6
    rcases get_snoc L x o y h1 with ⟨ho, g1⟩ | ⟨ho, g1⟩ <;> rcases get_snoc L x o' y' h2 with ⟨ho', g2⟩ | ⟨ho', g2⟩
    · rw [upd_ne _ _ (by omega)] at h5 h6; exact hh.inj o o' y y' b g1 g2 h3 h4 h5 h6
    · rw [upd_ne _ _ (by omega)] at h5; rw [ho', upd_same] at h6
      have := (hh.obj o y g1).lt h3 h5; have := hnb b h6; omega
    · rw [upd_ne _ _ (by omega)] at h6; rw [ho, upd_same] at h5
      have := (hh.obj o' y' g2).lt h4 h6; have := hnb b h5; omega
    · omega
  · intro b hb
    have hlt := (hh.ext b hb).1
    refine ⟨Nat.lt_of_lt_of_le hlt h.size, fun q => ?_⟩
    rcases hf.muts b q with q | q
    · exact (hh.ext b hb).2 q
    · omega
  · intro o ho
    rw [upd_ne _ _ (by simp at ho; omega)]
    exact hh.none o (by simp at ho; omega)

theorem heap_new (w : World) (o : Obj) : (w.alloc o).heap[w.heap.size]? = some o := by
  show (w.heap.push o)[w.heap.size]? = _
  simp

/-- What was told of values is told behind a step. -/
theorem Fwd.rep {L L' : Heap K} {η η' : Eta} {w w' : World} (hf : Fwd L η w L' η' w' noBad) (hh : HeapRel G L η w) {x : PV} {l : List Value} (hx : Rep G L η w x l) : Rep G L' η' w' x l := by
  have := Rep.mono (hf.moves (C := G) fun b hb => (hh.ext b hb).1) x l hx
  rw [butB_noBad, PV.ren_id] at this; exact this
theorem Fwd.rep_go {L L' : Heap K} {η η' : Eta} {w w' : World} (hf : Fwd L η w L' η' w' noBad) (hh : HeapRel G L η w) {x : List PV} {l : List Value} (hx : Rep.go G L η w x l) : Rep.go G L' η' w' x l := by
  have := Rep.mono_go (hf.moves (C := G) fun b hb => (hh.ext b hb).1) x l hx
  rw [butB_noBad, PV.ren_id_go] at this; exact this
theorem Fwd.repV {L L' : Heap K} {η η' : Eta} {w w' : World} (hf : Fwd L η w L' η' w' noBad) (hh : HeapRel G L η w) {x : PV} {v : Value} (hx : RepV G L η w x v) : RepV G L' η' w' x v := by
  have := RepV.mono (hf.moves (C := G) fun b hb => (hh.ext b hb).1) hx
  rw [butB_noBad, PV.ren_id] at this; exact this
theorem Fwd.repF {L L' : Heap K} {η η' : Eta} {w w' : World} {bad : Nat → Bool} (hf : Fwd L η w L' η' w' bad) (hh : HeapRel G L η w) {x : PV} {l : List Value} (hx : RepF G.I (Mx G L η) w x l) : RepF G.I (Mx G L' η') w' x l :=
  RepF.mono (hf.moves (C := G) fun b hb => (hh.ext b hb).1).froz x l hx

/-- A new variable. -/
theorem push_box {L : Heap K} {η : Eta} {w : World} (hh : HeapRel G L η w) (cs : List PV) (cells : List Value) (t : TypeId) (hc : Rep.go G L η w cs cells) :
    Fwd L η w (L ++ [.box cs]) (upd η L.length (some w.heap.size)) (w.alloc (.cells ⟨cells⟩ t)) noBad ∧
    HeapRel G (L ++ [.box cs]) (upd η L.length (some w.heap.size)) (w.alloc (.cells ⟨cells⟩ t)) := by
  have hf := push_fwd hh (More.alloc w (.cells ⟨cells⟩ t)) (.box cs) (some w.heap.size) (fun b hb => by cases hb; exact Nat.le_refl _)
  exact ⟨hf, push_heap hh (More.alloc w _) _ _ (fun b hb => by cases hb; exact Nat.le_refl _)
    ⟨w.heap.size, t, cells, upd_same _ _ _, heap_new w _, hf.rep_go hh hc⟩⟩

/-- An empty row that has no block yet. -/
theorem push_nil {L : Heap K} {η : Eta} {w : World} (hh : HeapRel G L η w) (e : TypeId) :
    Fwd L η w (L ++ [.row e []]) (upd η L.length none) w noBad ∧ HeapRel G (L ++ [.row e []]) (upd η L.length none) w :=
  ⟨push_fwd hh (More.refl w) _ none (fun b hb => by cases hb), push_heap hh (More.refl w) _ none (fun b hb => by cases hb) (.inl ⟨rfl, upd_same _ _ _⟩)⟩

theorem RowRel.fwd {L L' : Heap K} {η η' : Eta} {w w' : World} {bad : Nat → Bool} (hf : Fwd L η w L' η' w' bad) (hh : HeapRel G L η w) {s : Nat} {c : Cod} {xs : List c.α} {cells : Array Value}
    (h : RowRel G (Mx G L η) w s c xs cells) : RowRel G (Mx G L' η') w' s c xs cells := by
  obtain ⟨h1, h2, h3⟩ := h
  refine ⟨h1, h2, fun i x hi => ?_⟩
  obtain ⟨cs, c1, c2, c3⟩ := h3 i x hi
  exact ⟨cs, c1, hf.repF hh c2, c3⟩

/-- A new row. -/
theorem push_row {L : Heap K} {η : Eta} {w w' : World} (hh : HeapRel G L η w) (hm : More w w') (e : TypeId) (xs : List (K e).α) (b : Nat) (cells : Array Value) (hb : w.heap.size ≤ b)
    (hbl : w'.heap[b]? = some (.cells cells e (0, 0))) (hr : RowRel G (Mx G L η) w (G.sz e) (K e) xs cells) :
    Fwd L η w (L ++ [.row e xs]) (upd η L.length (some b)) w' noBad ∧ HeapRel G (L ++ [.row e xs]) (upd η L.length (some b)) w' := by
  have hf := push_fwd hh hm (.row e xs) (some b) (fun b' hb' => by cases hb'; exact hb)
  exact ⟨hf, push_heap hh hm _ _ (fun b' hb' => by cases hb'; exact hb) (.inr ⟨b, cells, upd_same _ _ _, hbl, hr.fwd hf hh⟩)⟩
end Go.Ab
