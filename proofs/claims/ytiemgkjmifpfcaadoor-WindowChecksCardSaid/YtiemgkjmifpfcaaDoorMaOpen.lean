import Derived.Test.YtiemgkjmifpfcaaDoorMaLoop
import Derived.Deep.Slices
import Derived.WideShapes
import Derived.ChangeArms
set_option linter.unusedVariables false
set_option linter.unusedSimpArgs false
namespace Go.Ab.T
open Go Go.Ab Go.Deep Go.WideShapes Go.ChangeShapes

section
variable {P : Program} {I : Ids}
def NoM : Nat → Prop := fun _ => False

/-- What can be read as data of a type is told by values of another one. -/
structure Opens (P : Program) (I : Ids) (t : TypeId) {α : Type} (cells : α → List PV) (good : α → Prop) : Prop where
  get : ∀ {H : Type} (encH : TypeId × Value → H) (w : World) (base : Nat) (spare : Nat → Bool) (held : Bool) (fuel : Nat) (cs : List Value) (x : DataW H × List MemPlace),
    DataW.trod encH P w base spare held fuel t cs = some x → ∃ a, good a ∧ RepF.go I NoM w (cells a) cs

structure OpensF (P : Program) (I : Ids) (fs : List (TypeId × Nat)) (o n : Nat) {α : Type} (cells : α → List PV) (good : α → Prop) : Prop where
  get : ∀ {H : Type} (encH : TypeId × Value → H) (w : World) (base : Nat) (spare : Nat → Bool) (held : Bool) (fuel : Nat) (cs : List Value), cs.length = n →
    (∀ (j : Nat) (f : TypeId × Nat), fs[j]? = some f → ∃ y, DataW.trod encH P w base spare held fuel f.1 ((cs.drop (f.2 - o)).take (P.cellsOf f.1)) = some y) → ∃ a, good a ∧ RepF.go I NoM w (cells a) cs

theorem go_one {M : Nat → Prop} {w : World} {x : PV} {v : Value} (hx : x.isAgg = false) (hv : v.oneCell' = true) (h : RepF I M w x [v]) : RepF.go I M w [x] [v] := ⟨v, [], rfl, ⟨hx, hv⟩, h, rfl⟩
theorem go_append {M : Nat → Prop} {w : World} : ∀ {xs ys : List PV} {l m : List Value}, RepF.go I M w xs l → RepF.go I M w ys m → RepF.go I M w (xs ++ ys) (l ++ m)
  | [], _, l, m, h, h' => by simp only [RepF.go] at h; subst h; exact h'
  | x :: xs, ys, l, m, h, h' => by
    obtain ⟨v, r, rfl, h0, h1, h2⟩ := h
    exact ⟨v, r ++ m, rfl, h0, h1, go_append h2 h'⟩

theorem opens_int {t : TypeId} {k : IntKind} (ht : P.underlying t = some (.int k)) : Opens P I t (fun n : Int => [.int k n]) (fun n => (Lit.int k n).wf = true) := by
  refine ⟨?_⟩
  intro H encH w base spare held fuel cs x h
  obtain ⟨n, rfl, _, hw⟩ := DataW.trod_int ht h
  exact ⟨n, hw, go_one rfl rfl rfl⟩
theorem opens_u8 {t : TypeId} (ht : P.underlying t = some (.int .u8)) : Opens P I t (fun n : UInt8 => [.int .u8 n.toNat]) (fun _ => True) := by
  refine ⟨?_⟩
  intro H encH w base spare held fuel cs x h
  obtain ⟨n, rfl, _, hw⟩ := DataW.trod_int ht h
  have hn : 0 ≤ n ∧ n < 256 := by
    have : (decide (IntKind.u8.min ≤ n) && decide (n ≤ IntKind.u8.max)) = true := hw
    simp [IntKind.min, IntKind.max, IntKind.signed, IntKind.bits] at this
    omega
  refine ⟨UInt8.ofNat n.toNat, trivial, go_one rfl rfl ?_⟩
  show [Value.int .u8 n] = [Value.int .u8 ((UInt8.ofNat n.toNat).toNat : Int)]
  have : ((UInt8.ofNat n.toNat).toNat : Int) = n := by
    rw [UInt8.toNat_ofNat']; omega
  rw [this]
theorem opens_bool {t : TypeId} (ht : P.underlying t = some .bool) : Opens P I t (fun b : Bool => [.bool b]) (fun _ => True) := by
  refine ⟨?_⟩
  intro H encH w base spare held fuel cs x h
  obtain ⟨b, rfl, _⟩ := DataW.trod_bool ht h
  exact ⟨b, trivial, go_one rfl rfl rfl⟩
theorem opens_str {t : TypeId} (ht : P.underlying t = some .string) : Opens P I t (fun s : ByteArray => [.str s]) (fun s => s.size ≤ maxLen) := by
  refine ⟨?_⟩
  intro H encH w base spare held fuel cs x h
  obtain ⟨s, rfl, _, hs⟩ := DataW.trod_string ht h
  exact ⟨s, hs, go_one rfl rfl rfl⟩

theorem add_none {a : Addr} (h : a.spot = none) (n : Nat) : a.add n = ⟨a.block, a.off + n, none⟩ := by
  unfold Addr.add
  split
  · rename_i h0; subst h0; cases a; simp_all
  · rfl
theorem cell_some {w : World} {a : Addr} {v : Value} (h : w.cell? a = some v) : a.spot = none ∧ ∃ cells t fr, w.heap[a.block]? = some (.cells cells t fr) ∧ cells[a.off]? = some v := by
  unfold World.cell? at h
  split at h
  · rename_i c t fr hh
    split at h
    · cases h
    · rename_i hs
      exact ⟨by simpa using hs, c, t, fr, hh, h⟩
  · cases h

theorem opens_slice {t e : TypeId} {s : Nat} (ht : P.underlying t = some (.slice e)) (hC : P.cellsOf e = s) (hs : Nat.blt 0 s = true) {α : Type} {enc : α → PV} {cells : α → List PV} {good : α → Prop}
    (henc : ∀ (w : World) a cs, RepF.go I NoM w (cells a) cs → RepF I NoM w (enc a) cs) (ho : Opens P I e cells good) :
    Opens P I t (fun l : List α => [.sl α enc l]) (fun l => l.length ≤ maxLen ∧ ∀ a, a ∈ l → good a) := by
  refine ⟨?_⟩
  intro H encH w base spare held fuel cs x h
  have hs : 0 < s := by rwa [Nat.blt_eq] at hs
  rcases open_slice ht h with ⟨rfl, _⟩ | ⟨a, len, cap, m, n, D, Pl, rfl, _, hlc, hcm, hm, _, hel⟩
  · exact ⟨[], ⟨Nat.zero_le _, fun a h => by cases h⟩, go_one rfl rfl ⟨none, 0, rfl, Nat.le_refl _, .inl rfl⟩⟩
  · rw [hC] at hel
    have hml : len ≤ m := by rw [hm]; split <;> omega
    have each : ∀ i, i < len → ∃ (y : α) (cs' : List Value), good y ∧ RepF.go I NoM w (cells y) cs' ∧ cs'.length = s ∧ ∀ j, j < s → w.cell? ((a.add (i * s)).add j) = cs'[j]? := by
      intro i hi
      obtain ⟨cs', h1, h2⟩ := hel i (by omega)
      obtain ⟨_, h3, h4⟩ := World.cells?_some h1
      obtain ⟨y, hy, hr⟩ := ho.get encH w base spare held n cs' _ h2
      exact ⟨y, cs', hy, hr, h3, h4⟩
    have mk : ∀ k, k ≤ len → ∃ l : List α, l.length = k ∧ (∀ i y, l[i]? = some y → ∃ cs' : List Value, good y ∧ RepF.go I NoM w (cells y) cs' ∧ cs'.length = s ∧ ∀ j, j < s → w.cell? ((a.add (i * s)).add j) = cs'[j]?) := by
      intro k
      induction k with
      | zero => intro _; exact ⟨[], rfl, fun i y h => by simp at h⟩
      | succ k ih =>
        intro hk
        obtain ⟨l, hl, hall⟩ := ih (by omega)
        obtain ⟨y, cs', hy⟩ := each k (by omega)
        refine ⟨l ++ [y], by simp [hl], fun i z hz => ?_⟩
        rcases Nat.lt_or_ge i l.length with hi | hi
        · rw [List.getElem?_append_left hi] at hz; exact hall i z hz
        · rw [List.getElem?_append_right hi] at hz
          have : i - l.length = 0 := by
            rcases Nat.eq_zero_or_pos (i - l.length) with h | h
            · exact h
            · rw [List.getElem?_eq_none (by simp; omega)] at hz; cases hz
          rw [this] at hz
          simp at hz
          subst hz
          have : i = k := by omega
          subst this
          exact ⟨cs', hy⟩
    obtain ⟨l, hl, hall⟩ := mk len (Nat.le_refl _)
    refine ⟨l, ⟨by omega, fun y hy => ?_⟩, go_one rfl rfl ⟨some a, cap, by rw [hl], by omega, ?_⟩⟩
    · obtain ⟨i, hi⟩ := List.mem_iff_getElem?.1 hy
      obtain ⟨_, h1, _⟩ := hall i y hi
      exact h1
    · rcases Nat.eq_zero_or_pos len with h0 | h0
      · left; exact List.eq_nil_of_length_eq_zero (by omega)
      · right
        obtain ⟨y0, hy0⟩ : ∃ y, l[0]? = some y := ⟨l[0]'(by omega), List.getElem?_eq_getElem (by omega)⟩
        obtain ⟨cs0, _, _, hlen0, hc0⟩ := hall 0 y0 hy0
        have hc00 := hc0 0 hs
        rw [List.getElem?_eq_getElem (by omega)] at hc00
        have ha0 : (a.add (0 * s)).add 0 = a := by rw [Nat.zero_mul]; rfl
        rw [ha0] at hc00
        obtain ⟨hsp, cells0, t0, fr0, hh, _⟩ := cell_some hc00
        refine ⟨a.block, a.off, s, cells0, t0, fr0, by cases a; simp_all, hs, fun h => h, hh, fun i y hi => ?_⟩
        obtain ⟨cs', _, hr, hlen, hcell⟩ := hall i y hi
        refine ⟨cs', hlen, henc w y cs' hr, fun j v hj => ?_⟩
        have hjs : j < s := by rw [← hlen]; exact (List.getElem?_eq_some_iff.1 hj).1
        have hc := hcell j hjs
        rw [hj, add_none hsp, add_none (by rfl)] at hc
        obtain ⟨_, c2, t2, fr2, hh2, hv2⟩ := cell_some hc
        simp only at hh2 hv2
        rw [hh] at hh2
        cases hh2
        exact hv2

theorem opensF_one {t : TypeId} {o n : Nat} {α : Type} {cells : α → List PV} {good : α → Prop} (hn : P.cellsOf t = n) (h : Opens P I t cells good) : OpensF P I [(t, o)] o n cells good := by
  refine ⟨?_⟩
  intro H encH w base spare held fuel cs hlen hall
  obtain ⟨y, hy⟩ := hall 0 _ rfl
  simp only at hy
  rw [Nat.sub_self, List.drop_zero, hn, ← hlen, List.take_length] at hy
  exact h.get encH w base spare held fuel cs y hy
theorem opensF_cons {t : TypeId} {fs : List (TypeId × Nat)} {o c n : Nat} {α β : Type} {cells : α → List PV} {good : α → Prop} {cells2 : β → List PV} {good2 : β → Prop} (hc : P.cellsOf t = c)
    (h : Opens P I t cells good) (hoff : (fs.all fun g => Nat.ble (o + c) g.2) = true) (h2 : OpensF P I fs (o + c) n cells2 good2) :
    OpensF P I ((t, o) :: fs) o (c + n) (fun x : α × β => cells x.1 ++ cells2 x.2) (fun x => good x.1 ∧ good2 x.2) := by
  refine ⟨?_⟩
  intro H encH w base spare held fuel cs hlen hall
  obtain ⟨y, hy⟩ := hall 0 _ rfl
  simp only at hy
  rw [Nat.sub_self, List.drop_zero, hc] at hy
  obtain ⟨a, ha, hra⟩ := h.get encH w base spare held fuel _ y hy
  obtain ⟨b, hb, hrb⟩ := h2.get encH w base spare held fuel (cs.drop c) (by rw [List.length_drop, hlen]; omega) (fun j g hg => by
    obtain ⟨z, hz⟩ := hall (j + 1) g hg
    have hge : o + c ≤ g.2 := by
      have := List.all_eq_true.1 hoff g (List.mem_of_getElem? hg)
      exact Nat.le_of_ble_eq_true this
    refine ⟨z, ?_⟩
    rw [List.drop_drop, show c + (g.2 - (o + c)) = g.2 - o by omega]
    exact hz)
  refine ⟨(a, b), ⟨ha, hb⟩, ?_⟩
  have := go_append hra hrb
  rwa [List.take_append_drop] at this
theorem opens_struct {t : TypeId} {fs : Array Field} {ps : List (TypeId × Nat)} {n : Nat} (ht : P.underlying t = some (.struct fs)) (hps : fs.toList.map (fun f => (f.type, f.offset)) = ps) (hn : P.cellsOf t = n) {α : Type} {cells : α → List PV} {good : α → Prop}
    (h : OpensF P I ps 0 n cells good) : Opens P I t cells good := by
  refine ⟨?_⟩
  intro H encH w base spare held fuel cs x hx
  obtain ⟨xs, m, _, _, hlen, hsz, hall⟩ := DataW.trod_struct ht hx
  refine h.get encH w base spare held m cs (by rw [hlen, hn]) (fun j f hj => ?_)
  rw [← hps, List.getElem?_map] at hj
  obtain ⟨g, hg, rfl⟩ := Option.map_eq_some_iff.1 hj
  have hj' : fs[j]? = some g := by rw [← Array.getElem?_toList]; exact hg
  have h1 := hall j g hj'
  have hjlt : j < xs.length := by rw [hsz]; exact (Array.getElem?_eq_some_iff.1 hj').1
  rw [List.getElem?_eq_getElem hjlt] at h1
  simp only [Nat.sub_zero]
  exact ⟨_, h1⟩

/-- An argument. -/
theorem Opens.arg {t : TypeId} {α : Type} {enc : α → PV} {cells : α → List PV} {good : α → Prop} (ho : Opens P I t cells good) (hagg : ∀ a, (enc a).isAgg = (match P.underlying t with | some (.struct _) | some (.array _ _) => true | _ => false))
    (henc : ∀ (w : World) a cs, RepF.go I NoM w (cells a) cs → RepF I NoM w (enc a) cs) {H : Type} {encH : TypeId × Value → H} {w W : World} {base : Nat} {spare : Nat → Bool} {held : Bool} {r : Reach} {b0 : Nat} {v : Value} {d : DataW H} {ps : List MemPlace}
    (hv : Value.okWide P W r b0 t v) (h : DataW.Trod encH P w base spare held t v d ps) : ∃ a, good a ∧ RepF I NoM w (enc a) v.cells.toList ∧ isAggV v = (enc a).isAgg := by
  obtain ⟨fuel, h⟩ := h
  obtain ⟨a, ha, hr⟩ := ho.get encH w base spare held fuel _ _ h
  refine ⟨a, ha, henc w a _ hr, ?_⟩
  rw [hagg]
  cases hu : P.underlying t with
  | none =>
    cases fuel with
    | zero => simp [DataW.trod] at h
    | succ n => simp [DataW.trod, hu] at h
  | some td =>
    have notag : ∀ {v : Value}, Value.okWide P W r b0 t v → (match some td with | some (.struct _) | some (.array _ _) => true | _ => false) = false → isAggV v = false := by
      intro v hv hq
      cases v with
      | agg cs =>
        exfalso
        unfold Value.okWide at hv
        rw [hu] at hv
        cases td <;> simp [Cell.okWide, hu, Cell.ok] at hv hq
      | _ => rfl
    cases td with
    | struct fs => obtain ⟨cs, rfl, _⟩ := okWide_struct hu hv; rfl
    | array n e =>
      unfold Value.okWide at hv
      rw [hu] at hv
      obtain ⟨cs, rfl, _⟩ := hv; rfl
    | _ => exact notag hv rfl
end
end Go.Ab.T
