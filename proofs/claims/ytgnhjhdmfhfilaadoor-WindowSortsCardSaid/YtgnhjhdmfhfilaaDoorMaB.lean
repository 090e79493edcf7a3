import Derived.Test.YtgnhjhdmfhfilaaDoorAbC
import Derived.Test.YtgnhjhdmfhfilaaDoorMaErr
import Derived.Deep.Slices
import Derived.WideShapes
import Derived.ChangeArms
import Derived.Laws.Strings
import Derived.Sort.Statements
import Derived.Shelf.SlSortCmp.Insertion
set_option linter.unusedVariables false
set_option linter.unusedSimpArgs false
set_option linter.unusedSectionVars false
namespace Go.Ab.T
open Go Go.Ab
def uCod : Cod := ⟨Unit, fun _ => .bool false, 1, fun _ => rfl, fun _ => rfl⟩
def e_api_Window (w : Int × Int × Int) : PV := .agg [.int .i64 w.1, .int .i64 w.2.1, .int .i64 w.2.2]
def c_api_Window : Cod := ⟨Int × Int × Int, e_api_Window, 3, fun _ => rfl, fun _ => rfl⟩
def e_api_Need (w : Int × Int × Int) : PV := .agg [.int .i64 w.1, .int .i64 w.2.1, .int .i64 w.2.2]
def c_api_Need : Cod := ⟨Int × Int × Int, e_api_Need, 3, fun _ => rfl, fun _ => rfl⟩
def e_int (w : Int) : PV := .int .i64 w
def c_int : Cod := ⟨Int, e_int, 1, fun _ => rfl, fun _ => rfl⟩
def e_countwheellaw05_Op (w : Int × Int × Int × Bool) : PV := .agg [.int .i64 w.1, .int .i64 w.2.1, .int .i64 w.2.2.1, .bool w.2.2.2]
def c_countwheellaw05_Op : Cod := ⟨Int × Int × Int × Bool, e_countwheellaw05_Op, 4, fun _ => rfl, fun _ => rfl⟩
def e_api_Cell (w : Int × Bool) : PV := .agg [.int .u32 w.1, .bool w.2]
def c_api_Cell : Cod := ⟨Int × Bool, e_api_Cell, 2, fun _ => rfl, fun _ => rfl⟩
def e_api_Pair (w : Int × Int) : PV := .agg [.int .i64 w.1, .int .i64 w.2]
def c_api_Pair : Cod := ⟨Int × Int, e_api_Pair, 2, fun _ => rfl, fun _ => rfl⟩
def e_api_Act (w : Int × Int × Int) : PV := .agg [.int .i64 w.1, .int .i64 w.2.1, .int .i64 w.2.2]
def c_api_Act : Cod := ⟨Int × Int × Int, e_api_Act, 3, fun _ => rfl, fun _ => rfl⟩
def e_uint8 (w : UInt8) : PV := .int .u8 w.toNat
def c_uint8 : Cod := ⟨UInt8, e_uint8, 1, fun _ => rfl, fun _ => rfl⟩
def e_string (w : ByteArray) : PV := .str w
def c_string : Cod := ⟨ByteArray, e_string, 1, fun _ => rfl, fun _ => rfl⟩
def e_error (w : Err) : PV := .err w
def c_error : Cod := ⟨Err, e_error, 1, fun _ => rfl, fun _ => rfl⟩
def e_abi_Method (w : Int × Int × Int × Int) : PV := .agg [.int .i32 w.1, .int .i32 w.2.1, .int .i32 w.2.2.1, .int .i32 w.2.2.2]
def c_abi_Method : Cod := ⟨Int × Int × Int × Int, e_abi_Method, 4, fun _ => rfl, fun _ => rfl⟩
def e_struct_v_uint64_n_int_ (w : Int × Int) : PV := .agg [.int .u64 w.1, .int .i64 w.2]
def c_struct_v_uint64_n_int_ : Cod := ⟨Int × Int, e_struct_v_uint64_n_int_, 2, fun _ => rfl, fun _ => rfl⟩
def e__3_int (w : Int × Int × Int) : PV := .agg [.int .i64 w.1, .int .i64 w.2.1, .int .i64 w.2.2]
def c__3_int : Cod := ⟨Int × Int × Int, e__3_int, 3, fun _ => rfl, fun _ => rfl⟩
def e_api_Partition (w : Int × ByteArray × Bool × (List (Int × Bool))) : PV := .agg [.int .i64 w.1, .str w.2.1, .bool w.2.2.1, .sl (Int × Bool) e_api_Cell w.2.2.2]
def c_api_Partition : Cod := ⟨Int × ByteArray × Bool × (List (Int × Bool)), e_api_Partition, 4, fun _ => rfl, fun _ => rfl⟩
def e_api_Schedule (w : Int × Int × (List (Int × Int × Int)) × (List (Int × Int × Int))) : PV := .agg [.int .i64 w.1, .int .i64 w.2.1, .sl (Int × Int × Int) e_api_Window w.2.2.1, .sl (Int × Int × Int) e_api_Need w.2.2.2]
def c_api_Schedule : Cod := ⟨Int × Int × (List (Int × Int × Int)) × (List (Int × Int × Int)), e_api_Schedule, 4, fun _ => rfl, fun _ => rfl⟩
end Go.Ab.T
namespace Go.Ab
/-- What evT shows of a place, by its normal form. -/
theorem Closed.nf {K : Codes} {C : Cfg K} {f : Fun} {k : List PV → Heap K → Prop} {A : KA K} (hA : Closed C f k A) {n : Nat} {force : Bool} {todo : List AItem} {env : List PV} {L : Heap K} {q : Prop}
    (h : evT C f A k n force todo env L = q) (hq : q) : A todo env L := hA n force todo env L (h ▸ hq)
end Go.Ab
namespace Go.Ab.T
open Go Go.Ab
theorem by_nf {p q : Prop} (h : p = q) (hq : q) : p := h ▸ hq
def nms : List ByteArray := [⟨#[]⟩, ⟨#[97, 114, 103, 117, 109, 101, 110, 116]⟩, ⟨#[115, 104, 111, 114, 116]⟩, ⟨#[109, 97, 103, 105, 99]⟩, ⟨#[108, 101, 110, 103, 116, 104]⟩, ⟨#[115, 117, 109]⟩, ⟨#[102, 111, 114, 109]⟩, ⟨#[110, 97, 109, 101]⟩, ⟨#[109, 97, 110, 121]⟩, ⟨#[111, 114, 100, 101, 114]⟩, ⟨#[114, 101, 102, 101, 114, 101, 110, 99, 101]⟩, ⟨#[119, 105, 110, 100, 111, 119]⟩, ⟨#[111, 118, 101, 114, 108, 97, 112]⟩, ⟨#[112, 101, 114, 105, 111, 100]⟩, ⟨#[98, 117, 100, 103, 101, 116]⟩, ⟨#[112, 97, 105, 114]⟩, ⟨#[104, 97, 108, 116]⟩, ⟨#[115, 116, 97, 116, 101]⟩, ⟨#[114, 97, 110, 103, 101]⟩]
/-- Is it a class? -/
def isCls (n : Int) : Bool := decide (1 ≤ n) && decide (n ≤ 18)
/-- A class's name. -/
def nameOf (n : Int) : ByteArray := bif isCls n then nms.getD n.toNat ⟨#[]⟩ else ⟨#[]⟩
theorem nms_len : nms.length = 19 := by decide
theorem nms_get {n : Int} (h : isCls n = true) {y : ByteArray} (hy : nms[n.toNat]? = some y) : nameOf n = y := by
  simp [nameOf, h, List.getD_eq_getElem?_getD, hy]
theorem nameOf_empty (n : Int) : ((nameOf n).toList == ByteArray.toList ⟨#[]⟩) = !isCls n := by
  rw [ByteArray.toList_eq, ByteArray.toList_eq]
  unfold nameOf
  cases h : isCls n with
  | false => rfl
  | true =>
    simp only [isCls, Bool.and_eq_true, decide_eq_true_eq] at h
    have key : ∀ k : Nat, k < 19 → 1 ≤ k → ((nms.getD k ⟨#[]⟩).data.toList == (⟨#[]⟩ : ByteArray).data.toList) = false := by decide
    exact key n.toNat (by omega) (by omega)
def newE (n : Int) : Err := bif isCls n then .cls n else .nil
def atE (n : Int) (e : Err) : Err := bif e.isNil then .nil else .plc n e
def inE (n : Int) (e : Err) : Err := bif e.isNil then .nil else .sec n e
theorem isNil_newE (n : Int) : (newE n).isNil = !isCls n := by
  unfold newE; cases isCls n <;> rfl
end Go.Ab.T
namespace Go.Ab.T
open Go Go.Ab
theorem down_loop {α : Type} (l : List α) (Q : Nat → Prop) (h0 : Q l.length) (hs : ∀ (i : Nat) (y : α), l[i]? = some y → Q (i + 1) → Q i) : ∀ i, i ≤ l.length → Q i := by
  have key : ∀ n i, i + n = l.length → Q i := by
    intro n
    induction n with
    | zero => intro i h; have : i = l.length := by omega
              subst this; exact h0
    | succ n ih =>
      intro i h
      have hlt : i < l.length := by omega
      exact hs i l[i] (List.getElem?_eq_getElem hlt) (ih (i + 1) (by omega))
  intro i hi
  exact key (l.length - i) i (by omega)
theorem downN (m : Nat) (Q : Nat → Prop) (h0 : Q m) (hs : ∀ i, i < m → Q (i + 1) → Q i) : ∀ i, i ≤ m → Q i := by
  have key : ∀ n i, i + n = m → Q i := by
    intro n
    induction n with
    | zero => intro i h; have : i = m := by omega
              subst this; exact h0
    | succ n ih => intro i h; exact hs i (by omega) (ih (i + 1) (by omega))
  intro i hi
  exact key (m - i) i (by omega)
theorem drop_cons' {α : Type} {l : List α} {i : Nat} {y : α} (h : l[i]? = some y) : l.drop i = y :: l.drop (i + 1) := by
  obtain ⟨h1, h2⟩ := List.getElem?_eq_some_iff.1 h
  rw [← h2]; exact List.drop_eq_getElem_cons h1
theorem lt_of_get {α : Type} {l : List α} {i : Nat} {y : α} (h : l[i]? = some y) : i < l.length := (List.getElem?_eq_some_iff.1 h).1
theorem ilt_true {a b : Nat} (h : a < b) : decide ((a : Int) < (b : Int)) = true := decide_eq_true (by omega)
theorem ilt_false {a b : Nat} (h : ¬ a < b) : decide ((a : Int) < (b : Int)) = false := decide_eq_false (by omega)
theorem get_at {α : Type} {l : List α} {i : Nat} {y : α} {p : α → Prop} (hy : l[i]? = some y) (h : p y) : (0 ≤ (i : Int) ∧ (i : Int) < (l.length : Int)) ∧ ∀ z, l[(i : Int).toNat]? = some z → p z := by
  have := lt_of_get hy
  refine ⟨⟨by omega, by omega⟩, fun z hz => ?_⟩
  rw [Int.toNat_natCast, hy] at hz
  cases hz; exact h
/-- The place in front of another one. -/
theorem get_at' {α : Type} {l : List α} {i : Nat} {x : Int} {y : α} {p : α → Prop} (hx : x = (i : Int)) (hy : l[i]? = some y) (h : p y) : (0 ≤ x ∧ x < (l.length : Int)) ∧ ∀ z, l[x.toNat]? = some z → p z := by
  subst hx; exact get_at hy h
theorem wrap_succ {i : Nat} (h : i < 4611686018427387904) : IntKind.i64.wrap ((i : Int) + 1) = ((i + 1 : Nat) : Int) := by
  rw [wrap_id _ (by omega) (by omega)]; omega
theorem wrap_nat {i : Nat} {x : Int} (hx : x = (i : Int)) (h : i < 4611686018427387904) : IntKind.i64.wrap x = (i : Int) := by
  subst hx; exact wrap_id _ (by omega) (by omega)
theorem mmI_max (a b : Int) : mmI true a b = max a b := by
  show (if b > a then b else a) = max a b
  split <;> omega
theorem mmI_min (a b : Int) : mmI false a b = min a b := by
  show (if b < a then b else a) = min a b
  split <;> omega
end Go.Ab.T
namespace Go.Ab.T
open Go Go.Ab Go.Deep Go.WideShapes Go.ChangeShapes

section
variable {P : Program} {I : Ids}
def NoM : Nat → Prop := fun _ => False

/-- What can be read as data of a type is told by values of another one. -/
structure Opens (P : Program) (I : Ids) (t : TypeId) {α : Type} (cells : α → List PV) (good : α → Prop) : Prop where
  get : ∀ {H : Type} (encH : TypeId × Value → H) (w : World) (base : Nat) (spare : Nat → Bool) (held : Bool) (fuel : Nat) (cs : List Value) (x : DataW H × List MemPlace),
    DataW.trod encH P w base spare held fuel t cs = some x → ∃ a, good a ∧ RepF.go I NoM w (cells a) cs

structure OpensF (P : Program) (I : Ids) (fs : List (TypeId × Nat)) (o n : Nat) {α : Type} (cells : α → List PV) (good : α → Prop) : Prop where
  get : ∀ {H : Type} (encH : TypeId × Value → H) (w : World) (base : Nat) (spare : Nat → Bool) (held : Bool) (fuel : Nat) (cs : List Value), cs.length = n →
    (∀ (j : Nat) (f : TypeId × Nat), fs[j]? = some f → ∃ y, DataW.trod encH P w base spare held fuel f.1 ((cs.drop (f.2 - o)).take (P.cellsOf f.1)) = some y) → ∃ a, good a ∧ RepF.go I NoM w (cells a) cs

theorem go_one {M : Nat → Prop} {w : World} {x : PV} {v : Value} (hx : x.isAgg = false) (hv : v.oneCell' = true) (h : RepF I M w x [v]) : RepF.go I M w [x] [v] := ⟨v, [], rfl, ⟨hx, hv⟩, h, rfl⟩
theorem go_append {M : Nat → Prop} {w : World} : ∀ {xs ys : List PV} {l m : List Value}, RepF.go I M w xs l → RepF.go I M w ys m → RepF.go I M w (xs ++ ys) (l ++ m)
  | [], _, l, m, h, h' => by simp only [RepF.go] at h; subst h; exact h'
  | x :: xs, ys, l, m, h, h' => by
    obtain ⟨v, r, rfl, h0, h1, h2⟩ := h
    exact ⟨v, r ++ m, rfl, h0, h1, go_append h2 h'⟩

theorem opens_int {t : TypeId} {k : IntKind} (ht : P.underlying t = some (.int k)) : Opens P I t (fun n : Int => [.int k n]) (fun n => (Lit.int k n).wf = true) := by
  refine ⟨?_⟩
  intro H encH w base spare held fuel cs x h
  obtain ⟨n, rfl, _, hw⟩ := DataW.trod_int ht h
  exact ⟨n, hw, go_one rfl rfl rfl⟩
theorem opens_u8 {t : TypeId} (ht : P.underlying t = some (.int .u8)) : Opens P I t (fun n : UInt8 => [.int .u8 n.toNat]) (fun _ => True) := by
  refine ⟨?_⟩
  intro H encH w base spare held fuel cs x h
  obtain ⟨n, rfl, _, hw⟩ := DataW.trod_int ht h
  have hn : 0 ≤ n ∧ n < 256 := by
    have : (decide (IntKind.u8.min ≤ n) && decide (n ≤ IntKind.u8.max)) = true := hw
    simp [IntKind.min, IntKind.max, IntKind.signed, IntKind.bits] at this
    omega
  refine ⟨UInt8.ofNat n.toNat, trivial, go_one rfl rfl ?_⟩
  show [Value.int .u8 n] = [Value.int .u8 ((UInt8.ofNat n.toNat).toNat : Int)]
  have : ((UInt8.ofNat n.toNat).toNat : Int) = n := by
    rw [UInt8.toNat_ofNat']; omega
  rw [this]
theorem opens_bool {t : TypeId} (ht : P.underlying t = some .bool) : Opens P I t (fun b : Bool => [.bool b]) (fun _ => True) := by
  refine ⟨?_⟩
  intro H encH w base spare held fuel cs x h
  obtain ⟨b, rfl, _⟩ := DataW.trod_bool ht h
  exact ⟨b, trivial, go_one rfl rfl rfl⟩
theorem opens_str {t : TypeId} (ht : P.underlying t = some .string) : Opens P I t (fun s : ByteArray => [.str s]) (fun s => s.size ≤ maxLen) := by
  refine ⟨?_⟩
  intro H encH w base spare held fuel cs x h
  obtain ⟨s, rfl, _, hs⟩ := DataW.trod_string ht h
  exact ⟨s, hs, go_one rfl rfl rfl⟩

theorem add_none {a : Addr} (h : a.spot = none) (n : Nat) : a.add n = ⟨a.block, a.off + n, none⟩ := by
  unfold Addr.add
  split
  · rename_i h0; subst h0; cases a; simp_all
  · rfl
theorem cell_some {w : World} {a : Addr} {v : Value} (h : w.cell? a = some v) : a.spot = none ∧ ∃ cells t fr, w.heap[a.block]? = some (.cells cells t fr) ∧ cells[a.off]? = some v := by
  unfold World.cell? at h
  split at h
  · rename_i c t fr hh
    split at h
    · cases h
    · rename_i hs
      exact ⟨by simpa using hs, c, t, fr, hh, h⟩
  · cases h

theorem opens_slice {t e : TypeId} {s : Nat} (ht : P.underlying t = some (.slice e)) (hC : P.cellsOf e = s) (hs : Nat.blt 0 s = true) {α : Type} {enc : α → PV} {cells : α → List PV} {good : α → Prop}
    (henc : ∀ (w : World) a cs, RepF.go I NoM w (cells a) cs → RepF I NoM w (enc a) cs) (ho : Opens P I e cells good) :
    Opens P I t (fun l : List α => [.sl α enc l]) (fun l => l.length ≤ maxLen ∧ ∀ a, a ∈ l → good a) := by
  refine ⟨?_⟩
  intro H encH w base spare held fuel cs x h
  have hs : 0 < s := by rwa [Nat.blt_eq] at hs
  rcases open_slice ht h with ⟨rfl, _⟩ | ⟨a, len, cap, m, n, D, Pl, rfl, _, hlc, hcm, hm, _, hel⟩
  · exact ⟨[], ⟨Nat.zero_le _, fun a h => by cases h⟩, go_one rfl rfl ⟨none, 0, rfl, Nat.le_refl _, .inl rfl⟩⟩
  · rw [hC] at hel
    have hml : len ≤ m := by rw [hm]; split <;> omega
    have each : ∀ i, i < len → ∃ (y : α) (cs' : List Value), good y ∧ RepF.go I NoM w (cells y) cs' ∧ cs'.length = s ∧ ∀ j, j < s → w.cell? ((a.add (i * s)).add j) = cs'[j]? := by
      intro i hi
      obtain ⟨cs', h1, h2⟩ := hel i (by omega)
      obtain ⟨_, h3, h4⟩ := World.cells?_some h1
      obtain ⟨y, hy, hr⟩ := ho.get encH w base spare held n cs' _ h2
      exact ⟨y, cs', hy, hr, h3, h4⟩
    have mk : ∀ k, k ≤ len → ∃ l : List α, l.length = k ∧ (∀ i y, l[i]? = some y → ∃ cs' : List Value, good y ∧ RepF.go I NoM w (cells y) cs' ∧ cs'.length = s ∧ ∀ j, j < s → w.cell? ((a.add (i * s)).add j) = cs'[j]?) := by
      intro k
      induction k with
      | zero => intro _; exact ⟨[], rfl, fun i y h => by simp at h⟩
      | succ k ih =>
        intro hk
        obtain ⟨l, hl, hall⟩ := ih (by omega)
        obtain ⟨y, cs', hy⟩ := each k (by omega)
        refine ⟨l ++ [y], by simp [hl], fun i z hz => ?_⟩
        rcases Nat.lt_or_ge i l.length with hi | hi
        · rw [List.getElem?_append_left hi] at hz; exact hall i z hz
        · rw [List.getElem?_append_right hi] at hz
          have : i - l.length = 0 := by
            rcases Nat.eq_zero_or_pos (i - l.length) with h | h
            · exact h
            · rw [List.getElem?_eq_none (by simp; omega)] at hz; cases hz
          rw [this] at hz
          simp at hz
          subst hz
          have : i = k := by omega
          subst this
          exact ⟨cs', hy⟩
    obtain ⟨l, hl, hall⟩ := mk len (Nat.le_refl _)
    refine ⟨l, ⟨by omega, fun y hy => ?_⟩, go_one rfl rfl ⟨some a, cap, by rw [hl], by omega, ?_⟩⟩
    · obtain ⟨i, hi⟩ := List.mem_iff_getElem?.1 hy
      obtain ⟨_, h1, _⟩ := hall i y hi
      exact h1
    · rcases Nat.eq_zero_or_pos len with h0 | h0
      · left; exact List.eq_nil_of_length_eq_zero (by omega)
      · right
        obtain ⟨y0, hy0⟩ : ∃ y, l[0]? = some y := ⟨l[0]'(by omega), List.getElem?_eq_getElem (by omega)⟩
        obtain ⟨cs0, _, _, hlen0, hc0⟩ := hall 0 y0 hy0
        have hc00 := hc0 0 hs
        rw [List.getElem?_eq_getElem (by omega)] at hc00
        have ha0 : (a.add (0 * s)).add 0 = a := by rw [Nat.zero_mul]; rfl
        rw [ha0] at hc00
        obtain ⟨hsp, cells0, t0, fr0, hh, _⟩ := cell_some hc00
        refine ⟨a.block, a.off, s, cells0, t0, fr0, by cases a; simp_all, hs, fun h => h, hh, fun i y hi => ?_⟩
        obtain ⟨cs', _, hr, hlen, hcell⟩ := hall i y hi
        refine ⟨cs', hlen, henc w y cs' hr, fun j v hj => ?_⟩
        have hjs : j < s := by rw [← hlen]; exact (List.getElem?_eq_some_iff.1 hj).1
        have hc := hcell j hjs
        rw [hj, add_none hsp, add_none (by rfl)] at hc
        obtain ⟨_, c2, t2, fr2, hh2, hv2⟩ := cell_some hc
        simp only at hh2 hv2
        rw [hh] at hh2
        cases hh2
        exact hv2

theorem opensF_one {t : TypeId} {o n : Nat} {α : Type} {cells : α → List PV} {good : α → Prop} (hn : P.cellsOf t = n) (h : Opens P I t cells good) : OpensF P I [(t, o)] o n cells good := by
  refine ⟨?_⟩
  intro H encH w base spare held fuel cs hlen hall
  obtain ⟨y, hy⟩ := hall 0 _ rfl
  simp only at hy
  rw [Nat.sub_self, List.drop_zero, hn, ← hlen, List.take_length] at hy
  exact h.get encH w base spare held fuel cs y hy
theorem opensF_cons {t : TypeId} {fs : List (TypeId × Nat)} {o c n : Nat} {α β : Type} {cells : α → List PV} {good : α → Prop} {cells2 : β → List PV} {good2 : β → Prop} (hc : P.cellsOf t = c)
    (h : Opens P I t cells good) (hoff : (fs.all fun g => Nat.ble (o + c) g.2) = true) (h2 : OpensF P I fs (o + c) n cells2 good2) :
    OpensF P I ((t, o) :: fs) o (c + n) (fun x : α × β => cells x.1 ++ cells2 x.2) (fun x => good x.1 ∧ good2 x.2) := by
  refine ⟨?_⟩
  intro H encH w base spare held fuel cs hlen hall
  obtain ⟨y, hy⟩ := hall 0 _ rfl
  simp only at hy
  rw [Nat.sub_self, List.drop_zero, hc] at hy
  obtain ⟨a, ha, hra⟩ := h.get encH w base spare held fuel _ y hy
  obtain ⟨b, hb, hrb⟩ := h2.get encH w base spare held fuel (cs.drop c) (by rw [List.length_drop, hlen]; omega) (fun j g hg => by
    obtain ⟨z, hz⟩ := hall (j + 1) g hg
    have hge : o + c ≤ g.2 := by
      have := List.all_eq_true.1 hoff g (List.mem_of_getElem? hg)
      exact Nat.le_of_ble_eq_true this
    refine ⟨z, ?_⟩
    rw [List.drop_drop, show c + (g.2 - (o + c)) = g.2 - o by omega]
    exact hz)
  refine ⟨(a, b), ⟨ha, hb⟩, ?_⟩
  have := go_append hra hrb
  rwa [List.take_append_drop] at this
theorem opens_struct {t : TypeId} {fs : Array Field} {ps : List (TypeId × Nat)} {n : Nat} (ht : P.underlying t = some (.struct fs)) (hps : fs.toList.map (fun f => (f.type, f.offset)) = ps) (hn : P.cellsOf t = n) {α : Type} {cells : α → List PV} {good : α → Prop}
    (h : OpensF P I ps 0 n cells good) : Opens P I t cells good := by
  refine ⟨?_⟩
  intro H encH w base spare held fuel cs x hx
  obtain ⟨xs, m, _, _, hlen, hsz, hall⟩ := DataW.trod_struct ht hx
  refine h.get encH w base spare held m cs (by rw [hlen, hn]) (fun j f hj => ?_)
  rw [← hps, List.getElem?_map] at hj
  obtain ⟨g, hg, rfl⟩ := Option.map_eq_some_iff.1 hj
  have hj' : fs[j]? = some g := by rw [← Array.getElem?_toList]; exact hg
  have h1 := hall j g hj'
  have hjlt : j < xs.length := by rw [hsz]; exact (Array.getElem?_eq_some_iff.1 hj').1
  rw [List.getElem?_eq_getElem hjlt] at h1
  simp only [Nat.sub_zero]
  exact ⟨_, h1⟩

/-- An argument. -/
theorem Opens.arg {t : TypeId} {α : Type} {enc : α → PV} {cells : α → List PV} {good : α → Prop} (ho : Opens P I t cells good) (hagg : ∀ a, (enc a).isAgg = (match P.underlying t with | some (.struct _) | some (.array _ _) => true | _ => false))
    (henc : ∀ (w : World) a cs, RepF.go I NoM w (cells a) cs → RepF I NoM w (enc a) cs) {H : Type} {encH : TypeId × Value → H} {w W : World} {base : Nat} {spare : Nat → Bool} {held : Bool} {r : Reach} {b0 : Nat} {v : Value} {d : DataW H} {ps : List MemPlace}
    (hv : Value.okWide P W r b0 t v) (h : DataW.Trod encH P w base spare held t v d ps) : ∃ a, good a ∧ RepF I NoM w (enc a) v.cells.toList ∧ isAggV v = (enc a).isAgg := by
  obtain ⟨fuel, h⟩ := h
  obtain ⟨a, ha, hr⟩ := ho.get encH w base spare held fuel _ _ h
  refine ⟨a, ha, henc w a _ hr, ?_⟩
  rw [hagg]
  cases hu : P.underlying t with
  | none =>
    cases fuel with
    | zero => simp [DataW.trod] at h
    | succ n => simp [DataW.trod, hu] at h
  | some td =>
    have notag : ∀ {v : Value}, Value.okWide P W r b0 t v → (match some td with | some (.struct _) | some (.array _ _) => true | _ => false) = false → isAggV v = false := by
      intro v hv hq
      cases v with
      | agg cs =>
        exfalso
        unfold Value.okWide at hv
        rw [hu] at hv
        cases td <;> simp [Cell.okWide, hu, Cell.ok] at hv hq
      | _ => rfl
    cases td with
    | struct fs => obtain ⟨cs, rfl, _⟩ := okWide_struct hu hv; rfl
    | array n e =>
      unfold Value.okWide at hv
      rw [hu] at hv
      obtain ⟨cs, rfl, _⟩ := hv; rfl
    | _ => exact notag hv rfl
end
end Go.Ab.T
namespace Go.Ab.T
open Go Go.Ab
/-! bytes as numbers -/
def sizeOk (n : Int) : Bool := n == 1 || n == 2 || n == 4 || n == 8
def sizeB (n : Int) : Int := bif sizeOk n then 8 * n else 0
/-- The byte at a place. -/
def byteAt (s : ByteArray) (i : Nat) : Nat := (s.data.toList.getD i 0).toNat
/-- The number of some bytes from a place on. -/
def beV (s : ByteArray) (at_ : Nat) : Nat → Nat
  | 0 => 0
  | n + 1 => 256 * beV s at_ n + byteAt s (at_ + n)
theorem byteAt_lt (s : ByteArray) (i : Nat) : byteAt s i < 256 := by unfold byteAt; exact UInt8.toNat_lt _
theorem beV_lt (s : ByteArray) (a : Nat) : ∀ n, beV s a n < 256 ^ n
  | 0 => by simp [beV]
  | n + 1 => by
    have h1 := beV_lt s a n
    have h2 := byteAt_lt s (a + n)
    rw [beV, Nat.pow_succ]
    omega
theorem byteAt_of {s : ByteArray} {i : Nat} {b : UInt8} (h : s[i]? = some b) : byteAt s i = b.toNat := by
  have hlt : i < s.size := by
    rcases Nat.lt_or_ge i s.size with h1 | h1
    · exact h1
    · rw [ByteArray.getElem?_ge' s i (by omega)] at h; cases h
  rw [ByteArray.getElem?_lt' s i hlt] at h
  cases h
  unfold byteAt
  have : i < s.data.toList.length := by simpa using hlt
  rw [List.getD_eq_getElem?_getD, List.getElem?_eq_getElem this]
  simp [ByteArray.getElem_eq_getElem_data]
theorem sget {s : ByteArray} {i : Nat} {p : UInt8 → Prop} (hi : i < s.size) (h : ∀ b, s[i]? = some b → p b) : (0 ≤ (i : Int) ∧ (i : Int) < (s.size : Int)) ∧ ∀ z, s[(i : Int).toNat]? = some z → p z := by
  refine ⟨⟨by omega, by omega⟩, fun z hz => h z ?_⟩
  simpa using hz
theorem pow256 (n : Nat) (h : n ≤ 8) : 256 ^ n ≤ 18446744073709551616 := by
  have : 256 ^ n ≤ 256 ^ 8 := Nat.pow_le_pow_right (by omega) h
  have h8 : (256 : Nat) ^ 8 = 18446744073709551616 := by decide
  omega
theorem u64_id (n : Int) (h0 : 0 ≤ n) (h1 : n < 18446744073709551616) : IntKind.u64.wrap n = n := by
  unfold IntKind.wrap
  have e1 : ((2 : Int) ^ IntKind.u64.bits) = 18446744073709551616 := by decide
  have e2 : IntKind.u64.signed = false := rfl
  rw [e1, e2]
  simp only [Bool.false_and, Bool.false_eq_true, if_false]
  omega
theorem or_u64 (x y : Nat) (hx : x < 18446744073709551616) (hy : y < 18446744073709551616) : Go.bits .or .u64 (x : Int) (y : Int) = ((x ||| y : Nat) : Int) := by
  unfold Go.bits
  show IntKind.u64.wrap (((BitVec.ofInt 64 (x : Int)) ||| (BitVec.ofInt 64 (y : Int))).toNat : Int) = _
  rw [BitVec.ofInt_natCast, BitVec.ofInt_natCast, BitVec.toNat_or, BitVec.toNat_ofNat, BitVec.toNat_ofNat]
  have e : (2 : Nat) ^ 64 = 18446744073709551616 := by decide
  rw [e, Nat.mod_eq_of_lt hx, Nat.mod_eq_of_lt hy]
  have hlt : x ||| y < 2 ^ 64 := Nat.or_lt_two_pow (by omega) (by omega)
  exact u64_id _ (by omega) (by omega)
theorem or_byte (v b : Nat) (hv : v * 256 < 18446744073709551616) (hb : b < 256) : Go.bits .or .u64 (IntKind.u64.wrap ((v : Int) * 2 ^ min (8 : Int).toNat IntKind.u64.bits)) (b : Int) = ((256 * v + b : Nat) : Int) := by
  have h1 : (2 : Int) ^ min (8 : Int).toNat IntKind.u64.bits = 256 := by decide
  rw [h1, u64_id _ (by omega) (by omega)]
  have e1 : ((v : Int) * 256) = ((v * 256 : Nat) : Int) := by omega
  rw [e1]
  have h3 : (v * 256) ||| b = 256 * v + b := by
    have := Nat.shiftLeft_add_eq_or_of_lt (i := 8) (b := b) (by omega) v
    rw [Nat.shiftLeft_eq] at this
    have e2 : (2 : Nat) ^ 8 = 256 := by decide
    rw [e2] at this
    omega
  rw [or_u64 _ _ (by omega) (by omega), h3]

/-! the reader -/
def failR (e : Err) (sec k a : Int) : Err := bif e.isNil then inE sec (atE a (newE k)) else e
def needE (e : Err) (ok : Bool) (sec k a : Int) : Err := bif ok then e else failR e sec k a
theorem failR2_not (e : Err) (sec a : Int) : (failR e sec 2 a).isNil = false := by
  unfold failR
  cases h : e.isNil with
  | true => rfl
  | false => exact h
/-- May so many bytes be read? -/
def rdOk (s : ByteArray) (a n : Int) (e : Err) : Bool := decide (n ≤ (s.size : Int) - a) && e.isNil
def rdE (s : ByteArray) (a n sec : Int) (e : Err) : Err := needE e (decide (n ≤ (s.size : Int) - a)) sec 2 a
theorem rdE_nil (s : ByteArray) (a n sec : Int) (e : Err) : (rdE s a n sec e).isNil = rdOk s a n e := by
  unfold rdE rdOk needE
  cases decide (n ≤ (s.size : Int) - a) with
  | true => rfl
  | false => exact failR2_not e sec a
def rdV (s : ByteArray) (a n : Int) (e : Err) : Int := bif rdOk s a n e then (beV s a.toNat n.toNat : Int) else 0
def rdAt (s : ByteArray) (a n : Int) (e : Err) : Int := bif rdOk s a n e then a + n else a
def rdT (s : ByteArray) (a n : Int) (e : Err) : ByteArray := bif rdOk s a n e then s.extract a.toNat (a + n).toNat else ⟨#[]⟩
theorem sizeOk_cases {n : Int} (h : sizeOk n = true) : n = 1 ∨ n = 2 ∨ n = 4 ∨ n = 8 := by
  simp only [sizeOk, Bool.or_eq_true, beq_iff_eq] at h
  omega
theorem rdV_bound (s : ByteArray) (a n : Int) (e : Err) (h : sizeOk n = true) : 0 ≤ rdV s a n e ∧ rdV s a n e < 18446744073709551616 := by
  unfold rdV
  cases rdOk s a n e with
  | false =>
    show (0 : Int) ≤ 0 ∧ (0 : Int) < 18446744073709551616
    decide
  | true =>
    have h1 := beV_lt s a.toNat n.toNat
    have h2 := pow256 n.toNat (by rcases sizeOk_cases h with h | h | h | h <;> omega)
    show 0 ≤ (beV s a.toNat n.toNat : Int) ∧ (beV s a.toNat n.toNat : Int) < _
    omega
theorem rdV_lt (s : ByteArray) (a : Int) (n : Nat) (e : Err) : 0 ≤ rdV s a n e ∧ rdV s a n e < ((256 ^ n : Nat) : Int) := by
  unfold rdV
  have h1 := beV_lt s a.toNat n
  cases rdOk s a n e with
  | false =>
    show (0 : Int) ≤ 0 ∧ (0 : Int) < ((256 ^ n : Nat) : Int)
    omega
  | true =>
    show 0 ≤ (beV s a.toNat (n : Int).toNat : Int) ∧ (beV s a.toNat (n : Int).toNat : Int) < ((256 ^ n : Nat) : Int)
    rw [Int.toNat_natCast]
    omega
theorem u32_id (n : Int) (h0 : 0 ≤ n) (h1 : n < 4294967296) : IntKind.u32.wrap n = n := by
  unfold IntKind.wrap
  have e1 : ((2 : Int) ^ IntKind.u32.bits) = 4294967296 := by decide
  have e2 : IntKind.u32.signed = false := rfl
  rw [e1, e2]
  simp only [Bool.false_and, Bool.false_eq_true, if_false]
  omega
/-- The last bytes of a number, the highest first. -/
def beL : Nat → Nat → List UInt8
  | 0, _ => []
  | n + 1, v => UInt8.ofNat (v / 256 ^ n % 256) :: beL n v
theorem beL_len (v : Nat) : ∀ n, (beL n v).length = n
  | 0 => rfl
  | n + 1 => by rw [beL, List.length_cons, beL_len v n]
theorem u8_id (n : Int) (h0 : 0 ≤ n) (h1 : n < 256) : IntKind.u8.wrap n = n := by
  unfold IntKind.wrap
  have e1 : ((2 : Int) ^ IntKind.u8.bits) = 256 := by decide
  have e2 : IntKind.u8.signed = false := rfl
  rw [e1, e2]
  simp only [Bool.false_and, Bool.false_eq_true, if_false]
  omega
/-- What octet.Get and its reference answer. -/
def getOk (s : ByteArray) (a n : Int) : Bool := sizeOk n && decide (0 ≤ a) && decide (a ≤ s.size) && decide (n ≤ (s.size : Int) - a)
def getV (s : ByteArray) (a n : Int) : Int := bif getOk s a n then (beV s a.toNat n.toNat : Int) else 0
end Go.Ab.T
namespace Go.Ab.T
open Go Go.Ab
abbrev F3 := Int × Int × Int
def rFail (f : F3) (sec k a : Int) : F3 := bif (f.1 == 0) && isCls k then (k, sec, a) else f
def nOk (s : ByteArray) (a n : Int) (f : F3) : Bool := (f.1 == 0) && getOk s a n
def nV (s : ByteArray) (a n : Int) (f : F3) : Int := bif nOk s a n f then (beV s a.toNat n.toNat : Int) else 0
def nAt (s : ByteArray) (a n : Int) (f : F3) : Int := bif nOk s a n f then a + n else a
def nF (s : ByteArray) (a n sec : Int) (f : F3) : F3 := bif getOk s a n then f else rFail f sec 2 a
def tOk (s : ByteArray) (a n : Int) (f : F3) : Bool := (f.1 == 0) && (decide (0 < n) && decide (n ≤ (s.size : Int) - a))
def tT (s : ByteArray) (a n : Int) (f : F3) : ByteArray := bif tOk s a n f then s.extract a.toNat (a + n).toNat else ⟨#[]⟩
def tAt (s : ByteArray) (a n : Int) (f : F3) : Int := bif tOk s a n f then a + n else a
def tF (s : ByteArray) (a n sec : Int) (f : F3) : F3 := bif decide (n ≤ 0) || decide (n ≤ (s.size : Int) - a) then f else rFail f sec 2 a
theorem rFail_bad {f : F3} (h : (f.1 == 0) = false) (sec k a : Int) : rFail f sec k a = f := by
  unfold rFail; rw [h]; rfl
theorem rFail_two {f : F3} (h : (f.1 == 0) = true) (sec a : Int) : rFail f sec 2 a = (2, sec, a) := by
  unfold rFail; rw [h]; rfl
/-- The errors that readers keep. -/
inductive GoodE : Err → Prop where
  | nil : GoodE .nil
  | spc (s a k : Int) (h : isCls k = true) : GoodE (.sec s (.plc a (.cls k)))
theorem GoodE.cases {e : Err} (h : GoodE e) : e = .nil ∨ ∃ s a k, isCls k = true ∧ e = .sec s (.plc a (.cls k)) := by
  cases h with
  | nil => exact .inl rfl
  | spc s a k h => exact .inr ⟨s, a, k, h, rfl⟩
theorem ofE_spc (s a k : Int) : ofE (.sec s (.plc a (.cls k))) = (k, s, a) := rfl
theorem isCls_ne {k : Int} (h : isCls k = true) : (k == 0) = false := by
  simp only [isCls, Bool.and_eq_true, decide_eq_true_eq] at h
  simp; omega
theorem GoodE.nil_iff {e : Err} (h : GoodE e) : ((ofE e).1 == 0) = e.isNil := by
  rcases h.cases with rfl | ⟨s, a, k, hk, rfl⟩
  · rfl
  · rw [ofE_spc]; exact isCls_ne hk
theorem GoodE.fail {e : Err} (h : GoodE e) (sec k a : Int) : GoodE (failR e sec k a) := by
  unfold failR
  cases hn : e.isNil with
  | false => exact h
  | true =>
    show GoodE (inE sec (atE a (newE k)))
    unfold newE
    cases hk : isCls k with
    | false => exact .nil
    | true => exact .spc sec a k hk
theorem GoodE.ofE_fail {e : Err} (h : GoodE e) (sec k a : Int) : ofE (failR e sec k a) = rFail (ofE e) sec k a := by
  unfold failR rFail
  rw [h.nil_iff]
  cases hn : e.isNil with
  | false => rfl
  | true =>
    show ofE (inE sec (atE a (newE k))) = _
    unfold newE
    cases hk : isCls k with
    | true => rfl
    | false =>
      rcases h.cases with rfl | ⟨s, a, k, hk, rfl⟩
      · rfl
      · cases hn
theorem GoodE.need {e : Err} (h : GoodE e) (t : Bool) (sec k a : Int) : GoodE (needE e t sec k a) := by
  unfold needE; cases t
  · exact h.fail sec k a
  · exact h
theorem GoodE.ofE_need {e : Err} (h : GoodE e) (t : Bool) (sec k a : Int) : ofE (needE e t sec k a) = bif t then ofE e else rFail (ofE e) sec k a := by
  unfold needE; cases t
  · exact h.ofE_fail sec k a
  · rfl
theorem GoodE.rd {e : Err} (h : GoodE e) (s : ByteArray) (a n sec : Int) : GoodE (rdE s a n sec e) := h.need _ _ _ _

section
variable {e : Err} (h : GoodE e) {s : ByteArray} {a n : Int}
include h
theorem GoodE.nOk (h0 : 0 ≤ a) (h1 : a ≤ s.size) (hn : sizeOk n = true) : nOk s a n (ofE e) = rdOk s a n e := by
  unfold Go.Ab.T.nOk rdOk getOk
  rw [h.nil_iff, hn]
  simp only [h0, h1, decide_true, Bool.true_and]
  exact Bool.and_comm _ _
theorem GoodE.nV (h0 : 0 ≤ a) (h1 : a ≤ s.size) (hn : sizeOk n = true) : nV s a n (ofE e) = rdV s a n e := by
  unfold Go.Ab.T.nV rdV; rw [h.nOk h0 h1 hn]
theorem GoodE.nAt (h0 : 0 ≤ a) (h1 : a ≤ s.size) (hn : sizeOk n = true) : nAt s a n (ofE e) = rdAt s a n e := by
  unfold Go.Ab.T.nAt rdAt; rw [h.nOk h0 h1 hn]
theorem GoodE.nF (sec : Int) (h0 : 0 ≤ a) (h1 : a ≤ s.size) (hn : sizeOk n = true) : nF s a n sec (ofE e) = ofE (rdE s a n sec e) := by
  unfold Go.Ab.T.nF rdE
  rw [h.ofE_need]
  have : getOk s a n = decide (n ≤ (s.size : Int) - a) := by
    unfold getOk; rw [hn]; simp only [h0, h1, decide_true, Bool.true_and]
  rw [this]
end
theorem rdAt_le {s : ByteArray} {a n : Int} {e : Err} (h0 : 0 ≤ a) (h1 : a ≤ s.size) (hn : 0 ≤ n) : 0 ≤ rdAt s a n e ∧ rdAt s a n e ≤ s.size := by
  unfold rdAt
  cases h : rdOk s a n e with
  | false => exact ⟨h0, h1⟩
  | true =>
    simp only [rdOk, Bool.and_eq_true, decide_eq_true_eq] at h
    show 0 ≤ a + n ∧ a + n ≤ (s.size : Int)
    omega
theorem rdOk_bad (s : ByteArray) (a n : Int) {e : Err} (h : e.isNil = false) : rdOk s a n e = false := by
  unfold rdOk; rw [h, Bool.and_false]
theorem rd_bad (s : ByteArray) (a n sec : Int) {e : Err} (h : e.isNil = false) : rdV s a n e = 0 ∧ rdAt s a n e = a ∧ rdT s a n e = ⟨#[]⟩ ∧ rdE s a n sec e = e := by
  have h1 := rdOk_bad s a n h
  refine ⟨by rw [rdV, h1]; rfl, by rw [rdAt, h1]; rfl, by rw [rdT, h1]; rfl, ?_⟩
  unfold rdE needE failR
  rw [h]
  cases decide (n ≤ (s.size : Int) - a) <;> rfl
theorem rd_short (s : ByteArray) (a n sec : Int) (h : ¬ n ≤ (s.size : Int) - a) : rdV s a n .nil = 0 ∧ rdAt s a n .nil = a ∧ rdT s a n .nil = ⟨#[]⟩ ∧ rdE s a n sec .nil = .sec sec (.plc a (.cls 2)) := by
  have h0 : decide (n ≤ (s.size : Int) - a) = false := decide_eq_false h
  have h1 : rdOk s a n .nil = false := by unfold rdOk; rw [h0]; rfl
  refine ⟨by rw [rdV, h1]; rfl, by rw [rdAt, h1]; rfl, by rw [rdT, h1]; rfl, ?_⟩
  unfold rdE; rw [h0]; rfl
theorem rd_fits (s : ByteArray) (a n sec : Int) (h : n ≤ (s.size : Int) - a) : rdV s a n .nil = (beV s a.toNat n.toNat : Int) ∧ rdAt s a n .nil = a + n ∧ rdT s a n .nil = s.extract a.toNat (a + n).toNat ∧ rdE s a n sec .nil = .nil := by
  have h0 : decide (n ≤ (s.size : Int) - a) = true := decide_eq_true h
  have h1 : rdOk s a n .nil = true := by unfold rdOk; rw [h0]; rfl
  refine ⟨by rw [rdV, h1]; rfl, by rw [rdAt, h1]; rfl, by rw [rdT, h1]; rfl, ?_⟩
  unfold rdE; rw [h0]; rfl
section
variable {e : Err} (h : GoodE e) {s : ByteArray} {a n : Int}
include h
theorem GoodE.tOk (hn : 0 < n) : tOk s a n (ofE e) = rdOk s a n e := by
  unfold Go.Ab.T.tOk rdOk
  rw [h.nil_iff, decide_eq_true hn, Bool.true_and, Bool.and_comm]
theorem GoodE.tAt (h1 : a ≤ s.size) : tAt s a n (ofE e) = rdAt s a (max n 0) e := by
  by_cases hn : 0 < n
  · have : max n 0 = n := by omega
    unfold Go.Ab.T.tAt rdAt; rw [h.tOk hn, this]
  · have h2 : max n 0 = 0 := by omega
    have h3 : decide (0 < n) = false := decide_eq_false hn
    unfold Go.Ab.T.tAt rdAt Go.Ab.T.tOk
    rw [h2, h3, Bool.false_and, Bool.and_false, Int.add_zero]
    cases rdOk s a 0 e <;> rfl
theorem GoodE.tT (h0 : 0 ≤ a) : ((rdT s a (max n 0) e).toList == (Go.Ab.T.tT s a n (ofE e)).toList) = true := by
  by_cases hn : 0 < n
  · have : max n 0 = n := by omega
    unfold Go.Ab.T.tT rdT; rw [h.tOk hn, this]; simp
  · have h2 : max n 0 = 0 := by omega
    have h3 : decide (0 < n) = false := decide_eq_false hn
    have h4 : Go.Ab.T.tT s a n (ofE e) = ⟨#[]⟩ := by unfold Go.Ab.T.tT Go.Ab.T.tOk; rw [h3, Bool.false_and, Bool.and_false]; rfl
    have h5 : (rdT s a 0 e).toList = [] := by
      unfold rdT
      cases rdOk s a 0 e with
      | false => rw [cond_false, ByteArray.toList_eq]
      | true =>
        rw [cond_true, Int.add_zero, ByteArray.toList_eq]
        have : (s.extract a.toNat a.toNat).size = 0 := by simp
        exact List.eq_nil_of_length_eq_zero (by simp)
    rw [h2, h4, h5, ByteArray.toList_eq]; rfl
theorem GoodE.tF (sec : Int) (h1 : a ≤ s.size) : tF s a n sec (ofE e) = ofE (rdE s a (max n 0) sec e) := by
  unfold Go.Ab.T.tF rdE
  rw [h.ofE_need]
  by_cases hn : 0 < n
  · have h2 : max n 0 = n := by omega
    have h3 : decide (n ≤ 0) = false := decide_eq_false (by omega)
    rw [h2, h3, Bool.false_or]
  · have h2 : max n 0 = 0 := by omega
    have h3 : decide (n ≤ 0) = true := decide_eq_true (by omega)
    have h4 : decide ((0 : Int) ≤ (s.size : Int) - a) = true := decide_eq_true (by omega)
    rw [h2, h3, h4]; rfl
end
theorem F3_eta (f : F3) : (f.1, f.2.1, f.2.2) = f := rfl
end Go.Ab.T
namespace Go.Ab.T
open Go Go.Ab
def letZ (b : Int) : Bool := decide (b ≥ 65) && decide (b ≤ 90)
def digZ (b : Int) : Bool := b == 95 || (decide (b ≥ 48) && decide (b ≤ 57))
def mayZ (b i : Int) : Bool := bif digZ b then !(i == 0) else letZ b
def rightFrom : List UInt8 → Nat → Bool
  | [], _ => true
  | b :: r, i => mayZ b.toNat i && rightFrom r (i + 1)
/-- Is a text a name? -/
def rightN (s : ByteArray) : Bool := decide (1 ≤ (s.size : Int)) && (decide ((s.size : Int) ≤ 16) && rightFrom s.data.toList 0)
def allR : List UInt8 → Bool
  | [] => true
  | b :: r => (letZ b.toNat || digZ b.toNat) && allR r
theorem bget (s : ByteArray) (i : Nat) : s[i]? = s.data.toList[i]? := by
  rcases Nat.lt_or_ge i s.size with h | h
  · rw [ByteArray.getElem?_lt' s i h]
    have : i < s.data.toList.length := by simpa using h
    rw [List.getElem?_eq_getElem this]
    simp [ByteArray.getElem_eq_getElem_data]
  · rw [ByteArray.getElem?_ge' s i (by omega)]
    rw [List.getElem?_eq_none (by simpa using h)]
theorem blen (s : ByteArray) : s.data.toList.length = s.size := by simp
theorem let_dig (b : Int) : (letZ b && digZ b) = false := by
  cases h : digZ b with
  | false => simp
  | true =>
    have h2 : letZ b = false := by
      simp only [digZ, Bool.or_eq_true, beq_iff_eq, Bool.and_eq_true, decide_eq_true_eq] at h
      simp only [letZ, Bool.and_eq_false_iff, decide_eq_false_iff_not]
      omega
    simp [h2]
theorem mayZ_zero (b : Int) : mayZ b 0 = letZ b := by
  have := let_dig b
  unfold mayZ
  cases h : digZ b with
  | false => rfl
  | true => rw [h, Bool.and_true] at this; rw [this]; rfl
theorem mayZ_succ (b : Int) (i : Nat) : mayZ b ((i + 1 : Nat) : Int) = (letZ b || digZ b) := by
  unfold mayZ
  have h0 : (((i + 1 : Nat) : Int) == 0) = false := beq_false_of_ne (by omega)
  rw [h0]
  cases digZ b <;> simp
theorem rightFrom_succ : ∀ (l : List UInt8) (i : Nat), rightFrom l (i + 1) = allR l
  | [], _ => rfl
  | b :: r, i => by rw [rightFrom, allR, mayZ_succ, rightFrom_succ r (i + 1)]
/-- As the reference has it. -/
theorem rightN_ref (s : ByteArray) : rightN s = (!(s.toList == ByteArray.toList ⟨#[]⟩) && (decide ((s.size : Int) ≤ 16) && (letZ (byteAt s 0) && allR s.data.toList))) := by
  rw [ByteArray.toList_eq, ByteArray.toList_eq]
  unfold rightN byteAt
  have hl := blen s
  cases hs : s.data.toList with
  | nil =>
    rw [hs] at hl
    have : decide (1 ≤ (s.size : Int)) = false := decide_eq_false (by simp at hl; omega)
    rw [this]; rfl
  | cons b r =>
    rw [hs] at hl
    have : decide (1 ≤ (s.size : Int)) = true := decide_eq_true (by simp at hl; omega)
    have e0 : (((0 : Nat)) : Int) = 0 := rfl
    rw [this, rightFrom, rightFrom_succ, e0, mayZ_zero, allR]
    show (true && _) = (true && _)
    simp only [Bool.true_and, List.getD_cons_zero]
    cases letZ (b.toNat : Int) <;> simp
/-! what a reader says of a name -/
def nmK (s : ByteArray) (a sec : Int) (e : Err) : Err := needE (rdE s a 1 sec e) (decide (rdV s a 1 e ≥ 1) && decide (rdV s a 1 e ≤ 16)) sec 7 a
def nmE (s : ByteArray) (a sec : Int) (e : Err) : Err := bif (nmK s a sec e).isNil then needE (rdE s (rdAt s a 1 e) (max (rdV s a 1 e) 0) sec (nmK s a sec e)) (rightN (rdT s (rdAt s a 1 e) (max (rdV s a 1 e) 0) (nmK s a sec e))) sec 7 a else nmK s a sec e
def nmAt (s : ByteArray) (a sec : Int) (e : Err) : Int := bif (nmK s a sec e).isNil then rdAt s (rdAt s a 1 e) (max (rdV s a 1 e) 0) (nmK s a sec e) else rdAt s a 1 e
def nmT (s : ByteArray) (a sec : Int) (e : Err) : ByteArray := bif (nmE s a sec e).isNil then rdT s (rdAt s a 1 e) (max (rdV s a 1 e) 0) (nmK s a sec e) else ⟨#[]⟩
def toE (f : F3) : Err := bif f.1 == 0 then .nil else .sec f.2.1 (.plc f.2.2 (.cls f.1))
theorem GoodE.toE {e : Err} (h : GoodE e) : toE (ofE e) = e := by
  rcases h.cases with rfl | ⟨s, a, k, hk, rfl⟩
  · rfl
  · unfold Go.Ab.T.toE; rw [ofE_spc, isCls_ne hk]; rfl
inductive GoodF : F3 → Prop where
  | mk {e : Err} (h : GoodE e) : GoodF (ofE e)
theorem GoodF.ex {f : F3} (h : GoodF f) : ∃ e, GoodE e ∧ f = ofE e := by cases h with | mk h => exact ⟨_, h, rfl⟩
theorem failR_bad {e : Err} (h : e.isNil = false) (sec k a : Int) : failR e sec k a = e := by unfold failR; rw [h]; rfl
theorem needE_bad {e : Err} (h : e.isNil = false) (t : Bool) (sec k a : Int) : needE e t sec k a = e := by
  unfold needE; rw [failR_bad h]; cases t <;> rfl
theorem isNil_eq {e : Err} (h : e.isNil = true) : e = .nil := by cases e <;> first | rfl | cases h
theorem nmK_good {e : Err} (h : GoodE e) (s : ByteArray) (a sec : Int) : GoodE (nmK s a sec e) := (h.rd s a 1 sec).need _ _ _ _
theorem nmE_good {e : Err} (h : GoodE e) (s : ByteArray) (a sec : Int) : GoodE (nmE s a sec e) := by
  unfold nmE
  cases (nmK s a sec e).isNil with
  | false => exact nmK_good h s a sec
  | true => exact ((nmK_good h s a sec).rd _ _ _ _).need _ _ _ _
theorem nmAt_le {s : ByteArray} {a : Int} {e : Err} (sec : Int) (h0 : 0 ≤ a) (h1 : a ≤ s.size) : 0 ≤ nmAt s a sec e ∧ nmAt s a sec e ≤ s.size := by
  obtain ⟨q0, q1⟩ := rdAt_le (e := e) (n := 1) h0 h1 (by omega)
  unfold nmAt
  cases (nmK s a sec e).isNil with
  | false => exact ⟨q0, q1⟩
  | true => exact rdAt_le q0 q1 (by omega)
end Go.Ab.T
namespace Go.Ab.T
open Go Go.Ab
abbrev RS := Int × Err
def hM (s : ByteArray) (c : Int) (x : RS) : RS := (rdAt s x.1 1 x.2, needE (rdE s x.1 1 1 x.2) (rdV s x.1 1 x.2 == c) 1 3 x.1)
def hR (s : ByteArray) (n : Int) (x : RS) : RS := (rdAt s x.1 n x.2, rdE s x.1 n 1 x.2)
def hN (s : ByteArray) (n lo hi : Int) (x : RS) : RS := (rdAt s x.1 n x.2, needE (rdE s x.1 n 1 x.2) (decide (rdV s x.1 n x.2 ≥ lo) && decide (rdV s x.1 n x.2 ≤ hi)) 1 8 x.1)
def hx4 (s : ByteArray) (x : RS) : RS := hM s 49 (hM s 77 (hM s 87 (hM s 67 x)))
def hx5 (s : ByteArray) (x : RS) : RS := hR s 4 (hx4 s x)
def hx6 (s : ByteArray) (x : RS) : RS := hR s 8 (hx5 s x)
def hx7 (s : ByteArray) (x : RS) : RS := hR s 1 (hx6 s x)
def hx8 (s : ByteArray) (x : RS) : RS := hN s 1 1 32 (hx7 s x)
def hx9 (s : ByteArray) (x : RS) : RS := hN s 1 1 16 (hx8 s x)
def hx10 (s : ByteArray) (x : RS) : RS := hN s 2 0 240 (hx9 s x)
def hx11 (s : ByteArray) (x : RS) : RS := hN s 2 0 512 (hx10 s x)
def hIn (s : ByteArray) (x : RS) : Prop := 0 ≤ x.1 ∧ x.1 ≤ (s.size : Int)
def hV (s : ByteArray) (n : Int) (x y : RS) : Int := bif x.2.isNil then rdV s y.1 n y.2 else 0
theorem hIn.m {s : ByteArray} {x : RS} (c : Int) (h : hIn s x) : hIn s (hM s c x) := rdAt_le h.1 h.2 (by omega)
theorem hIn.r {s : ByteArray} {x : RS} {n : Int} (hn : 0 ≤ n) (h : hIn s x) : hIn s (hR s n x) := rdAt_le h.1 h.2 hn
theorem hIn.n {s : ByteArray} {x : RS} {n lo hi : Int} (hn : 0 ≤ n) (h : hIn s x) : hIn s (hN s n lo hi x) := rdAt_le h.1 h.2 hn
end Go.Ab.T
namespace Go.Ab.T
open Go Go.Ab
def mostQ (i : Int) : Int := bif i == 1 then 32 else bif i == 2 then 16 else bif i == 3 then 240 else bif i == 4 then 512 else 0
/-- May the i-th count of a header be? -/
def fineQ (i n : Int) : Bool := decide (n ≤ mostQ i) && (decide (n ≥ 1) || (decide (i ≥ 3) && (n == 0)))
theorem mostQ_get {i y : Int} (h0 : 0 ≤ i) (h1 : i < 5) (hy : ([0, 32, 16, 240, 512] : List Int)[i.toNat]? = some y) : y = mostQ i := by
  have : i = 0 ∨ i = 1 ∨ i = 2 ∨ i = 3 ∨ i = 4 := by omega
  rcases this with rfl | rfl | rfl | rfl | rfl <;> exact (Option.some.inj hy).symm
theorem fineQ_1 {v : Int} (h : 0 ≤ v) : fineQ 1 v = (decide (v ≥ 1) && decide (v ≤ 32)) := by
  have e : mostQ 1 = 32 := rfl
  have e2 : decide ((1 : Int) ≥ 3) = false := rfl
  unfold fineQ; rw [e, e2, Bool.false_and, Bool.or_false, Bool.and_comm]
theorem fineQ_2 {v : Int} (h : 0 ≤ v) : fineQ 2 v = (decide (v ≥ 1) && decide (v ≤ 16)) := by
  have e : mostQ 2 = 16 := rfl
  have e2 : decide ((2 : Int) ≥ 3) = false := rfl
  unfold fineQ; rw [e, e2, Bool.false_and, Bool.or_false, Bool.and_comm]
theorem fineQ_hi {i v m : Int} (h : 0 ≤ v) (hi : decide (i ≥ 3) = true) (e : mostQ i = m) : fineQ i v = (decide (v ≥ 0) && decide (v ≤ m)) := by
  unfold fineQ; rw [e, hi, Bool.true_and]
  have h1 : (decide (v ≥ 1) || v == 0) = true := by
    rw [Bool.or_eq_true, decide_eq_true_eq, beq_iff_eq]; omega
  have h2 : decide (v ≥ 0) = true := decide_eq_true h
  rw [h1, h2, Bool.and_true, Bool.true_and]
theorem fineQ_3 {v : Int} (h : 0 ≤ v) : fineQ 3 v = (decide (v ≥ 0) && decide (v ≤ 240)) := fineQ_hi h rfl rfl
theorem fineQ_4 {v : Int} (h : 0 ≤ v) : fineQ 4 v = (decide (v ≥ 0) && decide (v ≤ 512)) := fineQ_hi h rfl rfl
end Go.Ab.T
namespace Go.Ab.T
open Go Go.Ab
theorem beL_get (v : Nat) : ∀ (n i : Nat), i < n → (beL n v)[i]? = some (UInt8.ofNat (v / 256 ^ (n - 1 - i) % 256))
  | 0, i, h => absurd h (Nat.not_lt_zero _)
  | n + 1, 0, _ => by rw [beL]; simp
  | n + 1, i + 1, h => by
    have e : n + 1 - 1 - (i + 1) = n - 1 - i := by omega
    rw [beL, e, List.getElem?_cons_succ, beL_get v n i (by omega)]
theorem beV_step (u m : Nat) : 256 * (u / 256 % 256 ^ m) + u % 256 = u % 256 ^ (m + 1) := by
  have := Nat.mod_mul (x := u) (a := 256) (b := 256 ^ m)
  rw [Nat.pow_succ, Nat.mul_comm (256 ^ m) 256, this]; omega
theorem ofNat_toNat (x : Nat) : (UInt8.ofNat (x % 256)).toNat = x % 256 := by rw [UInt8.toNat_ofNat']; omega
theorem beV_of {S : ByteArray} {a n v : Nat} (h : ∀ i, i < n → byteAt S (a + i) = v / 256 ^ (n - 1 - i) % 256) : ∀ m, m ≤ n → beV S a m = v / 256 ^ (n - m) % 256 ^ m
  | 0, _ => by rw [beV]; simp [Nat.mod_one]
  | m + 1, hm => by
    rw [beV, beV_of h m (by omega), h m (by omega)]
    have e1 : n - m = (n - 1 - m) + 1 := by omega
    have e2 : n - (m + 1) = n - 1 - m := by omega
    rw [e1, e2, Nat.pow_succ, ← Nat.div_div_eq_div_mul]
    exact beV_step _ m
theorem cut_ex (b N : Int) (h0 : 0 ≤ b) (h1 : b < 256) (hN : 0 ≤ N) (hN2 : N ≤ 8) : ∃ c : Nat, (IntKind.i64.wrap b).tmod (IntKind.i64.wrap (N + 1)) = (c : Int) ∧ (c : Int) ≤ N := by
  rw [wrap_id b (by omega) (by omega), wrap_id (N + 1) (by omega) (by omega), Int.tmod_eq_emod_of_nonneg h0]
  have h2 : 0 ≤ b % (N + 1) := Int.emod_nonneg _ (by omega)
  have h3 : b % (N + 1) < N + 1 := Int.emod_lt_of_pos _ (by omega)
  exact ⟨(b % (N + 1)).toNat, by omega, by omega⟩
theorem mod_ex (v M : Int) (h0 : 0 ≤ v) (hM : 0 < M) : ∃ w : Nat, v.tmod M = (w : Int) ∧ (w : Int) < M := by
  rw [Int.tmod_eq_emod_of_nonneg h0]
  have h2 : 0 ≤ v % M := Int.emod_nonneg _ (by omega)
  have h3 : v % M < M := Int.emod_lt_of_pos _ hM
  exact ⟨(v % M).toNat, by omega, by omega⟩
theorem byteAt_append (s t : ByteArray) (i : Nat) : byteAt (s ++ t) (s.size + i) = byteAt t i := by
  unfold byteAt
  rw [ByteArray.data_append, Array.toList_append, List.getD_eq_getElem?_getD, List.getD_eq_getElem?_getD, List.getElem?_append_right (by simp)]
  simp
theorem beSize (n w : Nat) : (ByteArray.mk (beL n w).toArray).size = n := by
  show (beL n w).toArray.size = n; rw [List.size_toArray, beL_len]
theorem rn_facts (s S : ByteArray) (n w c : Nat) (N : Int) (hN : N = (n : Int)) (hc : c ≤ n) (hw : w < 256 ^ n)
    (hS : s ++ (ByteArray.mk (beL n w).toArray).extract 0 (n - c) = S) :
    S.size = s.size + (n - c) ∧ ((rdT S 0 (s.size : Int) .nil).toList == s.toList) = true ∧ rdAt S 0 (s.size : Int) .nil = s.size ∧ rdE S 0 (s.size : Int) 0 .nil = .nil ∧
    (c = 0 → rdV S s.size N .nil = w ∧ rdAt S s.size N .nil = S.size ∧ rdE S s.size N 0 .nil = .nil) ∧
    (0 < c → rdV S s.size N .nil = 0 ∧ rdAt S s.size N .nil = s.size ∧ rdE S s.size N 0 .nil = .sec 0 (.plc s.size (.cls 2))) := by
  have h1 : S.size = s.size + (n - c) := by
    rw [← hS, ByteArray.size_append, ByteArray.size_extract, beSize]; omega
  obtain ⟨_, f2, f3, f4⟩ := rd_fits S 0 (s.size : Int) 0 (by omega)
  refine ⟨h1, ?_, by rw [f2]; omega, f4, ?_, ?_⟩
  · rw [f3]
    have : S.extract (Int.toNat 0) (0 + (s.size : Int)).toNat = s := by
      have e : (0 + (s.size : Int)).toNat = s.size := by omega
      rw [e, ← hS]
      apply ByteArray.ext
      simp
    rw [this, beq_self_eq_true]
  · intro h0
    subst h0
    obtain ⟨g1, g2, _, g4⟩ := rd_fits S (s.size : Int) N 0 (by omega)
    refine ⟨?_, by rw [g2]; omega, g4⟩
    rw [g1, hN, Int.toNat_natCast, Int.toNat_natCast]
    have hx : (ByteArray.mk (beL n w).toArray).extract 0 (n - 0) = ByteArray.mk (beL n w).toArray := by
      apply ByteArray.ext
      have := beSize n w
      have e3 : (beL n w).length = n := beL_len w n
      simp
      exact List.take_of_length_le (by omega)
    rw [hx] at hS
    have := beV_of (S := S) (a := s.size) (n := n) (v := w) (fun i hi => by
      rw [← hS, byteAt_append]
      unfold byteAt
      rw [List.getD_eq_getElem?_getD]
      have e : (ByteArray.mk (beL n w).toArray).data.toList = beL n w := by simp
      rw [e, beL_get w n i hi]
      exact ofNat_toNat _) n (Nat.le_refl _)
    rw [this, Nat.sub_self, Nat.pow_zero, Nat.div_one, Nat.mod_eq_of_lt hw]
  · intro h0
    obtain ⟨g1, g2, _, g4⟩ := rd_short S (s.size : Int) N 0 (by omega)
    exact ⟨g1, g2, g4⟩
end Go.Ab.T
namespace Go.Ab.T
open Go Go.Ab
theorem push_fold (l : List UInt8) : ∀ r : ByteArray, (l.map e_uint8).foldl (fun r x => r.push (UInt8.ofNat (pvNat x))) r = r ++ ⟨l.toArray⟩ := by
  induction l with
  | nil => intro r; apply ByteArray.ext; simp
  | cons b l ih =>
    intro r
    rw [List.map_cons, List.foldl_cons, ih]
    have h1 : UInt8.ofNat (pvNat (e_uint8 b)) = b := by
      show UInt8.ofNat ((b.toNat : Int).toNat) = b
      rw [Int.toNat_natCast, UInt8.ofNat_toNat]
    rw [h1]
    apply ByteArray.ext
    simp
theorem strPV_e (l : List UInt8) : strPV (l.map e_uint8) = ⟨l.toArray⟩ := by
  rw [strPV, push_fold]; apply ByteArray.ext; simp
theorem mk_size (l : List UInt8) : (ByteArray.mk l.toArray).size = l.length := by
  show l.toArray.size = _; simp
theorem get_name (s : ByteArray) (h : rightN s = true) :
    nmT ⟨(UInt8.ofNat s.size :: s.data.toList).toArray⟩ 0 0 .nil = s ∧ nmE ⟨(UInt8.ofNat s.size :: s.data.toList).toArray⟩ 0 0 .nil = .nil ∧
    nmAt ⟨(UInt8.ofNat s.size :: s.data.toList).toArray⟩ 0 0 .nil = ((s.size + 1 : Nat) : Int) := by
  have hr := h
  simp only [rightN, Bool.and_eq_true, decide_eq_true_eq] at hr
  have hl := blen s
  obtain ⟨S, hS⟩ : ∃ S, S = ByteArray.mk (UInt8.ofNat s.size :: s.data.toList).toArray := ⟨_, rfl⟩
  rw [← hS]
  have hz : S.size = s.size + 1 := by rw [hS, mk_size, List.length_cons, hl]
  obtain ⟨g1, g2, _, g4⟩ := rd_fits S 0 1 0 (by omega)
  have hv : beV S (Int.toNat 0) (Int.toNat 1) = s.size := by
    show 256 * 0 + byteAt S 0 = s.size
    have : byteAt S 0 = (UInt8.ofNat s.size).toNat := by rw [hS]; rfl
    rw [this, UInt8.toNat_ofNat']; omega
  rw [hv] at g1
  have g2 : rdAt S 0 1 .nil = 1 := g2
  have d1 : decide (((s.size : Nat) : Int) ≥ 1) = true := decide_eq_true (by omega)
  have d2 : decide (((s.size : Nat) : Int) ≤ 16) = true := decide_eq_true (by omega)
  have hK : nmK S 0 0 .nil = .nil := by unfold nmK; rw [g1, g4, d1, d2]; rfl
  have hm : max ((s.size : Nat) : Int) 0 = s.size := by omega
  obtain ⟨_, k2, k3, k4⟩ := rd_fits S 1 (s.size : Int) 0 (by omega)
  have hx : S.extract (Int.toNat 1) (1 + (s.size : Int)).toNat = s := by
    have e : (1 + (s.size : Int)).toNat = s.size + 1 := by omega
    have e1 : Int.toNat 1 = 1 := rfl
    rw [e, e1, hS]
    apply ByteArray.ext
    apply Array.ext'
    rw [ByteArray.data_extract, Array.toList_extract]
    show List.extract (UInt8.ofNat s.size :: s.data.toList) 1 (s.size + 1) = _
    rw [List.extract_eq_take_drop]
    show List.take (s.size + 1 - 1) s.data.toList = _
    rw [List.take_of_length_le (by omega)]
  have hE : nmE S 0 0 .nil = .nil := by
    unfold nmE; rw [hK, g1, g2, hm, k3, k4, hx, h]; rfl
  refine ⟨?_, hE, ?_⟩
  · unfold nmT; rw [hE, hK, g1, g2, hm, k3, hx]; rfl
  · unfold nmAt; rw [hK, g1, g2, hm, k2]
    show 1 + (s.size : Int) = _
    omega
end Go.Ab.T
namespace Go.Ab.T
open Go Go.Ab
/-- Has a number so many bytes? -/
def fitsV (v n : Int) : Bool := sizeOk n && decide (v < ((256 ^ n.toNat : Nat) : Int))
def putV (l : List UInt8) (v n : Int) : List UInt8 := bif fitsV v n then l ++ beL n.toNat v.toNat else l
theorem fitsV_bad {v n : Int} (h : sizeOk n = false) : fitsV v n = false := by unfold fitsV; rw [h]; rfl
theorem fitsV_size {v n : Int} (h : fitsV v n = true) : sizeOk n = true := by
  unfold fitsV at h; simp only [Bool.and_eq_true] at h; exact h.1
theorem fdiv_beq_zero (v : Int) (p : Int) (hv : 0 ≤ v) (hp : 0 < p) : (v.fdiv p == 0) = decide (v < p) := by
  rw [Int.fdiv_eq_ediv_of_nonneg v (by omega)]
  have h : v / p = 0 ↔ v < p := by
    constructor
    · intro h
      have := Int.lt_ediv_add_one_mul_self v hp
      rw [h] at this; omega
    · intro h; exact Int.ediv_eq_zero_of_lt hv h
  rw [Bool.eq_iff_iff, beq_iff_eq, decide_eq_true_eq]; exact h
theorem fitsV_ok {v n : Int} (hs : sizeOk n = true) (h0 : 0 ≤ v) (h1 : v < 18446744073709551616) :
    (0 ≤ sizeB n ∧ (v.fdiv (2 ^ min (sizeB n).toNat IntKind.u64.bits) == 0) = fitsV v n) ∧ ((sizeB n == 64) = true → fitsV v n = true) := by
  have hz : sizeB n = 8 * n := by unfold sizeB; rw [hs]; rfl
  have hp : ∀ p : Nat, ((2 : Int) ^ p) = ((2 ^ p : Nat) : Int) := fun p => by simp
  have hf : fitsV v n = decide (v < ((256 ^ n.toNat : Nat) : Int)) := by unfold fitsV; rw [hs]; rfl
  rw [hf, hz]
  rcases sizeOk_cases hs with rfl | rfl | rfl | rfl
  all_goals
    refine ⟨⟨by decide, ?_⟩, ?_⟩
    · rw [fdiv_beq_zero v _ h0 (by decide)]; rfl
  · intro h; exact absurd h (by decide)
  · intro h; exact absurd h (by decide)
  · intro h; exact absurd h (by decide)
  · intro _; exact decide_eq_true (by show v < ((256 ^ 8 : Nat) : Int); have : ((256 ^ 8 : Nat) : Int) = 18446744073709551616 := by decide
                                      omega)
theorem u8_wrap (n : Nat) : IntKind.u8.wrap (n : Int) = ((n % 256 : Nat) : Int) := by
  unfold IntKind.wrap
  have e1 : ((2 : Int) ^ IntKind.u8.bits) = 256 := by decide
  have e2 : IntKind.u8.signed = false := rfl
  rw [e1, e2]
  simp only [Bool.false_and, Bool.false_eq_true, if_false]
  omega
theorem shr_byte (v m : Nat) (hm : m < 8) : ((v : Int).fdiv (2 ^ min (IntKind.i64.wrap ((8 : Int) * (m : Int))).toNat IntKind.u64.bits)) = ((v / 256 ^ m : Nat) : Int) := by
  rw [wrap_id _ (by omega) (by omega)]
  have e : (8 * (m : Int)).toNat = 8 * m := by omega
  have e2 : min (8 * m) IntKind.u64.bits = 8 * m := by show min (8 * m) 64 = _; omega
  have e3 : ((2 : Int) ^ (8 * m)) = ((256 ^ m : Nat) : Int) := by
    rw [Int.pow_mul]; simp
  rw [e, e2, e3, Int.fdiv_eq_ediv_of_nonneg _ (Int.natCast_nonneg _)]
  simp
end Go.Ab.T
namespace Go.Ab.T
open Go Go.Ab
/-- Bytes stand somewhere in a text. -/
def Has (S : ByteArray) (a : Nat) (l : List UInt8) : Prop := ∃ pre post, S.data.toList = pre ++ (l ++ post) ∧ pre.length = a
theorem Has.whole (l : List UInt8) : Has ⟨l.toArray⟩ 0 l := ⟨[], [], by simp, rfl⟩
theorem Has.left {S : ByteArray} {a : Nat} {l m : List UInt8} (h : Has S a (l ++ m)) : Has S a l := by
  obtain ⟨p, q, h1, h2⟩ := h
  exact ⟨p, m ++ q, by rw [h1, List.append_assoc], h2⟩
theorem Has.right {S : ByteArray} {a : Nat} {l m : List UInt8} (h : Has S a (l ++ m)) : Has S (a + l.length) m := by
  obtain ⟨p, q, h1, h2⟩ := h
  exact ⟨p ++ l, q, by rw [h1]; simp, by rw [List.length_append, h2]⟩
theorem Has.right' {S : ByteArray} {a b : Nat} {l m : List UInt8} (h : Has S a (l ++ m)) (hb : b = a + l.length) : Has S b m := hb ▸ h.right
theorem Has.size {S : ByteArray} {a : Nat} {l : List UInt8} (h : Has S a l) : a + l.length ≤ S.size := by
  obtain ⟨p, q, h1, h2⟩ := h
  have h3 : S.data.toList.length = S.size := by simp
  rw [← h3, h1]; simp; omega
theorem Has.byte {S : ByteArray} {a : Nat} {l : List UInt8} (h : Has S a l) {i : Nat} {b : UInt8} (hi : l[i]? = some b) : byteAt S (a + i) = b.toNat := by
  obtain ⟨p, q, h1, h2⟩ := h
  unfold byteAt
  rw [h1, List.getD_eq_getElem?_getD, List.getElem?_append_right (by omega), List.getElem?_append_left (by
    have := (List.getElem?_eq_some_iff.1 hi).1; omega)]
  have e : a + i - p.length = i := by omega
  rw [e, hi]; rfl
theorem Has.num {S : ByteArray} {a n v : Nat} (h : Has S a (beL n v)) (hv : v < 256 ^ n) : beV S a n = v := by
  have := beV_of (S := S) (a := a) (n := n) (v := v) (fun i hi => by
    rw [h.byte (beL_get v n i hi)]; exact ofNat_toNat _) n (Nat.le_refl _)
  rw [this, Nat.sub_self, Nat.pow_zero, Nat.div_one, Nat.mod_eq_of_lt hv]
theorem Has.rd {S : ByteArray} {a n v : Nat} (h : Has S a (beL n v)) (hv : v < 256 ^ n) {x y : Int} (hx : x = (a : Int)) (hy : y = (n : Int)) :
    rdV S x y .nil = (v : Int) ∧ rdAt S x y .nil = ((a + n : Nat) : Int) ∧ ∀ sec, rdE S x y sec .nil = .nil := by
  subst hx hy
  have hs := h.size
  rw [beL_len] at hs
  refine ⟨?_, ?_, fun sec => ?_⟩
  · obtain ⟨g1, _⟩ := rd_fits S (a : Int) (n : Int) 0 (by omega)
    rw [g1, Int.toNat_natCast, Int.toNat_natCast, h.num hv]
  · obtain ⟨_, g2, _⟩ := rd_fits S (a : Int) (n : Int) 0 (by omega)
    rw [g2]; omega
  · exact (rd_fits S (a : Int) (n : Int) sec (by omega)).2.2.2
/-- The bytes of a number that was read. -/
theorem beL_beV (S : ByteArray) (a : Nat) : ∀ n, a + n ≤ S.size → beL n (beV S a n) = (S.data.toList.drop a).take n := by
  have gen : ∀ n, a + n ≤ S.size → ∀ i, i < n → (beL n (beV S a n))[i]? = S.data.toList[a + i]? := by
    intro n
    induction n with
    | zero => intro _ i hi; omega
    | succ n ih =>
      intro hn i hi
      have hlen : S.data.toList.length = S.size := by simp
      have hget : S.data.toList[a + i]? = some (UInt8.ofNat (byteAt S (a + i))) := by
        unfold byteAt
        have hlt : a + i < S.data.toList.length := by omega
        rw [List.getD_eq_getElem?_getD, List.getElem?_eq_getElem hlt]
        simp
      rw [hget, beL_get _ _ _ hi]
      congr 1
      have hb := byteAt_lt S (a + n)
      rcases Nat.lt_or_ge i n with h | h
      · have e := ih (by omega) i h
        rw [hget, beL_get _ _ _ h] at e
        have e2 : n + 1 - 1 - i = (n - 1 - i) + 1 := by omega
        have e3 : beV S a (n + 1) / 256 ^ (n - 1 - i + 1) = beV S a n / 256 ^ (n - 1 - i) := by
          rw [Nat.pow_succ, Nat.mul_comm, ← Nat.div_div_eq_div_mul, beV]
          congr 1; omega
        rw [e2, e3]
        exact Option.some.inj e
      · have : i = n := by omega
        subst this
        rw [Nat.add_sub_cancel, Nat.sub_self, Nat.pow_zero, Nat.div_one, beV]
        congr 1; omega
  intro n hn
  apply List.ext_getElem?
  intro i
  rcases Nat.lt_or_ge i n with h | h
  · rw [gen n hn i h, List.getElem?_take, if_pos h, List.getElem?_drop]
  · rw [List.getElem?_eq_none (by rw [beL_len]; exact h), List.getElem?_eq_none (by simp; omega)]
end Go.Ab.T
namespace Go.Ab.T
open Go Go.Ab
theorem fineQ_1' {v : Int} : fineQ 1 v = (decide (v ≥ 1) && decide (v ≤ 32)) := by
  have e : mostQ 1 = 32 := rfl
  have e2 : decide ((1 : Int) ≥ 3) = false := rfl
  unfold fineQ; rw [e, e2, Bool.false_and, Bool.or_false, Bool.and_comm]
theorem fineQ_2' {v : Int} : fineQ 2 v = (decide (v ≥ 1) && decide (v ≤ 16)) := by
  have e : mostQ 2 = 16 := rfl
  have e2 : decide ((2 : Int) ≥ 3) = false := rfl
  unfold fineQ; rw [e, e2, Bool.false_and, Bool.or_false, Bool.and_comm]
theorem fineQ_hi' {i v m : Int} (hi : decide (i ≥ 3) = true) (e : mostQ i = m) : fineQ i v = (decide (v ≥ 0) && decide (v ≤ m)) := by
  unfold fineQ; rw [e, hi, Bool.true_and]
  have h1 : (decide (v ≥ 1) || v == 0) = decide (v ≥ 0) := by
    rw [Bool.eq_iff_iff, Bool.or_eq_true, decide_eq_true_eq, beq_iff_eq, decide_eq_true_eq]; omega
  rw [h1, Bool.and_comm]
theorem fineQ_3' {v : Int} : fineQ 3 v = (decide (v ≥ 0) && decide (v ≤ 240)) := fineQ_hi' rfl rfl
theorem fineQ_4' {v : Int} : fineQ 4 v = (decide (v ≥ 0) && decide (v ≤ 512)) := fineQ_hi' rfl rfl
/-- What is wrong with a header. -/
def hdrE (f p s r a : Int) : Err :=
  bif decide (f < 0) || decide (f > 255) then .sec 1 (.plc 0 (.cls 18)) else
  bif !fineQ 1 p then .sec 1 (.plc 1 (.cls 8)) else bif !fineQ 2 s then .sec 1 (.plc 2 (.cls 8)) else
  bif !fineQ 3 r then .sec 1 (.plc 3 (.cls 8)) else bif !fineQ 4 a then .sec 1 (.plc 4 (.cls 8)) else .nil
def hdrOk (h0 h1 h2 h3 h4 h5 h6 : Int) : Prop := (0 ≤ h0 ∧ h0 < 4294967296 ∧ 0 ≤ h1 ∧ h1 < 18446744073709551616) ∧ (hdrE h2 h3 h4 h5 h6).isNil = true
def hdrL (h0 h1 h2 h3 h4 h5 h6 : Int) : List UInt8 := [67, 87, 77, 49] ++ (beL 4 h0.toNat ++ (beL 8 h1.toNat ++ (beL 1 h2.toNat ++ (beL 1 h3.toNat ++ (beL 1 h4.toNat ++ (beL 2 h5.toNat ++ beL 2 h6.toNat))))))
theorem hdrE_good (f p s r a : Int) : GoodE (hdrE f p s r a) := by
  unfold hdrE
  cases decide (f < 0) || decide (f > 255) <;> cases fineQ 1 p <;> cases fineQ 2 s <;> cases fineQ 3 r <;> cases fineQ 4 a <;> first | exact .nil | exact .spc _ _ _ rfl
theorem hdrE_ok {f p s r a : Int} (h : (hdrE f p s r a).isNil = true) : (decide (f < 0) || decide (f > 255)) = false ∧ fineQ 1 p = true ∧ fineQ 2 s = true ∧ fineQ 3 r = true ∧ fineQ 4 a = true := by
  unfold hdrE at h
  cases c1 : decide (f < 0) || decide (f > 255) <;> cases c2 : fineQ 1 p <;> cases c3 : fineQ 2 s <;> cases c4 : fineQ 3 r <;> cases c5 : fineQ 4 a <;> simp only [c1, c2, c3, c4, c5] at h <;> first | exact ⟨rfl, rfl, rfl, rfl, rfl⟩ | cases h
theorem hdrOk_bounds {h0 h1 h2 h3 h4 h5 h6 : Int} (h : hdrOk h0 h1 h2 h3 h4 h5 h6) : (0 ≤ h0 ∧ h0 < 4294967296 ∧ 0 ≤ h1 ∧ h1 < 18446744073709551616) ∧ (0 ≤ h2 ∧ h2 < 256) ∧ (0 ≤ h3 ∧ h3 < 256) ∧ (0 ≤ h4 ∧ h4 < 256) ∧ (0 ≤ h5 ∧ h5 < 65536) ∧ 0 ≤ h6 ∧ h6 < 65536 := by
  obtain ⟨h, hn⟩ := h
  obtain ⟨c1, c2, c3, c4, c5⟩ := hdrE_ok hn
  rw [fineQ_1'] at c2
  rw [fineQ_2'] at c3
  rw [fineQ_3'] at c4
  rw [fineQ_4'] at c5
  simp only [Bool.or_eq_false_iff, Bool.and_eq_true, decide_eq_true_eq, decide_eq_false_iff_not] at c1 c2 c3 c4 c5
  exact ⟨h, by omega, by omega, by omega, by omega, by omega⟩
theorem hdr_text (h0 h1 h2 h3 h4 h5 h6 : Int) : (ByteArray.mk #[67, 87, 77, 49] ++ ByteArray.mk (beL 4 h0.toNat).toArray ++ ByteArray.mk (beL 8 h1.toNat).toArray ++ ByteArray.mk (beL 1 h2.toNat).toArray ++ ByteArray.mk (beL 1 h3.toNat).toArray ++ ByteArray.mk (beL 1 h4.toNat).toArray ++ ByteArray.mk (beL 2 h5.toNat).toArray ++ ByteArray.mk (beL 2 h6.toNat).toArray) = ByteArray.mk (hdrL h0 h1 h2 h3 h4 h5 h6).toArray := by
  apply ByteArray.ext; apply Array.ext'
  simp [hdrL]
def putAll (l : List UInt8) (zs : List (Int × Int)) : List UInt8 := zs.foldl (fun l y => putV l y.1 y.2) l
theorem putV_len (l : List UInt8) (v n : Int) : (putV l v n).length ≤ l.length + 8 := by
  unfold putV
  cases h : fitsV v n with
  | false => show l.length ≤ _; omega
  | true =>
    show (l ++ beL n.toNat v.toNat).length ≤ _
    rw [List.length_append, beL_len]
    rcases sizeOk_cases (fitsV_size h) with h | h | h | h <;> omega
theorem putV_ok (l : List UInt8) {v n : Int} (hn : sizeOk n = true) (hv : v < ((256 ^ n.toNat : Nat) : Int)) : putV l v n = l ++ beL n.toNat v.toNat := by
  unfold putV fitsV; rw [hn, decide_eq_true hv]; rfl
theorem putAll_hdr {l : List UInt8} {h0 h1 h2 h3 h4 h5 h6 : Int} (a0 : 0 ≤ h0) (a1 : h0 < 4294967296) (a2 : 0 ≤ h1) (a3 : h1 < 18446744073709551616) (b2 : 0 ≤ h2 ∧ h2 < 256) (b3 : 0 ≤ h3 ∧ h3 < 256) (b4 : 0 ≤ h4 ∧ h4 < 256) (b5 : 0 ≤ h5 ∧ h5 < 65536) (b6 : 0 ≤ h6 ∧ h6 < 65536) :
    putAll (l ++ [67, 87, 77, 49]) [(h0, 4), (h1, 8), (h2, 1), (h3, 1), (h4, 1), (h5, 2), (h6, 2)] = l ++ hdrL h0 h1 h2 h3 h4 h5 h6 := by
  have p1 : ((256 ^ Int.toNat 1 : Nat) : Int) = 256 := by decide
  have p2 : ((256 ^ Int.toNat 2 : Nat) : Int) = 65536 := by decide
  have p4 : ((256 ^ Int.toNat 4 : Nat) : Int) = 4294967296 := by decide
  have p8 : ((256 ^ Int.toNat 8 : Nat) : Int) = 18446744073709551616 := by decide
  unfold putAll
  simp only [List.foldl_cons, List.foldl_nil]
  rw [putV_ok _ rfl (by rw [p2]; omega), putV_ok _ rfl (by rw [p2]; omega), putV_ok _ rfl (by rw [p1]; omega), putV_ok _ rfl (by rw [p1]; omega), putV_ok _ rfl (by rw [p1]; omega), putV_ok _ rfl (by rw [p8]; omega), putV_ok _ rfl (by rw [p4]; omega)]
  unfold hdrL
  have e1 : Int.toNat 1 = 1 := rfl
  have e2 : Int.toNat 2 = 2 := rfl
  have e4 : Int.toNat 4 = 4 := rfl
  have e8 : Int.toNat 8 = 8 := rfl
  rw [e1, e2, e4, e8]
  simp only [List.append_assoc]
/-- A header's bytes are read as it was. -/
theorem hdr_back {h0 h1 h2 h3 h4 h5 h6 : Int} (h : hdrOk h0 h1 h2 h3 h4 h5 h6) :
    hx11 ⟨(hdrL h0 h1 h2 h3 h4 h5 h6).toArray⟩ (0, .nil) = (23, .nil) ∧
    hV ⟨(hdrL h0 h1 h2 h3 h4 h5 h6).toArray⟩ 4 (hx11 ⟨(hdrL h0 h1 h2 h3 h4 h5 h6).toArray⟩ (0, .nil)) (hx4 ⟨(hdrL h0 h1 h2 h3 h4 h5 h6).toArray⟩ (0, .nil)) = h0 ∧
    hV ⟨(hdrL h0 h1 h2 h3 h4 h5 h6).toArray⟩ 8 (hx11 ⟨(hdrL h0 h1 h2 h3 h4 h5 h6).toArray⟩ (0, .nil)) (hx5 ⟨(hdrL h0 h1 h2 h3 h4 h5 h6).toArray⟩ (0, .nil)) = h1 ∧
    hV ⟨(hdrL h0 h1 h2 h3 h4 h5 h6).toArray⟩ 1 (hx11 ⟨(hdrL h0 h1 h2 h3 h4 h5 h6).toArray⟩ (0, .nil)) (hx6 ⟨(hdrL h0 h1 h2 h3 h4 h5 h6).toArray⟩ (0, .nil)) = h2 ∧
    hV ⟨(hdrL h0 h1 h2 h3 h4 h5 h6).toArray⟩ 1 (hx11 ⟨(hdrL h0 h1 h2 h3 h4 h5 h6).toArray⟩ (0, .nil)) (hx7 ⟨(hdrL h0 h1 h2 h3 h4 h5 h6).toArray⟩ (0, .nil)) = h3 ∧
    hV ⟨(hdrL h0 h1 h2 h3 h4 h5 h6).toArray⟩ 1 (hx11 ⟨(hdrL h0 h1 h2 h3 h4 h5 h6).toArray⟩ (0, .nil)) (hx8 ⟨(hdrL h0 h1 h2 h3 h4 h5 h6).toArray⟩ (0, .nil)) = h4 ∧
    hV ⟨(hdrL h0 h1 h2 h3 h4 h5 h6).toArray⟩ 2 (hx11 ⟨(hdrL h0 h1 h2 h3 h4 h5 h6).toArray⟩ (0, .nil)) (hx9 ⟨(hdrL h0 h1 h2 h3 h4 h5 h6).toArray⟩ (0, .nil)) = h5 ∧
    hV ⟨(hdrL h0 h1 h2 h3 h4 h5 h6).toArray⟩ 2 (hx11 ⟨(hdrL h0 h1 h2 h3 h4 h5 h6).toArray⟩ (0, .nil)) (hx10 ⟨(hdrL h0 h1 h2 h3 h4 h5 h6).toArray⟩ (0, .nil)) = h6 := by
  obtain ⟨⟨a0, a1, a2, a3⟩, b2, b3, b4, b5, b6⟩ := hdrOk_bounds h
  obtain ⟨c1, c2, c3, c4, c5⟩ := hdrE_ok h.2
  have hS := Has.whole (hdrL h0 h1 h2 h3 h4 h5 h6)
  generalize hSS : (ByteArray.mk (hdrL h0 h1 h2 h3 h4 h5 h6).toArray) = S at *
  clear hSS
  unfold hdrL at hS
  have m0 : Has S 0 (beL 1 67) := hS.left.left (l := [67]) (m := [87, 77, 49])
  have m1 : Has S 1 (beL 1 87) := (hS.left.right (l := [67]) (m := [87, 77, 49])).left (l := [87]) (m := [77, 49])
  have m2 : Has S 2 (beL 1 77) := (hS.left.right (l := [67, 87]) (m := [77, 49])).left (l := [77]) (m := [49])
  have m3 : Has S 3 (beL 1 49) := hS.left.right (l := [67, 87, 77]) (m := [49])
  have q4 := hS.right' (b := 4) rfl
  have q8 := q4.right' (b := 8) (by rw [beL_len])
  have q16 := q8.right' (b := 16) (by rw [beL_len])
  have q17 := q16.right' (b := 17) (by rw [beL_len])
  have q18 := q17.right' (b := 18) (by rw [beL_len])
  have q19 := q18.right' (b := 19) (by rw [beL_len])
  have q21 := q19.right' (b := 21) (by rw [beL_len])
  obtain ⟨r0, r0', r0''⟩ := m0.rd (by decide) (x := 0) (y := 1) rfl rfl
  obtain ⟨r1, r1', r1''⟩ := m1.rd (by decide) (x := 1) (y := 1) rfl rfl
  obtain ⟨r2, r2', r2''⟩ := m2.rd (by decide) (x := 2) (y := 1) rfl rfl
  obtain ⟨r3, r3', r3''⟩ := m3.rd (by decide) (x := 3) (y := 1) rfl rfl
  have p1 : 256 ^ 1 = 256 := by decide
  have p2 : 256 ^ 2 = 65536 := by decide
  have p4 : 256 ^ 4 = 4294967296 := by decide
  have p8 : 256 ^ 8 = 18446744073709551616 := by decide
  obtain ⟨r4, r4', r4''⟩ := q4.left.rd (by rw [p4]; omega) (x := 4) (y := 4) rfl rfl
  obtain ⟨r8, r8', r8''⟩ := q8.left.rd (by rw [p8]; omega) (x := 8) (y := 8) rfl rfl
  obtain ⟨r16, r16', r16''⟩ := q16.left.rd (by rw [p1]; omega) (x := 16) (y := 1) rfl rfl
  obtain ⟨r17, r17', r17''⟩ := q17.left.rd (by rw [p1]; omega) (x := 17) (y := 1) rfl rfl
  obtain ⟨r18, r18', r18''⟩ := q18.left.rd (by rw [p1]; omega) (x := 18) (y := 1) rfl rfl
  obtain ⟨r19, r19', r19''⟩ := q19.left.rd (by rw [p2]; omega) (x := 19) (y := 2) rfl rfl
  obtain ⟨r21, r21', r21''⟩ := q21.rd (by rw [p2]; omega) (x := 21) (y := 2) rfl rfl
  rw [Int.toNat_of_nonneg a0] at r4
  rw [Int.toNat_of_nonneg a2] at r8
  rw [Int.toNat_of_nonneg b2.1] at r16
  rw [Int.toNat_of_nonneg b3.1] at r17
  rw [Int.toNat_of_nonneg b4.1] at r18
  rw [Int.toNat_of_nonneg b5.1] at r19
  rw [Int.toNat_of_nonneg b6.1] at r21
  have e1 : hM S 67 (0, .nil) = (1, .nil) := by unfold hM; simp only; rw [r0, r0', r0'']; rfl
  have e2 : hM S 87 (1, .nil) = (2, .nil) := by unfold hM; simp only; rw [r1, r1', r1'']; rfl
  have e3 : hM S 77 (2, .nil) = (3, .nil) := by unfold hM; simp only; rw [r2, r2', r2'']; rfl
  have e4 : hM S 49 (3, .nil) = (4, .nil) := by unfold hM; simp only; rw [r3, r3', r3'']; rfl
  have x4 : hx4 S (0, .nil) = (4, .nil) := by unfold hx4; rw [e1, e2, e3, e4]
  have x5 : hx5 S (0, .nil) = (8, .nil) := by unfold hx5 hR; rw [x4]; simp only; rw [r4', r4'']; rfl
  have x6 : hx6 S (0, .nil) = (16, .nil) := by unfold hx6 hR; rw [x5]; simp only; rw [r8', r8'']; rfl
  have x7 : hx7 S (0, .nil) = (17, .nil) := by unfold hx7 hR; rw [x6]; simp only; rw [r16', r16'']; rfl
  rw [fineQ_1'] at c2
  rw [fineQ_2'] at c3
  rw [fineQ_3'] at c4
  rw [fineQ_4'] at c5
  have x8 : hx8 S (0, .nil) = (18, .nil) := by unfold hx8 hN; rw [x7]; simp only; rw [r17, r17', r17'', c2]; rfl
  have x9 : hx9 S (0, .nil) = (19, .nil) := by unfold hx9 hN; rw [x8]; simp only; rw [r18, r18', r18'', c3]; rfl
  have x10 : hx10 S (0, .nil) = (21, .nil) := by unfold hx10 hN; rw [x9]; simp only; rw [r19, r19', r19'', c4]; rfl
  have x11 : hx11 S (0, .nil) = (23, .nil) := by unfold hx11 hN; rw [x10]; simp only; rw [r21, r21', r21'', c5]; rfl
  rw [x4, x5, x6, x7, x8, x9, x10, x11]
  exact ⟨rfl, r4, r8, r16, r17, r18, r19, r21⟩
end Go.Ab.T
namespace Go.Ab.T
open Go Go.Ab
def hasI (v : Int) : List Int → Bool
  | [] => false
  | x :: r => bif v == x then true else hasI v r
def idxI (v : Int) : List Int → Int → Int
  | [], _ => -1
  | x :: r, i => bif v == x then i else idxI v r (i + 1)
theorem idxI_has (v : Int) : ∀ (l : List Int) (i : Int), 0 ≤ i → decide (idxI v l i ≥ 0) = hasI v l
  | [], i, h => rfl
  | x :: r, i, h => by
    by_cases hx : (v == x) = true
    · have e1 : idxI v (x :: r) i = i := by rw [idxI, hx]; rfl
      have e2 : hasI v (x :: r) = true := by rw [hasI, hx]; rfl
      rw [e1, e2]; simpa using h
    · have hx : (v == x) = false := by simpa using hx
      have e1 : idxI v (x :: r) i = idxI v r (i + 1) := by rw [idxI, hx]; rfl
      have e2 : hasI v (x :: r) = hasI v r := by rw [hasI, hx]; rfl
      rw [e1, e2]; exact idxI_has v r (i + 1) (by omega)
abbrev Win := Int × Int × Int
/-- Is a window within a frame? -/
def fitsW (w : Win) (fr : Int) : Bool := decide (w.2.2 > 0) && decide (w.2.1 ≥ 0) && decide (w.2.1 ≤ fr) && decide (w.2.2 ≤ IntKind.i64.wrap (fr - w.2.1))
def wrongW (fr : Int) (ids : List Int) (p w : Win) : Int :=
  bif !hasI w.1 ids then 10 else bif !fitsW w fr then 11 else bif decide (w.2.1 < p.2.1) then 9 else bif decide (w.2.1 < IntKind.i64.wrap (p.2.1 + p.2.2)) then 12 else 0
/-- The first window that is wrong: its number, the class. -/
def chkW (fr : Int) (ids : List Int) : Win → List Win → Int → Int × Int
  | _, [], _ => (0, 0)
  | p, w :: r, i => bif wrongW fr ids p w == 0 then chkW fr ids w r (i + 1) else (i, wrongW fr ids p w)
/-- The window in front of a place. -/
def prevW (ws : List Win) : Nat → Option Win
  | 0 => some (0, 0, 0)
  | m + 1 => ws[m]?
def errW (r : Int × Int) : Err := bif r.2 == 0 then .nil else .plc r.1 (.cls r.2)
theorem wrongW_cases (fr : Int) (ids : List Int) (p w : Win) : wrongW fr ids p w = 10 ∨ wrongW fr ids p w = 11 ∨ wrongW fr ids p w = 9 ∨ wrongW fr ids p w = 12 ∨ wrongW fr ids p w = 0 := by
  unfold wrongW
  cases hasI w.1 ids <;> cases fitsW w fr <;> cases decide (w.2.1 < p.2.1) <;> cases decide (w.2.1 < IntKind.i64.wrap (p.2.1 + p.2.2)) <;> simp
theorem isCls_wrongW (fr : Int) (ids : List Int) (p w : Win) : isCls (wrongW fr ids p w) = !(wrongW fr ids p w == 0) := by
  rcases wrongW_cases fr ids p w with h | h | h | h | h <;> rw [h] <;> decide
theorem at_new (i c : Int) (h : isCls c = true) : atE i (newE c) = .plc i (.cls c) := by
  unfold newE; rw [h]; rfl
theorem fitsW_not (w : Win) (fr : Int) : fitsW w fr = !(decide (w.2.2 < 1) || decide (w.2.1 < 0) || decide (w.2.1 > fr) || decide (w.2.2 > IntKind.i64.wrap (fr - w.2.1))) := by
  unfold fitsW
  generalize IntKind.i64.wrap (fr - w.2.1) = z
  rw [Bool.eq_iff_iff]
  simp only [Bool.and_eq_true, decide_eq_true_eq, Bool.not_eq_true', Bool.or_eq_false_iff, decide_eq_false_iff_not]
  omega
end Go.Ab.T
namespace Go.Ab.T
open Go Go.Ab
abbrev W3 := Int × Int × Int
abbrev Sch := Int × Int × List W3 × List W3
def wiV (v a b : Int) : Bool := decide (v ≥ a) && decide (v ≤ b)
theorem wiV_iff {v a b : Int} : wiV v a b = true ↔ a ≤ v ∧ v ≤ b := by
  unfold wiV; rw [Bool.and_eq_true, decide_eq_true_eq, decide_eq_true_eq]
def okW (w : W3) : Bool := wiV w.1 0 255 && (wiV w.2.1 0 1048576 && wiV w.2.2 0 1048576)
def rowsR (l : List W3) : Bool := l.all okW
/-- What is wrong with a schedule. -/
def schR (x : Sch) : Int :=
  bif !wiV x.1 0 255 then 18 else bif !wiV x.2.1 1 1048576 then 18 else bif decide ((x.2.2.1.length : Int) > 256) then 8 else bif !rowsR x.2.2.1 then 18 else
  bif decide ((x.2.2.2.length : Int) > 32) then 8 else bif !rowsR x.2.2.2 then 18 else 0
def rowB (w : W3) : List UInt8 := beL 1 w.1.toNat ++ (beL 4 w.2.1.toNat ++ beL 4 w.2.2.toNat)
def rowsB : List W3 → List UInt8
  | [] => []
  | w :: r => rowB w ++ rowsB r
/-- Bytes with a number's, or rows', behind them. -/
def addN (l : List UInt8) (v n : Int) : List UInt8 := l ++ beL n.toNat v.toNat
def addR (l : List UInt8) (ws : List W3) : List UInt8 := l ++ rowsB ws
def schB (x : Sch) : List UInt8 := beL 1 x.1.toNat ++ (beL 4 x.2.1.toNat ++ (beL 2 x.2.2.1.length ++ (rowsB x.2.2.1 ++ (beL 1 x.2.2.2.length ++ rowsB x.2.2.2))))
def schsB : List Sch → List UInt8
  | [] => []
  | x :: r => schB x ++ schsB r
theorem rowsB_append : ∀ l m : List W3, rowsB (l ++ m) = rowsB l ++ rowsB m
  | [], _ => rfl
  | w :: l, m => by rw [List.cons_append, rowsB, rowsB, rowsB_append l m, List.append_assoc]
theorem schsB_append : ∀ l m : List Sch, schsB (l ++ m) = schsB l ++ schsB m
  | [], _ => rfl
  | w :: l, m => by rw [List.cons_append, schsB, schsB, schsB_append l m, List.append_assoc]
theorem rowB_len (w : W3) : (rowB w).length = 9 := by unfold rowB; simp only [List.length_append, beL_len]
theorem rowsB_len : ∀ l : List W3, (rowsB l).length = 9 * l.length
  | [] => rfl
  | w :: l => by rw [rowsB, List.length_append, rowB_len, rowsB_len l, List.length_cons]; omega
/-- The error's number of a schedule behind another one. -/
def schE1 (p : Option Int) (x : Sch) : Int := bif schR x == 0 && (match p with | some i => decide (x.1 ≤ i) | none => false) then 9 else schR x
def schsE : Option Int → Nat → List Sch → Err
  | _, _, [] => .nil
  | p, i, x :: r => bif schE1 p x == 0 then schsE (some x.1) (i + 1) r else .sec 3 (.plc (i : Int) (.cls (schE1 p x)))
theorem schR_cases (x : Sch) : schR x = 0 ∨ schR x = 8 ∨ schR x = 18 := by
  unfold schR
  cases wiV x.1 0 255 <;> cases wiV x.2.1 1 1048576 <;> cases decide ((x.2.2.1.length : Int) > 256) <;> cases rowsR x.2.2.1 <;> cases decide ((x.2.2.2.length : Int) > 32) <;> cases rowsR x.2.2.2 <;> simp
theorem schE1_cases (p : Option Int) (x : Sch) : schE1 p x = 0 ∨ schE1 p x = 8 ∨ schE1 p x = 18 ∨ schE1 p x = 9 := by
  unfold schE1
  have := schR_cases x
  cases (schR x == 0 && (match p with | some i => decide (x.1 ≤ i) | none => false))
  · rcases this with h | h | h <;> simp [h]
  · simp
theorem schsE_good : ∀ (l : List Sch) (p : Option Int) (i : Nat), GoodE (schsE p i l)
  | [], _, _ => .nil
  | x :: r, p, i => by
    unfold schsE
    cases h : schE1 p x == 0 with
    | true => exact schsE_good r _ _
    | false =>
      refine .spc _ _ _ ?_
      have := schE1_cases p x
      rw [beq_eq_false_iff_ne] at h
      rcases this with h2 | h2 | h2 | h2
      · exact absurd h2 h
      · rw [h2]; rfl
      · rw [h2]; rfl
      · rw [h2]; rfl
/-- Is a schedule right, so that it has bytes? -/
def OkS (x : Sch) : Prop := (0 ≤ x.1 ∧ x.1 ≤ 255) ∧ (1 ≤ x.2.1 ∧ x.2.1 ≤ 1048576) ∧ x.2.2.1.length ≤ 256 ∧ (∀ w, w ∈ x.2.2.1 → okW w = true) ∧ x.2.2.2.length ≤ 32 ∧ ∀ w, w ∈ x.2.2.2 → okW w = true
theorem schR_ok {x : Sch} (h : schR x = 0) : OkS x := by
  unfold schR at h
  cases c1 : wiV x.1 0 255 <;> cases c2 : wiV x.2.1 1 1048576 <;> cases c3 : decide ((x.2.2.1.length : Int) > 256) <;> cases c4 : rowsR x.2.2.1 <;> cases c5 : decide ((x.2.2.2.length : Int) > 32) <;> cases c6 : rowsR x.2.2.2 <;>
    simp only [c1, c2, c3, c4, c5, c6, Bool.not_true, Bool.not_false, cond_true, cond_false] at h <;> first | (exfalso; omega) | skip
  rw [decide_eq_false_iff_not] at c3 c5
  rw [wiV_iff] at c1 c2
  exact ⟨by omega, by omega, by omega, List.all_eq_true.1 c4, by omega, List.all_eq_true.1 c6⟩
theorem schE1_zero {p : Option Int} {x : Sch} (h : schE1 p x = 0) : schR x = 0 ∧ ∀ i, p = some i → i < x.1 := by
  unfold schE1 at h
  cases c1 : schR x == 0 with
  | false => rw [c1] at h; rw [beq_eq_false_iff_ne] at c1; exact absurd h c1
  | true =>
    refine ⟨eq_of_beq c1, ?_⟩
    rintro i rfl
    rw [c1] at h
    cases c2 : decide (x.1 ≤ i) with
    | true => simp only [c2] at h; exact absurd (show (9 : Int) = 0 from h) (by decide)
    | false => rw [decide_eq_false_iff_not] at c2; omega
theorem okW_b {w : W3} (h : okW w = true) : (0 ≤ w.1 ∧ w.1 ≤ 255) ∧ (0 ≤ w.2.1 ∧ w.2.1 ≤ 1048576) ∧ 0 ≤ w.2.2 ∧ w.2.2 ≤ 1048576 := by
  unfold okW at h
  simp only [Bool.and_eq_true, wiV_iff] at h
  exact ⟨h.1, h.2.1, h.2.2⟩
theorem addN_1 (l : List UInt8) (v : Int) : (addN l v 1).length = l.length + 1 := by unfold addN; rw [List.length_append, beL_len]; rfl
theorem addN_2 (l : List UInt8) (v : Int) : (addN l v 2).length = l.length + 2 := by unfold addN; rw [List.length_append, beL_len]; rfl
theorem addN_4 (l : List UInt8) (v : Int) : (addN l v 4).length = l.length + 4 := by unfold addN; rw [List.length_append, beL_len]; rfl
theorem addR_len (l : List UInt8) (ws : List W3) : (addR l ws).length = l.length + 9 * ws.length := by unfold addR; rw [List.length_append, rowsB_len]
/-- All bytes, or those that were there. -/
def outS (b : List UInt8) (e : Err) (out rest : List UInt8) : List UInt8 := bif e.isNil then out ++ rest else b
def prevS (l : List Sch) : Nat → Option Int
  | 0 => none
  | i + 1 => (l[i]?).map (·.1)
theorem sch_bytes (out : List UInt8) (y : Sch) (r : List UInt8) (b : List UInt8) (e : Err) :
    outS b e (addR (addN (addR (addN (addN (addN out y.1 1) y.2.1 4) (y.2.2.1.length : Int) 2) y.2.2.1) (y.2.2.2.length : Int) 1) y.2.2.2) r = outS b e out (schB y ++ r) := by
  unfold outS addR addN schB
  have e1 : Int.toNat 1 = 1 := rfl
  have e2 : Int.toNat 2 = 2 := rfl
  have e4 : Int.toNat 4 = 4 := rfl
  simp only [List.append_assoc, Int.toNat_natCast, e1, e2, e4]
theorem sch_err {e : Int} (h : e = 0 ∨ e = 8 ∨ e = 18 ∨ e = 9) (h0 : (e == 0) = false) (i : Int) : inE 3 (atE i (newE e)) = .sec 3 (.plc i (.cls e)) := by
  rcases h with rfl | rfl | rfl | rfl
  · cases h0
  · rfl
  · rfl
  · rfl
theorem schE1_bad {p : Option Int} {x : Sch} (h : (schR x == 0) = false) : schE1 p x = schR x := by unfold schE1; rw [h]; rfl
theorem schE1_none {x : Sch} (h : (schR x == 0) = true) : schE1 none x = 0 := by unfold schE1; rw [h, eq_of_beq h]; rfl
theorem schE1_some {x : Sch} {i : Int} (h : (schR x == 0) = true) : schE1 (some i) x = bif decide (x.1 ≤ i) then 9 else 0 := by
  unfold schE1; rw [h, eq_of_beq h, Bool.true_and]
theorem schsE_cons (p : Option Int) (i : Nat) (x : Sch) (r : List Sch) : schsE p i (x :: r) = bif schE1 p x == 0 then schsE (some x.1) (i + 1) r else .sec 3 (.plc (i : Int) (.cls (schE1 p x))) := rfl
theorem mk_app (s : ByteArray) (l m : List UInt8) : (ByteArray.mk l.toArray ++ ByteArray.mk m.toArray) = ByteArray.mk (l ++ m).toArray := by
  apply ByteArray.ext; apply Array.ext'; simp
theorem schsE_ok : ∀ (l : List Sch) (p : Option Int) (i : Nat), (schsE p i l).isNil = true → ∀ x, x ∈ l → OkS x
  | [], _, _, _, x, hx => by cases hx
  | y :: r, p, i, h, x, hx => by
    rw [schsE_cons] at h
    cases c : schE1 p y == 0 with
    | false => rw [c] at h; cases h
    | true =>
      rw [c] at h
      rcases List.mem_cons.1 hx with rfl | hx
      · exact schR_ok (schE1_zero (eq_of_beq c)).1
      · exact schsE_ok r _ _ h x hx
theorem schB_len (x : Sch) : (schB x).length = 8 + 9 * x.2.2.1.length + 9 * x.2.2.2.length := by
  unfold schB; simp only [List.length_append, beL_len, rowsB_len]; omega
end Go.Ab.T
namespace Go.Ab.T
open Go Go.Ab
/-- A number that was read, and whether it may be. -/
def tkE (s : ByteArray) (sec least : Int) (x : RS) : Err := needE (rdE s x.1 4 sec x.2) (wiV (rdV s x.1 4 x.2) least 1048576) sec 18 x.1
def tk (s : ByteArray) (sec least : Int) (x : RS) : RS := (rdAt s x.1 4 x.2, tkE s sec least x)
def tkV (s : ByteArray) (sec least : Int) (x : RS) : Int := bif (tkE s sec least x).isNil then rdV s x.1 4 x.2 else 0
def r1 (s : ByteArray) (sec n : Int) (x : RS) : RS := (rdAt s x.1 n x.2, rdE s x.1 n sec x.2)
def rowV (s : ByteArray) (sec : Int) (x : RS) : W3 := (rdV s x.1 1 x.2, tkV s sec 0 (r1 s sec 1 x), tkV s sec 0 (tk s sec 0 (r1 s sec 1 x)))
def rowX (s : ByteArray) (sec : Int) (x : RS) : RS := tk s sec 0 (tk s sec 0 (r1 s sec 1 x))
/-- Rows, and where the reader is then. -/
def rowsV (s : ByteArray) (sec : Int) : Nat → RS → List W3
  | 0, _ => []
  | n + 1, x => bif x.2.isNil then rowV s sec x :: rowsV s sec n (rowX s sec x) else []
def rowsX (s : ByteArray) (sec : Int) : Nat → RS → RS
  | 0, x => x
  | n + 1, x => bif x.2.isNil then rowsX s sec n (rowX s sec x) else x
def cntX (s : ByteArray) (sec size most : Int) (x : RS) : RS := (rdAt s x.1 size x.2, needE (rdE s x.1 size sec x.2) (decide (rdV s x.1 size x.2 ≤ most)) sec 8 x.1)
def manyV (s : ByteArray) (sec size most : Int) (x : RS) : List W3 := bif (cntX s sec size most x).2.isNil then rowsV s sec (rdV s x.1 size x.2).toNat (cntX s sec size most x) else []
def manyX (s : ByteArray) (sec size most : Int) (x : RS) : RS := bif (cntX s sec size most x).2.isNil then rowsX s sec (rdV s x.1 size x.2).toNat (cntX s sec size most x) else cntX s sec size most x
def idX (s : ByteArray) (last : Int) (x : RS) : RS := (rdAt s x.1 1 x.2, needE (rdE s x.1 1 3 x.2) (decide (rdV s x.1 1 x.2 > last)) 3 9 x.1)
def s1X (s : ByteArray) (last : Int) (x : RS) : RS := tk s 3 1 (idX s last x)
def s2X (s : ByteArray) (last : Int) (x : RS) : RS := manyX s 3 2 256 (s1X s last x)
def schX (s : ByteArray) (last : Int) (x : RS) : RS := manyX s 3 1 32 (s2X s last x)
def schV (s : ByteArray) (last : Int) (x : RS) : Sch := (rdV s x.1 1 x.2, tkV s 3 1 (idX s last x), manyV s 3 2 256 (s1X s last x), manyV s 3 1 32 (s2X s last x))
def schsV (s : ByteArray) : Nat → Int → RS → List Sch
  | 0, _, _ => []
  | n + 1, last, x => bif x.2.isNil then schV s last x :: schsV s n (schV s last x).1 (schX s last x) else []
def schsX (s : ByteArray) : Nat → Int → RS → RS
  | 0, _, x => x
  | n + 1, last, x => bif x.2.isNil then schsX s n (schV s last x).1 (schX s last x) else x
def addW (l m : List W3) : List W3 := l ++ m
/-- What is handed back: nothing, if something was wrong. -/
def resS (s : ByteArray) (n : Nat) (x : RS) : List Sch := bif (schsX s n (-1) x).2.isNil then schsV s n (-1) x else []
def addS (l m : List Sch) : List Sch := l ++ m
theorem hIn.tk {s : ByteArray} {x : RS} (sec least : Int) (h : hIn s x) : hIn s (tk s sec least x) := rdAt_le h.1 h.2 (by omega)
theorem hIn.r1 {s : ByteArray} {x : RS} (sec : Int) {n : Int} (hn : 0 ≤ n) (h : hIn s x) : hIn s (r1 s sec n x) := rdAt_le h.1 h.2 hn
theorem hIn.rowX {s : ByteArray} {x : RS} (sec : Int) (h : hIn s x) : hIn s (rowX s sec x) := ((h.r1 sec (by omega)).tk _ _).tk _ _
theorem hIn.rowsX {s : ByteArray} (sec : Int) : ∀ (n : Nat) {x : RS}, hIn s x → hIn s (rowsX s sec n x)
  | 0, _, h => h
  | n + 1, x, h => by
    unfold Go.Ab.T.rowsX
    cases x.2.isNil with
    | false => exact h
    | true => exact hIn.rowsX sec n (h.rowX sec)
theorem hIn.cnt {s : ByteArray} {x : RS} (sec : Int) {size : Int} (most : Int) (hn : 0 ≤ size) (h : hIn s x) : hIn s (cntX s sec size most x) := rdAt_le h.1 h.2 hn
theorem hIn.many {s : ByteArray} {x : RS} (sec : Int) {size : Int} (most : Int) (hn : 0 ≤ size) (h : hIn s x) : hIn s (manyX s sec size most x) := by
  unfold manyX
  cases (cntX s sec size most x).2.isNil with
  | false => exact h.cnt sec most hn
  | true => exact (h.cnt sec most hn).rowsX sec _
theorem hIn.id {s : ByteArray} {x : RS} (last : Int) (h : hIn s x) : hIn s (idX s last x) := rdAt_le h.1 h.2 (by omega)
theorem hIn.s1 {s : ByteArray} {x : RS} (last : Int) (h : hIn s x) : hIn s (s1X s last x) := (h.id last).tk _ _
theorem hIn.s2 {s : ByteArray} {x : RS} (last : Int) (h : hIn s x) : hIn s (s2X s last x) := (h.s1 last).many _ _ (by omega)
theorem hIn.sch {s : ByteArray} {x : RS} (last : Int) (h : hIn s x) : hIn s (schX s last x) := (h.s2 last).many _ _ (by omega)
theorem rowsV_len (s : ByteArray) (sec : Int) : ∀ (n : Nat) (x : RS), (rowsV s sec n x).length ≤ n
  | 0, _ => Nat.le_refl _
  | n + 1, x => by
    unfold rowsV
    cases x.2.isNil with
    | false => exact Nat.zero_le _
    | true => show (_ :: _).length ≤ _; rw [List.length_cons]; have := rowsV_len s sec n (rowX s sec x); omega
theorem rdAt_ge (s : ByteArray) (a : Int) {n : Int} (e : Err) (hn : 0 ≤ n) : a ≤ rdAt s a n e := by
  unfold rdAt; cases rdOk s a n e with
  | false => exact Int.le_refl _
  | true => show a ≤ a + n; omega
theorem failR_not (e : Err) (sec a : Int) {k : Int} (hk : isCls k = true) : (failR e sec k a).isNil = false := by
  unfold failR
  cases h : e.isNil with
  | false => exact h
  | true =>
    show (inE sec (atE a (newE k))).isNil = false
    unfold newE; rw [hk]; rfl
theorem needE_nil (e : Err) (t : Bool) (sec a : Int) {k : Int} (hk : isCls k = true) : (needE e t sec k a).isNil = (t && e.isNil) := by
  unfold needE; cases t with
  | true => rw [Bool.true_and]; rfl
  | false => rw [Bool.false_and]; exact failR_not e sec a hk
theorem rdE_keep {s : ByteArray} {a n sec : Int} {e : Err} (h : (rdE s a n sec e).isNil = true) : rdOk s a n e = true ∧ e.isNil = true := by
  rw [rdE_nil] at h
  refine ⟨h, ?_⟩
  unfold rdOk at h; rw [Bool.and_eq_true] at h; exact h.2
theorem tk_keep {s : ByteArray} {sec least : Int} {x : RS} (h : (tk s sec least x).2.isNil = true) : (rdE s x.1 4 sec x.2).isNil = true ∧ wiV (rdV s x.1 4 x.2) least 1048576 = true ∧ x.2.isNil = true := by
  have h : (needE (rdE s x.1 4 sec x.2) (wiV (rdV s x.1 4 x.2) least 1048576) sec 18 x.1).isNil = true := h
  rw [needE_nil _ _ _ _ rfl, Bool.and_eq_true] at h
  exact ⟨h.2, h.1, (rdE_keep h.2).2⟩
theorem tk_ge (s : ByteArray) (sec least : Int) (x : RS) : x.1 ≤ (tk s sec least x).1 := rdAt_ge s _ _ (by omega)
theorem r1_keep {s : ByteArray} {sec n : Int} {x : RS} (h : (r1 s sec n x).2.isNil = true) : rdOk s x.1 n x.2 = true ∧ x.2.isNil = true := rdE_keep h
theorem rowX_keep {s : ByteArray} {sec : Int} {x : RS} (h : (rowX s sec x).2.isNil = true) : (tk s sec 0 (r1 s sec 1 x)).2.isNil = true ∧ (r1 s sec 1 x).2.isNil = true ∧ x.2.isNil = true := by
  have h1 := (tk_keep h).2.2
  have h2 := (tk_keep h1).2.2
  exact ⟨h1, h2, (r1_keep h2).2⟩
theorem rowX_ge (s : ByteArray) (sec : Int) (x : RS) : x.1 ≤ (rowX s sec x).1 := by
  have h1 : x.1 ≤ (r1 s sec 1 x).1 := rdAt_ge s _ _ (by omega)
  have h2 := tk_ge s sec 0 (r1 s sec 1 x)
  have h3 := tk_ge s sec 0 (tk s sec 0 (r1 s sec 1 x))
  unfold rowX; omega
theorem rowsX_keep (s : ByteArray) (sec : Int) : ∀ (n : Nat) (x : RS), (rowsX s sec n x).2.isNil = true → x.2.isNil = true
  | 0, _, h => h
  | n + 1, x, h => by
    unfold rowsX at h
    cases c : x.2.isNil with
    | true => rfl
    | false => rw [c] at h; rw [cond_false, c] at h; exact h
theorem rowsX_ge (s : ByteArray) (sec : Int) : ∀ (n : Nat) (x : RS), x.1 ≤ (rowsX s sec n x).1
  | 0, _ => Int.le_refl _
  | n + 1, x => by
    unfold rowsX
    cases x.2.isNil with
    | false => exact Int.le_refl _
    | true => exact Int.le_trans (rowX_ge s sec x) (rowsX_ge s sec n _)
theorem cntX_keep {s : ByteArray} {sec size most : Int} {x : RS} (h : (cntX s sec size most x).2.isNil = true) : rdOk s x.1 size x.2 = true ∧ rdV s x.1 size x.2 ≤ most ∧ x.2.isNil = true := by
  have h : (needE (rdE s x.1 size sec x.2) (decide (rdV s x.1 size x.2 ≤ most)) sec 8 x.1).isNil = true := h
  rw [needE_nil _ _ _ _ rfl, Bool.and_eq_true, decide_eq_true_eq] at h
  exact ⟨(rdE_keep h.2).1, h.1, (rdE_keep h.2).2⟩
theorem manyX_keep {s : ByteArray} {sec size most : Int} {x : RS} (h : (manyX s sec size most x).2.isNil = true) : (cntX s sec size most x).2.isNil = true := by
  unfold manyX at h
  cases c : (cntX s sec size most x).2.isNil with
  | true => rfl
  | false => rw [c, cond_false, c] at h; exact h
theorem manyX_ge {s : ByteArray} {sec size most : Int} (hs : 0 ≤ size) (x : RS) : x.1 ≤ (manyX s sec size most x).1 := by
  have h1 : x.1 ≤ (cntX s sec size most x).1 := rdAt_ge s _ _ hs
  unfold manyX
  cases (cntX s sec size most x).2.isNil with
  | false => exact h1
  | true => exact Int.le_trans h1 (rowsX_ge s sec _ _)
theorem idX_keep {s : ByteArray} {last : Int} {x : RS} (h : (idX s last x).2.isNil = true) : rdOk s x.1 1 x.2 = true ∧ last < rdV s x.1 1 x.2 ∧ x.2.isNil = true := by
  have h : (needE (rdE s x.1 1 3 x.2) (decide (rdV s x.1 1 x.2 > last)) 3 9 x.1).isNil = true := h
  rw [needE_nil _ _ _ _ rfl, Bool.and_eq_true, decide_eq_true_eq] at h
  exact ⟨(rdE_keep h.2).1, h.1, (rdE_keep h.2).2⟩
theorem schX_keep {s : ByteArray} {last : Int} {x : RS} (h : (schX s last x).2.isNil = true) : (s2X s last x).2.isNil = true ∧ (s1X s last x).2.isNil = true ∧ (idX s last x).2.isNil = true := by
  have h1 := (cntX_keep (manyX_keep h)).2.2
  have h2 := (cntX_keep (manyX_keep h1)).2.2
  exact ⟨h1, h2, (tk_keep h2).2.2⟩
theorem schX_adv {s : ByteArray} {last : Int} {x : RS} (h : (schX s last x).2.isNil = true) : x.1 + 1 ≤ (schX s last x).1 := by
  obtain ⟨_, _, h3⟩ := schX_keep h
  obtain ⟨h4, _, _⟩ := idX_keep h3
  have e : (idX s last x).1 = x.1 + 1 := by show rdAt s x.1 1 x.2 = _; unfold rdAt; rw [h4]; rfl
  have g1 := tk_ge s 3 1 (idX s last x)
  have g2 := manyX_ge (s := s) (sec := 3) (size := 2) (most := 256) (by omega) (s1X s last x)
  have g3 := manyX_ge (s := s) (sec := 3) (size := 1) (most := 32) (by omega) (s2X s last x)
  unfold schX
  unfold s1X at g2
  unfold s2X s1X at g3 ⊢
  omega
theorem wrap_succ' {i : Nat} (h : i < 9223372036854775807) : IntKind.i64.wrap ((i : Int) + 1) = ((i + 1 : Nat) : Int) := by
  rw [wrap_id _ (by omega) (by omega)]; omega
def longRows : List Sch → Bool
  | [] => false
  | x :: r => (decide ((x.2.2.1.length : Int) > 300) || decide ((x.2.2.2.length : Int) > 60)) || longRows r
def longS (l : List Sch) : Bool := longRows l || decide ((l.length : Int) > 20)
theorem longRows_no : ∀ (l : List Sch), longRows l = false → ∀ x, x ∈ l → x.2.2.1.length ≤ 300 ∧ x.2.2.2.length ≤ 60
  | [], _, _, hx => by cases hx
  | y :: r, h, x, hx => by
    rw [longRows, Bool.or_eq_false_iff, Bool.or_eq_false_iff, decide_eq_false_iff_not, decide_eq_false_iff_not] at h
    rcases List.mem_cons.1 hx with rfl | hx
    · exact ⟨by omega, by omega⟩
    · exact longRows_no r h.2 x hx
end Go.Ab.T
namespace Go.Ab.T
open Go Go.Ab
/-! what was put is read as it was -/
section
variable {S : ByteArray} {sec : Int}
theorem p256_1 : 256 ^ 1 = 256 := by decide
theorem p256_2 : 256 ^ 2 = 65536 := by decide
theorem p256_4 : 256 ^ 4 = 4294967296 := by decide
theorem tk_back {a : Nat} {v least : Int} (h : Has S a (beL 4 v.toNat)) (h0 : 0 ≤ v) (h1 : least ≤ v) (h2 : v ≤ 1048576) {x : Int} (hx : x = (a : Int)) :
    tkV S sec least (x, .nil) = v ∧ tk S sec least (x, .nil) = (((a + 4 : Nat) : Int), .nil) := by
  obtain ⟨r, r', r''⟩ := h.rd (by rw [p256_4]; omega) (x := x) (y := 4) hx rfl
  rw [Int.toNat_of_nonneg h0] at r
  have hw : wiV v least 1048576 = true := wiV_iff.2 ⟨h1, h2⟩
  have hE : tkE S sec least (x, .nil) = .nil := by unfold tkE; simp only; rw [r, r'', hw]; rfl
  refine ⟨?_, ?_⟩
  · unfold tkV; rw [hE]; exact r
  · unfold tk; rw [hE]; simp only; rw [r']
theorem r1_back {a : Nat} {v : Int} (h : Has S a (beL 1 v.toNat)) (h0 : 0 ≤ v) (h2 : v ≤ 255) {x : Int} (hx : x = (a : Int)) :
    rdV S x 1 .nil = v ∧ r1 S sec 1 (x, .nil) = (((a + 1 : Nat) : Int), .nil) := by
  obtain ⟨r, r', r''⟩ := h.rd (by rw [p256_1]; omega) (x := x) (y := 1) hx rfl
  rw [Int.toNat_of_nonneg h0] at r
  exact ⟨r, by unfold r1; simp only; rw [r', r'']⟩
theorem row_back {a : Nat} {w : W3} (h : Has S a (rowB w)) (hw : okW w = true) {x : Int} (hx : x = (a : Int)) : rowV S sec (x, .nil) = w ∧ rowX S sec (x, .nil) = (((a + 9 : Nat) : Int), .nil) := by
  obtain ⟨b1, b2, b3, b4⟩ := okW_b hw
  unfold rowB at h
  have q1 := h.right' (b := a + 1) (by rw [beL_len])
  have q5 := q1.right' (b := a + 5) (by rw [beL_len])
  obtain ⟨e1, e2⟩ := r1_back (sec := sec) h.left b1.1 b1.2 hx
  obtain ⟨e3, e4⟩ := tk_back (sec := sec) (least := 0) q1.left b2.1 b2.1 b2.2 (x := ((a + 1 : Nat) : Int)) rfl
  obtain ⟨e5, e6⟩ := tk_back (sec := sec) (least := 0) q5 b3 b3 b4 (x := ((a + 1 + 4 : Nat) : Int)) rfl
  refine ⟨?_, ?_⟩
  · unfold rowV; rw [e2, e4, e3, e5]; simp only; rw [e1]
  · unfold rowX; rw [e2, e4, e6]
theorem rows_back : ∀ (ws : List W3) (a : Nat) (x : Int), x = (a : Int) → Has S a (rowsB ws) → (∀ w, w ∈ ws → okW w = true) →
    rowsV S sec ws.length (x, .nil) = ws ∧ rowsX S sec ws.length (x, .nil) = (((a + 9 * ws.length : Nat) : Int), .nil)
  | [], a, x, hx, _, _ => ⟨rfl, by rw [hx]; rfl⟩
  | w :: r, a, x, hx, h, hw => by
    rw [rowsB] at h
    obtain ⟨e1, e2⟩ := row_back (sec := sec) h.left (hw w List.mem_cons_self) hx
    obtain ⟨e3, e4⟩ := rows_back r (a + 9) _ rfl (h.right' (by rw [rowB_len])) (fun z hz => hw z (List.mem_cons_of_mem _ hz))
    refine ⟨?_, ?_⟩
    · show (bif true then rowV S sec (x, .nil) :: rowsV S sec r.length (rowX S sec (x, .nil)) else []) = _
      rw [e1, e2, e3]; rfl
    · show (bif true then rowsX S sec r.length (rowX S sec (x, .nil)) else _) = _
      rw [e2, e4, List.length_cons]
      have : a + 9 + 9 * r.length = a + 9 * (r.length + 1) := by omega
      rw [this]; rfl
theorem many_back {size : Nat} {ws : List W3} {a : Nat} {most : Int} (h : Has S a (beL size ws.length ++ rowsB ws)) (hs : ws.length < 256 ^ size) (hm : (ws.length : Int) ≤ most) (hw : ∀ w, w ∈ ws → okW w = true) {x : Int} (hx : x = (a : Int)) {y : Int} (hy : y = (size : Int)) :
    manyV S sec y most (x, .nil) = ws ∧ manyX S sec y most (x, .nil) = (((a + size + 9 * ws.length : Nat) : Int), .nil) := by
  obtain ⟨r, r', r''⟩ := h.left.rd hs (x := x) (y := y) hx hy
  have hc : cntX S sec y most (x, .nil) = (((a + size : Nat) : Int), .nil) := by
    unfold cntX; simp only; rw [r, r', r'', decide_eq_true hm]; rfl
  obtain ⟨e3, e4⟩ := rows_back (sec := sec) ws (a + size) _ rfl (h.right' (by rw [beL_len])) hw
  refine ⟨?_, ?_⟩
  · unfold manyV; rw [hc]; simp only; rw [r, Int.toNat_natCast, e3]; rfl
  · unfold manyX; rw [hc]; simp only; rw [r, Int.toNat_natCast, e4]; rfl
theorem sch_back {a : Nat} {last : Int} {y : Sch} (h : Has S a (schB y)) (ho : OkS y) (hl : last < y.1) {x : Int} (hx : x = (a : Int)) :
    schV S last (x, .nil) = y ∧ schX S last (x, .nil) = (((a + (schB y).length : Nat) : Int), .nil) := by
  obtain ⟨o1, o2, o3, o4, o5, o6⟩ := ho
  have hlen := schB_len y
  unfold schB at h
  have q1 := h.right' (b := a + 1) (by rw [beL_len])
  have q5 := q1.right' (b := a + 5) (by rw [beL_len])
  have q5' : Has S (a + 5) ((beL 2 y.2.2.1.length ++ rowsB y.2.2.1) ++ (beL 1 y.2.2.2.length ++ rowsB y.2.2.2)) := by
    rw [List.append_assoc]; exact q5
  have q6 := q5'.right' (b := a + 5 + 2 + 9 * y.2.2.1.length) (by rw [List.length_append, beL_len, rowsB_len]; omega)
  obtain ⟨r, r', r''⟩ := h.left.rd (by rw [p256_1]; omega) (x := x) (y := 1) hx rfl
  rw [Int.toNat_of_nonneg o1.1] at r
  have hi : idX S last (x, .nil) = (((a + 1 : Nat) : Int), .nil) := by
    unfold idX; simp only; rw [r, r', r'', decide_eq_true (show y.1 > last from hl)]; rfl
  obtain ⟨e3, e4⟩ := tk_back (sec := 3) (least := 1) q1.left (by omega) o2.1 o2.2 (x := ((a + 1 : Nat) : Int)) rfl
  have h1 : s1X S last (x, .nil) = (((a + 5 : Nat) : Int), .nil) := by unfold s1X; rw [hi, e4]
  obtain ⟨e5, e6⟩ := many_back (sec := 3) (most := 256) q5'.left (by rw [p256_2]; omega) (by omega) o4 (x := ((a + 5 : Nat) : Int)) rfl (y := 2) rfl
  have h2 : s2X S last (x, .nil) = (((a + 5 + 2 + 9 * y.2.2.1.length : Nat) : Int), .nil) := by unfold s2X; rw [h1, e6]
  obtain ⟨e7, e8⟩ := many_back (sec := 3) (most := 32) q6 (by rw [p256_1]; omega) (by omega) o6 (x := ((a + 5 + 2 + 9 * y.2.2.1.length : Nat) : Int)) rfl (y := 1) rfl
  refine ⟨?_, ?_⟩
  · unfold schV; rw [hi, h1, h2, e3, e5, e7]; simp only; rw [r]
  · unfold schX; rw [h2, e8]
    have : a + 5 + 2 + 9 * y.2.2.1.length + 1 + 9 * y.2.2.2.length = a + (schB y).length := by omega
    rw [this]
theorem schs_back : ∀ (l : List Sch) (p : Option Int) (i : Nat) (last : Int) (a : Nat) (x : Int), x = (a : Int) → (schsE p i l).isNil = true → (match p with | some q => last = q | none => last = -1) → Has S a (schsB l) →
    schsV S l.length last (x, .nil) = l ∧ schsX S l.length last (x, .nil) = (((a + (schsB l).length : Nat) : Int), .nil)
  | [], _, _, _, a, x, hx, _, _, _ => ⟨rfl, by rw [hx]; rfl⟩
  | y :: r, p, i, last, a, x, hx, he, hp, h => by
    rw [schsE_cons] at he
    cases c : schE1 p y == 0 with
    | false => rw [c] at he; cases he
    | true =>
      rw [c] at he
      obtain ⟨z1, z2⟩ := schE1_zero (eq_of_beq c)
      have ho := schR_ok z1
      have hlast : last < y.1 := by
        cases p with
        | none => have := ho.1.1; simp only at hp; omega
        | some q => have := z2 q rfl; simp only at hp; omega
      rw [schsB] at h
      obtain ⟨e1, e2⟩ := sch_back h.left ho hlast hx
      obtain ⟨e3, e4⟩ := schs_back r (some y.1) (i + 1) y.1 (a + (schB y).length) _ rfl he rfl h.right
      refine ⟨?_, ?_⟩
      · show (bif true then schV S last (x, .nil) :: schsV S r.length (schV S last (x, .nil)).1 (schX S last (x, .nil)) else []) = _
        rw [e1, e2, e3]; rfl
      · show (bif true then schsX S r.length (schV S last (x, .nil)).1 (schX S last (x, .nil)) else _) = _
        rw [e1, e2, e4, schsB, List.length_append, Nat.add_assoc]; rfl
theorem schsB_len : ∀ (l : List Sch), (∀ x, x ∈ l → OkS x) → (schsB l).length ≤ 3000 * l.length
  | [], _ => Nat.le_refl _
  | y :: r, h => by
    obtain ⟨_, _, o3, _, o5, _⟩ := h y List.mem_cons_self
    have := schsB_len r (fun x hx => h x (List.mem_cons_of_mem _ hx))
    rw [schsB, List.length_append, schB_len, List.length_cons]; omega
end
end Go.Ab.T
namespace Go.Ab.T
open Go Go.Ab
/-! of what was read just those bytes are put -/
def Seg (s : ByteArray) (a b : Int) (l : List UInt8) : Prop := 0 ≤ a ∧ a ≤ b ∧ b ≤ (s.size : Int) ∧ l = (s.data.toList.drop a.toNat).take (b.toNat - a.toNat)
theorem Seg.nil {s : ByteArray} {a : Int} (h0 : 0 ≤ a) (h1 : a ≤ (s.size : Int)) : Seg s a a [] := ⟨h0, Int.le_refl _, h1, by simp⟩
theorem Seg.app {s : ByteArray} {a b c : Int} {l m : List UInt8} (h : Seg s a b l) (k : Seg s b c m) : Seg s a c (l ++ m) := by
  obtain ⟨h0, h1, h2, rfl⟩ := h
  obtain ⟨k0, k1, k2, rfl⟩ := k
  refine ⟨h0, by omega, k2, ?_⟩
  have e : s.data.toList.drop b.toNat = (s.data.toList.drop a.toNat).drop (b.toNat - a.toNat) := by
    rw [List.drop_drop]; congr 1; omega
  rw [e]
  have e2 : c.toNat - a.toNat = (b.toNat - a.toNat) + (c.toNat - b.toNat) := by omega
  rw [e2, List.take_add]
theorem Seg.cast {s : ByteArray} {a b b' : Int} {l m : List UInt8} (h : Seg s a b l) (hb : b = b') (hl : l = m) : Seg s a b' m := by subst hb hl; exact h
section
variable {s : ByteArray} {sec : Int}
theorem seg_rd {x : RS} (hx : hIn s x) {n : Nat} {k : Int} (hk : k = (n : Int)) (h : rdOk s x.1 k x.2 = true) : Seg s x.1 (rdAt s x.1 k x.2) (beL n (rdV s x.1 k x.2).toNat) ∧ 0 ≤ rdV s x.1 k x.2 := by
  subst hk
  have hat : rdAt s x.1 n x.2 = x.1 + n := by unfold rdAt; rw [h]; rfl
  have hv : rdV s x.1 n x.2 = (beV s x.1.toNat n : Int) := by unfold rdV; rw [h]; show (beV s x.1.toNat (n : Int).toNat : Int) = _; rw [Int.toNat_natCast]
  have hfit : (n : Int) ≤ (s.size : Int) - x.1 := by
    unfold rdOk at h; rw [Bool.and_eq_true, decide_eq_true_eq] at h; exact h.1
  obtain ⟨h0, h1⟩ := hx
  rw [hat, hv, Int.toNat_natCast]
  refine ⟨⟨h0, by omega, by omega, ?_⟩, by omega⟩
  rw [beL_beV s x.1.toNat n (by omega)]
  congr 1; omega
theorem seg_tk {x : RS} {least : Int} (hx : hIn s x) (h : (tk s sec least x).2.isNil = true) :
    Seg s x.1 (tk s sec least x).1 (beL 4 (tkV s sec least x).toNat) ∧ least ≤ tkV s sec least x ∧ tkV s sec least x ≤ 1048576 ∧ 0 ≤ tkV s sec least x := by
  obtain ⟨h1, h2, h3⟩ := tk_keep h
  have hv : tkV s sec least x = rdV s x.1 4 x.2 := by
    unfold tkV
    have : (tkE s sec least x).isNil = true := h
    rw [this]; rfl
  obtain ⟨g1, g2⟩ := seg_rd hx (n := 4) (k := 4) rfl (rdE_keep h1).1
  rw [hv]
  obtain ⟨w1, w2⟩ := wiV_iff.1 h2
  exact ⟨g1, w1, w2, g2⟩
theorem seg_row {x : RS} (hx : hIn s x) (h : (rowX s sec x).2.isNil = true) : Seg s x.1 (rowX s sec x).1 (rowB (rowV s sec x)) ∧ okW (rowV s sec x) = true := by
  obtain ⟨h1, h2, h3⟩ := rowX_keep h
  obtain ⟨g1, g1'⟩ := seg_rd hx (n := 1) (k := 1) rfl (r1_keep h2).1
  have x1 := hx.r1 (n := 1) sec (by omega)
  obtain ⟨g2, g3, g4, g5⟩ := seg_tk (least := 0) x1 h1
  obtain ⟨g6, g7, g8, g9⟩ := seg_tk (least := 0) (x1.tk sec 0) h
  obtain ⟨v0, v1⟩ := rdV_lt s x.1 1 x.2
  have v1 : rdV s x.1 (1 : Int) x.2 < 256 := v1
  refine ⟨g1.app (g2.app g6), ?_⟩
  unfold okW rowV
  rw [Bool.and_eq_true, Bool.and_eq_true, wiV_iff, wiV_iff, wiV_iff]
  exact ⟨⟨g1', by show rdV s x.1 1 x.2 ≤ 255; omega⟩, ⟨g3, g4⟩, g7, g8⟩
theorem seg_rows : ∀ (n : Nat) (x : RS), hIn s x → (rowsX s sec n x).2.isNil = true → Seg s x.1 (rowsX s sec n x).1 (rowsB (rowsV s sec n x)) ∧ (∀ w, w ∈ rowsV s sec n x → okW w = true) ∧ (rowsV s sec n x).length = n
  | 0, x, hx, _ => ⟨Seg.nil hx.1 hx.2, (fun w hw => by cases hw), rfl⟩
  | n + 1, x, hx, h => by
    have hn := rowsX_keep s sec (n + 1) x h
    have e1 : rowsX s sec (n + 1) x = rowsX s sec n (rowX s sec x) := by show (bif x.2.isNil then _ else _) = _; rw [hn]; rfl
    have e2 : rowsV s sec (n + 1) x = rowV s sec x :: rowsV s sec n (rowX s sec x) := by show (bif x.2.isNil then _ else _) = _; rw [hn]; rfl
    rw [e1] at h
    obtain ⟨g1, g2⟩ := seg_row hx (rowsX_keep s sec n _ h)
    obtain ⟨g3, g4, g5⟩ := seg_rows n (rowX s sec x) (hx.rowX sec) h
    rw [e1, e2]
    refine ⟨g1.app g3, fun w hw => ?_, by rw [List.length_cons, g5]⟩
    rcases List.mem_cons.1 hw with rfl | hw
    · exact g2
    · exact g4 w hw
theorem seg_many {x : RS} (hx : hIn s x) {n : Nat} {k most : Int} (hk : k = (n : Int)) (h : (manyX s sec k most x).2.isNil = true) :
    Seg s x.1 (manyX s sec k most x).1 (beL n (manyV s sec k most x).length ++ rowsB (manyV s sec k most x)) ∧ (∀ w, w ∈ manyV s sec k most x → okW w = true) ∧ ((manyV s sec k most x).length : Int) ≤ most := by
  have hc := manyX_keep h
  obtain ⟨c1, c2, c3⟩ := cntX_keep hc
  obtain ⟨g1, g1'⟩ := seg_rd hx hk c1
  have e1 : manyX s sec k most x = rowsX s sec (rdV s x.1 k x.2).toNat (cntX s sec k most x) := by unfold manyX; rw [hc]; rfl
  have e2 : manyV s sec k most x = rowsV s sec (rdV s x.1 k x.2).toNat (cntX s sec k most x) := by unfold manyV; rw [hc]; rfl
  rw [e1] at h
  obtain ⟨g3, g4, g5⟩ := seg_rows _ _ (hx.cnt sec most (by omega)) h
  rw [e1, e2]
  refine ⟨?_, g4, by rw [g5]; omega⟩
  rw [g5]
  exact g1.app g3
theorem seg_sch {x : RS} {last : Int} (hx : hIn s x) (hl : -1 ≤ last) (h : (schX s last x).2.isNil = true) : Seg s x.1 (schX s last x).1 (schB (schV s last x)) ∧ OkS (schV s last x) ∧ last < (schV s last x).1 := by
  obtain ⟨h1, h2, h3⟩ := schX_keep h
  obtain ⟨i1, i2, i3⟩ := idX_keep h3
  obtain ⟨g1, g1'⟩ := seg_rd hx (n := 1) (k := 1) rfl i1
  obtain ⟨g2, g3, g4, g5⟩ := seg_tk (sec := 3) (least := 1) (hx.id last) h2
  obtain ⟨g6, g7, g8⟩ := seg_many (sec := 3) (hx.s1 last) (n := 2) (k := 2) (most := 256) rfl h1
  obtain ⟨g9, g10, g11⟩ := seg_many (sec := 3) (hx.s2 last) (n := 1) (k := 1) (most := 32) rfl h
  obtain ⟨v0, v1⟩ := rdV_lt s x.1 1 x.2
  have v1 : rdV s x.1 (1 : Int) x.2 < 256 := v1
  refine ⟨(g1.app (g2.app (g6.app g9))).cast rfl ?_, ⟨⟨g1', by show rdV s x.1 1 x.2 ≤ 255; omega⟩, ⟨g3, g4⟩, ?_, g7, ?_, g10⟩, i2⟩
  · unfold schB schV; simp only [List.append_assoc]
  · show (manyV s 3 2 256 (s1X s last x)).length ≤ 256; omega
  · show (manyV s 3 1 32 (s2X s last x)).length ≤ 32; omega
theorem okS_schR {x : Sch} (h : OkS x) : schR x = 0 := by
  obtain ⟨o1, o2, o3, o4, o5, o6⟩ := h
  have c1 : wiV x.1 0 255 = true := wiV_iff.2 o1
  have c2 : wiV x.2.1 1 1048576 = true := wiV_iff.2 o2
  have c3 : decide ((x.2.2.1.length : Int) > 256) = false := decide_eq_false (by omega)
  have c4 : rowsR x.2.2.1 = true := List.all_eq_true.2 o4
  have c5 : decide ((x.2.2.2.length : Int) > 32) = false := decide_eq_false (by omega)
  have c6 : rowsR x.2.2.2 = true := List.all_eq_true.2 o6
  unfold schR; rw [c1, c2, c3, c4, c5, c6]; rfl
theorem schsX_keep : ∀ (n : Nat) (last : Int) (x : RS), (schsX s n last x).2.isNil = true → x.2.isNil = true
  | 0, _, _, h => h
  | n + 1, last, x, h => by
    unfold schsX at h
    cases c : x.2.isNil with
    | true => rfl
    | false => rw [c] at h; rw [cond_false, c] at h; exact h
theorem seg_schs : ∀ (n : Nat) (last : Int) (x : RS) (p : Option Int) (i : Nat), hIn s x → (match p with | some q => last = q ∧ 0 ≤ q | none => last = -1) → (schsX s n last x).2.isNil = true →
    Seg s x.1 (schsX s n last x).1 (schsB (schsV s n last x)) ∧ (schsE p i (schsV s n last x)).isNil = true
  | 0, last, x, p, i, hx, _, _ => ⟨Seg.nil hx.1 hx.2, rfl⟩
  | n + 1, last, x, p, i, hx, hp, h => by
    have hn := schsX_keep (n + 1) last x h
    have e1 : schsX s (n + 1) last x = schsX s n (schV s last x).1 (schX s last x) := by show (bif x.2.isNil then _ else _) = _; rw [hn]; rfl
    have e2 : schsV s (n + 1) last x = schV s last x :: schsV s n (schV s last x).1 (schX s last x) := by show (bif x.2.isNil then _ else _) = _; rw [hn]; rfl
    rw [e1] at h
    have hl : -1 ≤ last := by
      cases p with
      | none => simp only at hp; omega
      | some q => simp only at hp; omega
    obtain ⟨g1, g2, g3⟩ := seg_sch hx hl (schsX_keep n _ _ h)
    obtain ⟨g4, g5⟩ := seg_schs n (schV s last x).1 (schX s last x) (some (schV s last x).1) (i + 1) (hx.sch last) ⟨rfl, g2.1.1⟩ h
    rw [e1, e2]
    refine ⟨g1.app g4, ?_⟩
    have hE : schE1 p (schV s last x) = 0 := by
      have h0 := okS_schR g2
      have hb : (schR (schV s last x) == 0) = true := by rw [h0]; rfl
      cases p with
      | none => exact schE1_none hb
      | some q =>
        rw [schE1_some hb]
        have : decide ((schV s last x).1 ≤ q) = false := decide_eq_false (by simp only at hp; omega)
        rw [this]; rfl
    rw [schsE_cons, hE]
    exact g5
theorem hIn.schs : ∀ (n : Nat) (last : Int) {x : RS}, hIn s x → hIn s (schsX s n last x)
  | 0, _, _, h => h
  | n + 1, last, x, h => by
    unfold schsX
    cases x.2.isNil with
    | false => exact h
    | true => exact hIn.schs n _ (h.sch last)
theorem schsB_ge : ∀ l : List Sch, 8 * l.length ≤ (schsB l).length
  | [] => Nat.le_refl _
  | y :: r => by
    have := schsB_ge r
    rw [schsB, List.length_append, schB_len, List.length_cons]; omega
theorem seg_text {b : Int} {l : List UInt8} (h : Seg s 0 b l) : ByteArray.mk l.toArray = s.extract (Int.toNat 0) b.toNat := by
  obtain ⟨_, h1, h2, rfl⟩ := h
  apply ByteArray.ext; apply Array.ext'
  rw [ByteArray.data_extract, Array.toList_extract, List.extract_eq_take_drop]
theorem seg_len {b : Int} {l : List UInt8} (h : Seg s 0 b l) : (l.length : Int) ≤ s.size := by
  obtain ⟨_, h1, h2, rfl⟩ := h
  rw [List.length_take]
  have : s.data.toList.length = s.size := by simp
  omega
end
end Go.Ab.T
namespace Go.Ab.T
open Go Go.Ab
abbrev Cl := Int × Bool
abbrev Prt := Int × ByteArray × Bool × List Cl
def bitN (b : Bool) : Nat := bif b then 1 else 0
def cellB (c : Cl) : List UInt8 := beL 1 (bitN c.2) ++ beL 4 c.1.toNat
def cellsB : List Cl → List UInt8
  | [] => []
  | c :: r => cellB c ++ cellsB r
def nameB (s : ByteArray) : List UInt8 := UInt8.ofNat s.size :: s.data.toList
def prtB (p : Prt) : List UInt8 := beL 1 p.1.toNat ++ (beL 1 (bitN p.2.2.1) ++ (nameB p.2.1 ++ (beL 1 p.2.2.2.length ++ cellsB p.2.2.2)))
def prtsB : List Prt → List UInt8
  | [] => []
  | p :: r => prtB p ++ prtsB r
/-- What is wrong with a partition. -/
def prtR (p : Prt) : Int := bif decide (p.1 < 0) then 18 else bif decide (p.1 > 255) then 18 else bif !rightN p.2.1 then 7 else bif decide ((p.2.2.2.length : Int) > 16) then 8 else 0
/-- The error's number of a row behind another one, by their ids. -/
def wE1 (p : Option Int) (id r : Int) : Int := bif r == 0 && (match p with | some i => decide (id ≤ i) | none => false) then 9 else r
def wE (sec : Int) : Option Int → Nat → List (Int × Int) → Err
  | _, _, [] => .nil
  | p, i, x :: r => bif wE1 p x.1 x.2 == 0 then wE sec (some x.1) (i + 1) r else .sec sec (.plc (i : Int) (.cls (wE1 p x.1 x.2)))
def prtsE (p : Option Int) (i : Nat) (l : List Prt) : Err := wE 2 p i (l.map fun x => (x.1, prtR x))
theorem cellB_len (c : Cl) : (cellB c).length = 5 := by unfold cellB; simp only [List.length_append, beL_len]
theorem cellsB_len : ∀ l : List Cl, (cellsB l).length = 5 * l.length
  | [] => rfl
  | c :: l => by rw [cellsB, List.length_append, cellB_len, cellsB_len l, List.length_cons]; omega
theorem nameB_len (s : ByteArray) : (nameB s).length = s.size + 1 := by unfold nameB; rw [List.length_cons, blen]
theorem prtB_len (p : Prt) : (prtB p).length = 4 + p.2.1.size + 5 * p.2.2.2.length := by
  unfold prtB; simp only [List.length_append, beL_len, nameB_len, cellsB_len]; omega
def OkC (c : Cl) : Prop := 0 ≤ c.1 ∧ c.1 < 4294967296
def OkP (p : Prt) : Prop := (0 ≤ p.1 ∧ p.1 ≤ 255) ∧ rightN p.2.1 = true ∧ p.2.2.2.length ≤ 16
theorem prtR_cases (p : Prt) : prtR p = 0 ∨ prtR p = 7 ∨ prtR p = 8 ∨ prtR p = 18 := by
  unfold prtR
  cases decide (p.1 < 0) <;> cases decide (p.1 > 255) <;> cases rightN p.2.1 <;> cases decide ((p.2.2.2.length : Int) > 16) <;> simp
theorem prtR_ok {p : Prt} (h : prtR p = 0) : OkP p := by
  unfold prtR at h
  cases c1 : decide (p.1 < 0) <;> cases c2 : decide (p.1 > 255) <;> cases c3 : rightN p.2.1 <;> cases c4 : decide ((p.2.2.2.length : Int) > 16) <;>
    simp only [c1, c2, c3, c4, Bool.not_true, Bool.not_false, cond_true, cond_false] at h <;> first | (exfalso; omega) | skip
  rw [decide_eq_false_iff_not] at c1 c2 c4
  exact ⟨by omega, c3, by omega⟩
theorem right_len {s : ByteArray} (h : rightN s = true) : 1 ≤ s.size ∧ s.size ≤ 16 := by
  simp only [rightN, Bool.and_eq_true, decide_eq_true_eq] at h
  omega
theorem wE1_bad {p : Option Int} {id r : Int} (h : (r == 0) = false) : wE1 p id r = r := by unfold wE1; rw [h]; rfl
theorem wE1_none {id r : Int} (h : (r == 0) = true) : wE1 none id r = 0 := by unfold wE1; rw [h, eq_of_beq h]; rfl
theorem wE1_some {id r i : Int} (h : (r == 0) = true) : wE1 (some i) id r = bif decide (id ≤ i) then 9 else 0 := by
  unfold wE1; rw [h, eq_of_beq h, Bool.true_and]
theorem wE1_zero {p : Option Int} {id r : Int} (h : wE1 p id r = 0) : r = 0 ∧ ∀ i, p = some i → i < id := by
  unfold wE1 at h
  cases c1 : r == 0 with
  | false => rw [c1] at h; rw [beq_eq_false_iff_ne] at c1; exact absurd h c1
  | true =>
    refine ⟨eq_of_beq c1, ?_⟩
    rintro i rfl
    rw [c1] at h
    cases c2 : decide (id ≤ i) with
    | true => simp only [c2] at h; exact absurd (show (9 : Int) = 0 from h) (by decide)
    | false => rw [decide_eq_false_iff_not] at c2; omega
theorem wE1_or (p : Option Int) (id r : Int) : wE1 p id r = r ∨ wE1 p id r = 9 := by
  cases p with
  | none => left; show (bif r == 0 && false then 9 else r) = r; rw [Bool.and_false]; rfl
  | some i =>
    show (bif r == 0 && decide (id ≤ i) then 9 else r) = r ∨ (bif r == 0 && decide (id ≤ i) then 9 else r) = 9
    cases (r == 0 && decide (id ≤ i)) with
    | true => exact .inr rfl
    | false => exact .inl rfl
theorem wE_good (sec : Int) : ∀ (l : List (Int × Int)) (p : Option Int) (i : Nat), (∀ x, x ∈ l → x.2 = 0 ∨ isCls x.2 = true) → GoodE (wE sec p i l)
  | [], _, _, _ => .nil
  | x :: r, p, i, h => by
    unfold wE
    cases c : wE1 p x.1 x.2 == 0 with
    | true => exact wE_good sec r _ _ (fun y hy => h y (List.mem_cons_of_mem _ hy))
    | false =>
      refine .spc _ _ _ ?_
      rw [beq_eq_false_iff_ne] at c
      rcases wE1_or p x.1 x.2 with h2 | h2
      · rw [h2] at c ⊢
        rcases h x List.mem_cons_self with h | h
        · exact absurd h c
        · exact h
      · rw [h2]; rfl
theorem prtsE_good (l : List Prt) (p : Option Int) (i : Nat) : GoodE (prtsE p i l) := by
  refine wE_good 2 _ p i fun x hx => ?_
  obtain ⟨y, _, rfl⟩ := List.mem_map.1 hx
  rcases prtR_cases y with h | h | h | h
  · exact .inl h
  · right; show isCls (prtR y) = true; rw [h]; rfl
  · right; show isCls (prtR y) = true; rw [h]; rfl
  · right; show isCls (prtR y) = true; rw [h]; rfl
theorem prtsE_cons (p : Option Int) (i : Nat) (x : Prt) (r : List Prt) : prtsE p i (x :: r) = bif wE1 p x.1 (prtR x) == 0 then prtsE (some x.1) (i + 1) r else .sec 2 (.plc (i : Int) (.cls (wE1 p x.1 (prtR x)))) := rfl
theorem prtsE_ok : ∀ (l : List Prt) (p : Option Int) (i : Nat), (prtsE p i l).isNil = true → ∀ x, x ∈ l → OkP x
  | [], _, _, _, x, hx => by cases hx
  | y :: r, p, i, h, x, hx => by
    rw [prtsE_cons] at h
    cases c : wE1 p y.1 (prtR y) == 0 with
    | false => rw [c] at h; cases h
    | true =>
      rw [c] at h
      rcases List.mem_cons.1 hx with rfl | hx
      · exact prtR_ok (wE1_zero (eq_of_beq c)).1
      · exact prtsE_ok r _ _ h x hx
def prevP (l : List Prt) : Nat → Option Int
  | 0 => none
  | i + 1 => (l[i]?).map (·.1)
def nPutV (l : List UInt8) (s : ByteArray) : List UInt8 := bif rightN s then l ++ nameB s else l
theorem beL_one {v : Nat} (h : v < 256) : beL (Int.toNat 1) v = [UInt8.ofNat v] := by
  show [UInt8.ofNat (v / 256 ^ 0 % 256)] = _
  rw [Nat.pow_zero, Nat.div_one, Nat.mod_eq_of_lt h]
def addC (l : List UInt8) (cs : List Cl) : List UInt8 := l ++ cellsB cs
def addP (l : List UInt8) (p : Prt) : List UInt8 := l ++ prtB p
def outP (b : List UInt8) (e : Err) (out rest : List UInt8) : List UInt8 := bif e.isNil then out ++ rest else b
end Go.Ab.T
namespace Go.Ab.T
open Go Go.Ab
/-! what was put is read as it was -/
section
variable {S : ByteArray} {sec : Int}
theorem q256_1 : 256 ^ 1 = 256 := by decide
theorem q256_4 : 256 ^ 4 = 4294967296 := by decide
theorem bitN_lt (b : Bool) : bitN b < 256 ∧ bitN b ≤ 1 ∧ ((bitN b : Int) == 1) = b := by cases b <;> exact ⟨by decide, by decide, by decide⟩
/-- A name's bytes are read as it was. -/
theorem name_back {a : Nat} {s : ByteArray} (h : Has S a (nameB s)) (hr : rightN s = true) {x : Int} (hx : x = (a : Int)) :
    nmT S x sec .nil = s ∧ nmE S x sec .nil = .nil ∧ nmAt S x sec .nil = ((a + (s.size + 1) : Nat) : Int) := by
  obtain ⟨l1, l2⟩ := right_len hr
  have hl := blen s
  have hs := h.size
  rw [nameB_len] at hs
  have h' : Has S a (beL 1 s.size ++ s.data.toList) := by
    have : beL 1 s.size ++ s.data.toList = nameB s := by
      have e : beL 1 s.size = [UInt8.ofNat s.size] := beL_one (by omega)
      rw [e]; rfl
    rw [this]; exact h
  obtain ⟨r, r', r''⟩ := h'.left.rd (by rw [q256_1]; omega) (x := x) (y := 1) hx rfl
  have d1 : decide (((s.size : Nat) : Int) ≥ 1) = true := decide_eq_true (by omega)
  have d2 : decide (((s.size : Nat) : Int) ≤ 16) = true := decide_eq_true (by omega)
  have hK : nmK S x sec .nil = .nil := by unfold nmK; rw [r, r'', d1, d2]; rfl
  have hm : max ((s.size : Nat) : Int) 0 = s.size := by omega
  have h2 := h'.right' (b := a + 1) (by rw [beL_len])
  obtain ⟨_, k2, k3, k4⟩ := rd_fits S ((a + 1 : Nat) : Int) (s.size : Int) sec (by omega)
  have hx2 : S.extract ((a + 1 : Nat) : Int).toNat (((a + 1 : Nat) : Int) + (s.size : Int)).toNat = s := by
    obtain ⟨p, q, e1, e2⟩ := h2
    have e3 : (((a + 1 : Nat) : Int) + (s.size : Int)).toNat = a + 1 + s.size := by omega
    rw [e3, Int.toNat_natCast]
    apply ByteArray.ext; apply Array.ext'
    rw [ByteArray.data_extract, Array.toList_extract, List.extract_eq_take_drop, e1]
    have e4 : List.drop (a + 1) (p ++ (s.data.toList ++ q)) = s.data.toList ++ q := by rw [← e2, List.drop_left]
    rw [e4]
    have e5 : a + 1 + s.size - (a + 1) = s.data.toList.length := by omega
    rw [e5, List.take_left]
  have hE : nmE S x sec .nil = .nil := by
    unfold nmE; rw [hK, r, r', hm, k3, k4, hx2, hr]; rfl
  refine ⟨?_, hE, ?_⟩
  · unfold nmT; rw [hE, hK, r, r', hm, k3, hx2]; rfl
  · unfold nmAt; rw [hK, r, r', hm, k2]
    show ((a + 1 : Nat) : Int) + (s.size : Int) = _
    omega
theorem prt_bytes (out : List UInt8) (y : Prt) (r : List UInt8) (b : List UInt8) (e : Err) : outP b e (addP out y) r = outP b e out (prtB y ++ r) := by
  unfold outP addP; simp only [List.append_assoc]
theorem prt_err {e : Int} (h : e = 0 ∨ e = 7 ∨ e = 8 ∨ e = 18) (h0 : (e == 0) = false) (i : Int) : inE 2 (atE i (newE e)) = .sec 2 (.plc i (.cls e)) := by
  rcases h with rfl | rfl | rfl | rfl
  · cases h0
  · rfl
  · rfl
  · rfl
def addCl (l m : List Cl) : List Cl := l ++ m
def addPr (l m : List Prt) : List Prt := l ++ m
def longRowsP : List Prt → Bool
  | [] => false
  | x :: r => (decide ((x.2.1.size : Int) > 100) || decide ((x.2.2.2.length : Int) > 40)) || longRowsP r
def longP (l : List Prt) : Bool := longRowsP l || decide ((l.length : Int) > 40)
theorem longRowsP_no : ∀ (l : List Prt), longRowsP l = false → ∀ x, x ∈ l → x.2.2.2.length ≤ 40
  | [], _, _, hx => by cases hx
  | y :: r, h, x, hx => by
    rw [longRowsP, Bool.or_eq_false_iff, Bool.or_eq_false_iff, decide_eq_false_iff_not, decide_eq_false_iff_not] at h
    rcases List.mem_cons.1 hx with rfl | hx
    · omega
    · exact longRowsP_no r h.2 x hx
theorem prtsB_len : ∀ (l : List Prt), (∀ x, x ∈ l → OkP x) → (prtsB l).length ≤ 1000 * l.length
  | [], _ => Nat.le_refl _
  | y :: r, h => by
    obtain ⟨_, o2, o3⟩ := h y List.mem_cons_self
    have := right_len o2
    have := prtsB_len r (fun x hx => h x (List.mem_cons_of_mem _ hx))
    rw [prtsB, List.length_append, prtB_len, List.length_cons]; omega
end
end Go.Ab.T
namespace Go.Ab.T
open Go Go.Ab
abbrev Pr := Int × Int
def cmpI (a b : Int) : Int := bif decide (a < b) then -1 else bif decide (a > b) then 1 else 0
def orV : List Int → Int
  | [] => 0
  | x :: r => bif x != 0 then x else orV r
def ltP (a b : Pr) : Bool := bif decide (a.1 < b.1) then true else bif a.1 == b.1 then decide (a.2 < b.2) else false
def cmpP (a b : Pr) : Int := orV [cmpI a.1 b.1, cmpI a.2 b.2]
theorem cmpI_cases (a b : Int) : (cmpI a b = -1 ∧ a < b) ∨ (cmpI a b = 1 ∧ b < a) ∨ (cmpI a b = 0 ∧ a = b) := by
  unfold cmpI
  cases h : decide (a < b) with
  | true => rw [decide_eq_true_eq] at h; exact .inl ⟨rfl, h⟩
  | false =>
    rw [decide_eq_false_iff_not] at h
    cases h2 : decide (a > b) with
    | true => rw [decide_eq_true_eq] at h2; exact .inr (.inl ⟨rfl, h2⟩)
    | false => rw [decide_eq_false_iff_not] at h2; exact .inr (.inr ⟨rfl, by omega⟩)
theorem ltP_iff {a b : Pr} : ltP a b = true ↔ a.1 < b.1 ∨ (a.1 = b.1 ∧ a.2 < b.2) := by
  unfold ltP
  cases h : decide (a.1 < b.1) with
  | true => rw [decide_eq_true_eq] at h; exact ⟨fun _ => .inl h, fun _ => rfl⟩
  | false =>
    rw [decide_eq_false_iff_not] at h
    cases h2 : a.1 == b.1 with
    | true => rw [beq_iff_eq] at h2; show decide _ = true ↔ _; rw [decide_eq_true_eq]; exact ⟨fun h3 => .inr ⟨h2, h3⟩, fun h3 => by omega⟩
    | false => rw [beq_eq_false_iff_ne] at h2; exact ⟨fun h3 => (by cases h3), fun h3 => by omega⟩
theorem cmpP_lt (a b : Pr) : decide (cmpP a b < 0) = ltP a b := by
  rw [Bool.eq_iff_iff, decide_eq_true_eq, ltP_iff]
  unfold cmpP
  rcases cmpI_cases a.1 b.1 with ⟨h, h'⟩ | ⟨h, h'⟩ | ⟨h, h'⟩
  · rw [h]; show (-1 : Int) < 0 ↔ _; omega
  · rw [h]; show (1 : Int) < 0 ↔ _; omega
  · rw [h]
    rcases cmpI_cases a.2 b.2 with ⟨k, k'⟩ | ⟨k, k'⟩ | ⟨k, k'⟩
    · rw [k]; show (-1 : Int) < 0 ↔ _; omega
    · rw [k]; show (1 : Int) < 0 ↔ _; omega
    · rw [k]; show (0 : Int) < 0 ↔ _; omega
def idOk (n : Int) : Bool := bif decide (n ≥ 0) then decide (n ≤ 255) else false
theorem idOk_iff {n : Int} : idOk n = true ↔ 0 ≤ n ∧ n ≤ 255 := by
  unfold idOk
  cases h : decide (n ≥ 0) with
  | true => rw [decide_eq_true_eq] at h; show decide _ = true ↔ _; rw [decide_eq_true_eq]; omega
  | false => rw [decide_eq_false_iff_not] at h; exact ⟨fun h => (by cases h), fun h => by omega⟩
def inP (p : Pr) : Bool := idOk p.1 && idOk p.2
theorem inP_iff {p : Pr} : inP p = true ↔ (0 ≤ p.1 ∧ p.1 ≤ 255) ∧ 0 ≤ p.2 ∧ p.2 ≤ 255 := by
  unfold inP; rw [Bool.and_eq_true, idOk_iff, idOk_iff]
/-- What is wrong with a pair behind another one. -/
def pw1 (p : Option Pr) (x : Pr) : Int := bif inP x then (match p with | some q => bif ltP q x then 0 else 9 | none => 0) else 18
def prsE : Option Pr → Nat → List Pr → Err
  | _, _, [] => .nil
  | p, i, x :: r => bif pw1 p x == 0 then prsE (some x) (i + 1) r else .sec 4 (.plc (i : Int) (.cls (pw1 p x)))
theorem prsE_cons (p : Option Pr) (i : Nat) (x : Pr) (r : List Pr) : prsE p i (x :: r) = bif pw1 p x == 0 then prsE (some x) (i + 1) r else .sec 4 (.plc (i : Int) (.cls (pw1 p x))) := rfl
theorem pw1_cases (p : Option Pr) (x : Pr) : pw1 p x = 0 ∨ pw1 p x = 9 ∨ pw1 p x = 18 := by
  unfold pw1
  cases inP x with
  | false => exact .inr (.inr rfl)
  | true =>
    cases p with
    | none => exact .inl rfl
    | some q =>
      show (bif ltP q x then (0 : Int) else 9) = 0 ∨ (bif ltP q x then (0 : Int) else 9) = 9 ∨ _
      cases ltP q x with
      | true => exact .inl rfl
      | false => exact .inr (.inl rfl)
theorem pw1_zero {p : Option Pr} {x : Pr} (h : pw1 p x = 0) : inP x = true ∧ ∀ q, p = some q → ltP q x = true := by
  unfold pw1 at h
  cases c : inP x with
  | false => rw [c] at h; exact absurd (show (18 : Int) = 0 from h) (by decide)
  | true =>
    refine ⟨rfl, ?_⟩
    rintro q rfl
    rw [c] at h
    cases c2 : ltP q x with
    | true => rfl
    | false => simp only [c2] at h; exact absurd (show (9 : Int) = 0 from h) (by decide)
theorem prsE_good : ∀ (l : List Pr) (p : Option Pr) (i : Nat), GoodE (prsE p i l)
  | [], _, _ => .nil
  | x :: r, p, i => by
    rw [prsE_cons]
    cases c : pw1 p x == 0 with
    | true => exact prsE_good r _ _
    | false =>
      refine .spc _ _ _ ?_
      rw [beq_eq_false_iff_ne] at c
      rcases pw1_cases p x with h | h | h
      · exact absurd h c
      · rw [h]; rfl
      · rw [h]; rfl
theorem prsE_ok : ∀ (l : List Pr) (p : Option Pr) (i : Nat), (prsE p i l).isNil = true → ∀ x, x ∈ l → inP x = true
  | [], _, _, _, x, hx => by cases hx
  | y :: r, p, i, h, x, hx => by
    rw [prsE_cons] at h
    cases c : pw1 p y == 0 with
    | false => rw [c] at h; cases h
    | true =>
      rw [c] at h
      rcases List.mem_cons.1 hx with rfl | hx
      · exact (pw1_zero (eq_of_beq c)).1
      · exact prsE_ok r _ _ h x hx
def pairB (p : Pr) : List UInt8 := beL 1 p.1.toNat ++ beL 1 p.2.toNat
def pairsB : List Pr → List UInt8
  | [] => []
  | p :: r => pairB p ++ pairsB r
theorem pairB_len (p : Pr) : (pairB p).length = 2 := by unfold pairB; simp only [List.length_append, beL_len]
theorem pairsB_len : ∀ l : List Pr, (pairsB l).length = 2 * l.length
  | [] => rfl
  | p :: r => by rw [pairsB, List.length_append, pairB_len, pairsB_len r, List.length_cons]; omega
def prevR (l : List Pr) : Nat → Option Pr
  | 0 => none
  | i + 1 => l[i]?
def addB (l : List UInt8) (p : Pr) : List UInt8 := l ++ pairB p
theorem pair_bytes (out : List UInt8) (y : Pr) (r : List UInt8) (b : List UInt8) (e : Err) : outP b e (addB out y) r = outP b e out (pairB y ++ r) := by
  unfold outP addB; simp only [List.append_assoc]
/-! reading -/
def pr1 (s : ByteArray) (x : RS) : RS := r1 s 4 1 (r1 s 4 1 x)
def prV (s : ByteArray) (x : RS) : Pr := (rdV s x.1 1 x.2, rdV s (r1 s 4 1 x).1 1 (r1 s 4 1 x).2)
def prOk (last : Option Pr) (v : Pr) : Bool := match last with | none => true | some q => ltP q v
def prX (s : ByteArray) (last : Option Pr) (x : RS) : RS := ((pr1 s x).1, needE (pr1 s x).2 (prOk last (prV s x)) 4 9 x.1)
def prsV (s : ByteArray) : Nat → Option Pr → RS → List Pr
  | 0, _, _ => []
  | n + 1, last, x => bif x.2.isNil then prV s x :: prsV s n (some (prV s x)) (prX s last x) else []
def prsX (s : ByteArray) : Nat → Option Pr → RS → RS
  | 0, _, x => x
  | n + 1, last, x => bif x.2.isNil then prsX s n (some (prV s x)) (prX s last x) else x
def addP2 (l m : List Pr) : List Pr := l ++ m
def resP (s : ByteArray) (n : Nat) (x : RS) : List Pr := bif (prsX s n none x).2.isNil then prsV s n none x else []
theorem hIn.pr1 {s : ByteArray} {x : RS} (h : hIn s x) : hIn s (pr1 s x) := (h.r1 4 (by omega)).r1 4 (by omega)
theorem hIn.pr {s : ByteArray} {x : RS} (last : Option Pr) (h : hIn s x) : hIn s (prX s last x) := h.pr1
theorem hIn.prs {s : ByteArray} : ∀ (n : Nat) (last : Option Pr) {x : RS}, hIn s x → hIn s (prsX s n last x)
  | 0, _, _, h => h
  | n + 1, last, x, h => by
    unfold prsX
    cases x.2.isNil with
    | false => exact h
    | true => exact hIn.prs n _ (h.pr last)
theorem prX_keep {s : ByteArray} {last : Option Pr} {x : RS} (h : (prX s last x).2.isNil = true) : (pr1 s x).2.isNil = true ∧ (r1 s 4 1 x).2.isNil = true ∧ x.2.isNil = true ∧ prOk last (prV s x) = true := by
  have h : (needE (pr1 s x).2 (prOk last (prV s x)) 4 9 x.1).isNil = true := h
  rw [needE_nil _ _ _ _ rfl, Bool.and_eq_true] at h
  have h1 := (r1_keep h.2).2
  exact ⟨h.2, h1, (r1_keep h1).2, h.1⟩
theorem prsX_keep {s : ByteArray} : ∀ (n : Nat) (last : Option Pr) (x : RS), (prsX s n last x).2.isNil = true → x.2.isNil = true
  | 0, _, _, h => h
  | n + 1, last, x, h => by
    unfold prsX at h
    cases c : x.2.isNil with
    | true => rfl
    | false => rw [c] at h; rw [cond_false, c] at h; exact h
theorem prV_in {s : ByteArray} (x : RS) : inP (prV s x) = true := by
  rw [inP_iff]
  obtain ⟨v0, v1⟩ := rdV_lt s x.1 1 x.2
  obtain ⟨w0, w1⟩ := rdV_lt s (r1 s 4 1 x).1 1 (r1 s 4 1 x).2
  have v1 : rdV s x.1 (1 : Int) x.2 < 256 := v1
  have w1 : rdV s (r1 s 4 1 x).1 (1 : Int) (r1 s 4 1 x).2 < 256 := w1
  exact ⟨⟨v0, by show rdV s x.1 1 x.2 ≤ 255; omega⟩, w0, by show rdV s (r1 s 4 1 x).1 1 (r1 s 4 1 x).2 ≤ 255; omega⟩
theorem seg_pr {s : ByteArray} {x : RS} {last : Option Pr} (hx : hIn s x) (h : (prX s last x).2.isNil = true) : Seg s x.1 (prX s last x).1 (pairB (prV s x)) ∧ prOk last (prV s x) = true := by
  obtain ⟨h1, h2, h3, h4⟩ := prX_keep h
  obtain ⟨g1, _⟩ := seg_rd hx (n := 1) (k := 1) rfl (r1_keep h2).1
  obtain ⟨g2, _⟩ := seg_rd (hx.r1 (n := 1) 4 (by omega)) (n := 1) (k := 1) rfl (r1_keep h1).1
  exact ⟨g1.app g2, h4⟩
theorem seg_prs {s : ByteArray} : ∀ (n : Nat) (last : Option Pr) (x : RS) (i : Nat), hIn s x → (prsX s n last x).2.isNil = true →
    Seg s x.1 (prsX s n last x).1 (pairsB (prsV s n last x)) ∧ (prsE last i (prsV s n last x)).isNil = true
  | 0, last, x, i, hx, _ => ⟨Seg.nil hx.1 hx.2, by cases last <;> rfl⟩
  | n + 1, last, x, i, hx, h => by
    have hn := prsX_keep (n + 1) last x h
    have e1 : prsX s (n + 1) last x = prsX s n (some (prV s x)) (prX s last x) := by show (bif x.2.isNil then _ else _) = _; rw [hn]; rfl
    have e2 : prsV s (n + 1) last x = prV s x :: prsV s n (some (prV s x)) (prX s last x) := by show (bif x.2.isNil then _ else _) = _; rw [hn]; rfl
    rw [e1] at h
    obtain ⟨g1, g2⟩ := seg_pr hx (prsX_keep n _ _ h)
    obtain ⟨g4, g5⟩ := seg_prs n (some (prV s x)) (prX s last x) (i + 1) (hx.pr last) h
    rw [e1, e2]
    refine ⟨g1.app g4, ?_⟩
    have hE : pw1 last (prV s x) = 0 := by
      unfold pw1
      rw [prV_in x]
      cases last with
      | none => rfl
      | some q =>
        have g2 : ltP q (prV s x) = true := g2
        show (bif ltP q (prV s x) then (0 : Int) else 9) = 0
        rw [g2]; rfl
    rw [prsE_cons, hE]
    exact g5
/-! what was put is read as it was -/
theorem pr_back {S : ByteArray} {a : Nat} {last : Option Pr} {y : Pr} (h : Has S a (pairB y)) (ho : inP y = true) (hl : prOk last y = true) {x : Int} (hx : x = (a : Int)) :
    prV S (x, .nil) = y ∧ prX S last (x, .nil) = (((a + 2 : Nat) : Int), .nil) := by
  obtain ⟨⟨o1, o2⟩, o3, o4⟩ := inP_iff.1 ho
  unfold pairB at h
  have q1 := h.right' (b := a + 1) (by rw [beL_len])
  obtain ⟨e1, e2⟩ := r1_back (sec := 4) h.left o1 o2 hx
  obtain ⟨e3, e4⟩ := r1_back (sec := 4) q1 o3 o4 (x := ((a + 1 : Nat) : Int)) rfl
  have hv : prV S (x, .nil) = y := by
    unfold prV; rw [e2]; simp only; rw [e1, e3]
  refine ⟨hv, ?_⟩
  unfold prX pr1
  rw [hv, e2, e4, hl]; rfl
theorem prs_back {S : ByteArray} : ∀ (l : List Pr) (p : Option Pr) (i : Nat) (a : Nat) (x : Int), x = (a : Int) → (prsE p i l).isNil = true → Has S a (pairsB l) →
    prsV S l.length p (x, .nil) = l ∧ prsX S l.length p (x, .nil) = (((a + (pairsB l).length : Nat) : Int), .nil)
  | [], _, _, a, x, hx, _, _ => ⟨rfl, by rw [hx]; rfl⟩
  | y :: r, p, i, a, x, hx, he, h => by
    rw [prsE_cons] at he
    cases c : pw1 p y == 0 with
    | false => rw [c] at he; cases he
    | true =>
      rw [c] at he
      obtain ⟨z1, z2⟩ := pw1_zero (eq_of_beq c)
      have hl : prOk p y = true := by
        cases p with
        | none => rfl
        | some q => exact z2 q rfl
      rw [pairsB] at h
      obtain ⟨e1, e2⟩ := pr_back h.left z1 hl hx
      obtain ⟨e3, e4⟩ := prs_back r (some y) (i + 1) (a + 2) _ rfl he (h.right' (by rw [pairB_len]))
      refine ⟨?_, ?_⟩
      · show (bif true then prV S (x, .nil) :: prsV S r.length (some (prV S (x, .nil))) (prX S p (x, .nil)) else []) = _
        rw [e1, e2, e3]; rfl
      · show (bif true then prsX S r.length (some (prV S (x, .nil))) (prX S p (x, .nil)) else _) = _
        rw [e1, e2, e4, pairsB, List.length_append, pairB_len, Nat.add_assoc]; rfl
end Go.Ab.T
namespace Go.Ab.T
open Go Go.Ab
/-! sorting by a strict order that tells all apart -/
section
variable {α : Type}
structure STO (lt : α → α → Bool) : Prop where
  irrefl : ∀ a, lt a a = false
  trans : ∀ a b c, lt a b = true → lt b c = true → lt a c = true
  tot : ∀ a b, lt a b = false → lt b a = false → a = b
def insB (lt : α → α → Bool) (x : α) : List α → List α
  | [] => [x]
  | y :: r => bif lt x y then x :: y :: r else y :: insB lt x r
def isort (lt : α → α → Bool) (l : List α) : List α := l.foldl (fun acc x => insB lt x acc) []
def UpB (lt : α → α → Bool) (l : List α) : Prop := l.Pairwise fun a b => lt b a = false
variable {lt : α → α → Bool}
theorem insB_perm (x : α) : ∀ l : List α, (insB lt x l).Perm (x :: l)
  | [] => .refl _
  | y :: r => by
    unfold insB
    cases lt x y with
    | true => exact .refl _
    | false => exact ((insB_perm x r).cons y).trans (.swap x y r)
theorem insB_mem {x z : α} {l : List α} (h : z ∈ insB lt x l) : z = x ∨ z ∈ l := List.mem_cons.1 ((insB_perm x l).mem_iff.1 h)
theorem STO.nlt (h : STO lt) {a b : α} (hab : lt a b = true) : lt b a = false := by
  cases c : lt b a with
  | false => rfl
  | true => have := h.trans a b a hab c; rw [h.irrefl] at this; cases this
theorem STO.ntrans (h : STO lt) (a b c : α) (h1 : lt a b = false) (h2 : lt b c = false) : lt a c = false := by
  cases k : lt a c with
  | false => rfl
  | true =>
    cases k2 : lt b a with
    | true => have := h.trans b a c k2 k; rw [h2] at this; cases this
    | false => rw [h.tot a b h1 k2, h2] at k; cases k
theorem insB_up (h : STO lt) (x : α) : ∀ l : List α, UpB lt l → UpB lt (insB lt x l)
  | [], _ => List.pairwise_singleton _ _
  | y :: r, hl => by
    obtain ⟨h1, h2⟩ := List.pairwise_cons.1 hl
    unfold insB
    cases c : lt x y with
    | true =>
      refine List.pairwise_cons.2 ⟨fun z hz => ?_, hl⟩
      rcases List.mem_cons.1 hz with rfl | hz
      · exact h.nlt c
      · exact h.ntrans z y x (h1 z hz) (h.nlt c)
    | false =>
      refine List.pairwise_cons.2 ⟨fun z hz => ?_, insB_up h x r h2⟩
      rcases insB_mem hz with rfl | hz
      · exact c
      · exact h1 z hz
theorem isort_go (h : STO lt) : ∀ (l acc : List α), UpB lt acc → UpB lt (l.foldl (fun acc x => insB lt x acc) acc) ∧ (l.foldl (fun acc x => insB lt x acc) acc).Perm (l ++ acc)
  | [], acc, ha => ⟨ha, .refl _⟩
  | x :: r, acc, ha => by
    obtain ⟨h1, h2⟩ := isort_go h r (insB lt x acc) (insB_up h x acc ha)
    refine ⟨h1, h2.trans ?_⟩
    exact ((insB_perm x acc).append_left r).trans List.perm_middle
theorem isort_up (h : STO lt) (l : List α) : UpB lt (isort lt l) := (isort_go h l [] List.Pairwise.nil).1
theorem isort_perm (h : STO lt) (l : List α) : (isort lt l).Perm l := by
  have := (isort_go h l [] List.Pairwise.nil).2
  rwa [List.append_nil] at this
theorem up_unique (h : STO lt) : ∀ {l m : List α}, l.Perm m → UpB lt l → UpB lt m → l = m
  | [], m, hp, _, _ => (List.Perm.nil_eq hp)
  | a :: l, [], hp, _, _ => by have := hp.length_eq; simp at this
  | a :: l, b :: m, hp, hl, hm => by
    obtain ⟨l1, l2⟩ := List.pairwise_cons.1 hl
    obtain ⟨m1, m2⟩ := List.pairwise_cons.1 hm
    have hab : a = b := by
      have ha : a ∈ b :: m := hp.mem_iff.1 List.mem_cons_self
      have hb : b ∈ a :: l := hp.mem_iff.2 List.mem_cons_self
      rcases List.mem_cons.1 ha with rfl | ha
      · rfl
      · rcases List.mem_cons.1 hb with rfl | hb
        · rfl
        · exact h.tot a b (m1 a ha) (l1 b hb)
    subst hab
    rw [up_unique h (List.Perm.cons_inv hp) l2 m2]
theorem isort_unique (h : STO lt) {l m : List α} (hp : m.Perm l) (hm : UpB lt m) : m = isort lt l := up_unique h (hp.trans (isort_perm h l).symm) hm (isort_up h l)
theorem isort_short (l : List α) (hl : l.length ≤ 1) : isort lt l = l := by
  match l, hl with
  | [], _ => rfl
  | [x], _ => rfl
theorem isort_len (h : STO lt) (l : List α) : (isort lt l).length = l.length := (isort_perm h l).length_eq
end
/-- Windows, by where they stand. -/
def cmpW (a b : Win) : Int := orV [cmpI a.2.1 b.2.1, cmpI a.2.2 b.2.2, cmpI a.1 b.1]
def ltW (a b : Win) : Bool := bif a.2.1 != b.2.1 then decide (a.2.1 < b.2.1) else bif a.2.2 != b.2.2 then decide (a.2.2 < b.2.2) else decide (a.1 < b.1)
theorem ltW_iff {a b : Win} : ltW a b = true ↔ a.2.1 < b.2.1 ∨ (a.2.1 = b.2.1 ∧ (a.2.2 < b.2.2 ∨ (a.2.2 = b.2.2 ∧ a.1 < b.1))) := by
  unfold ltW
  cases c1 : a.2.1 != b.2.1 with
  | true => rw [bne_iff_ne] at c1; show decide _ = true ↔ _; rw [decide_eq_true_eq]; omega
  | false =>
    have c1 : a.2.1 = b.2.1 := by simpa using c1
    cases c2 : a.2.2 != b.2.2 with
    | true => rw [bne_iff_ne] at c2; show decide _ = true ↔ _; rw [decide_eq_true_eq]; omega
    | false =>
      have c2 : a.2.2 = b.2.2 := by simpa using c2
      show decide _ = true ↔ _; rw [decide_eq_true_eq]; omega
theorem cmpW_lt (a b : Win) : decide (cmpW a b < 0) = ltW a b := by
  rw [Bool.eq_iff_iff, decide_eq_true_eq, ltW_iff]
  unfold cmpW
  rcases cmpI_cases a.2.1 b.2.1 with ⟨h, h'⟩ | ⟨h, h'⟩ | ⟨h, h'⟩ <;> rw [h]
  · show (-1 : Int) < 0 ↔ _; omega
  · show (1 : Int) < 0 ↔ _; omega
  · rcases cmpI_cases a.2.2 b.2.2 with ⟨k, k'⟩ | ⟨k, k'⟩ | ⟨k, k'⟩ <;> rw [k]
    · show (-1 : Int) < 0 ↔ _; omega
    · show (1 : Int) < 0 ↔ _; omega
    · rcases cmpI_cases a.1 b.1 with ⟨q, q'⟩ | ⟨q, q'⟩ | ⟨q, q'⟩ <;> rw [q]
      · show (-1 : Int) < 0 ↔ _; omega
      · show (1 : Int) < 0 ↔ _; omega
      · show (0 : Int) < 0 ↔ _; omega
theorem ltW_sto : STO ltW where
  irrefl a := by rw [Bool.eq_false_iff, Ne, ltW_iff]; omega
  trans a b c h1 h2 := by rw [ltW_iff] at *; omega
  tot a b h1 h2 := by
    rw [Bool.eq_false_iff, Ne, ltW_iff] at h1 h2
    refine Prod.ext ?_ (Prod.ext ?_ ?_) <;> omega
theorem swoW : Sort.SWO (Proofs.ltOf cmpW) where
  irrefl a := by rw [Proofs.ltOf, cmpW_lt]; exact ltW_sto.irrefl a
  trans a b c h1 h2 := by rw [Proofs.ltOf, cmpW_lt] at *; exact ltW_sto.trans a b c h1 h2
  ntrans a b c h1 h2 := by rw [Proofs.ltOf, cmpW_lt] at *; exact ltW_sto.ntrans a b c h1 h2
end Go.Ab.T
