import Derived.Test.YtjopocnnngbpiaaDoorAbC
import Derived.Test.YtjopocnnngbpiaaDoorMaErr
import Derived.Deep.Slices
import Derived.WideShapes
import Derived.ChangeArms
import Derived.Laws.Strings
import Derived.Lib.ItoaNum
import Derived.Shelf.Strconv.Itoa3
import Derived.Lib.AtoiAllCases
import Derived.Lib.ParseIntBCases
import Derived.Lib.SplitLaws
import Derived.Lib.IndexBytes
import Derived.Lib.Join
set_option linter.unusedVariables false
set_option linter.unusedSimpArgs false
set_option linter.unusedSectionVars false
namespace Go.Ab.T
open Go Go.Ab
def uCod : Cod := ⟨Unit, fun _ => .bool false, 1, fun _ => rfl, fun _ => rfl⟩
def e_api_Window (w : Int × Int × Int) : PV := .agg [.int .i64 w.1, .int .i64 w.2.1, .int .i64 w.2.2]
def c_api_Window : Cod := ⟨Int × Int × Int, e_api_Window, 3, fun _ => rfl, fun _ => rfl⟩
def e_api_Need (w : Int × Int × Int) : PV := .agg [.int .i64 w.1, .int .i64 w.2.1, .int .i64 w.2.2]
def c_api_Need : Cod := ⟨Int × Int × Int, e_api_Need, 3, fun _ => rfl, fun _ => rfl⟩
def e_int (w : Int) : PV := .int .i64 w
def c_int : Cod := ⟨Int, e_int, 1, fun _ => rfl, fun _ => rfl⟩
def e_countwheellaw05_Op (w : Int × Int × Int × Bool) : PV := .agg [.int .i64 w.1, .int .i64 w.2.1, .int .i64 w.2.2.1, .bool w.2.2.2]
def c_countwheellaw05_Op : Cod := ⟨Int × Int × Int × Bool, e_countwheellaw05_Op, 4, fun _ => rfl, fun _ => rfl⟩
def e_api_Cell (w : Int × Bool) : PV := .agg [.int .u32 w.1, .bool w.2]
def c_api_Cell : Cod := ⟨Int × Bool, e_api_Cell, 2, fun _ => rfl, fun _ => rfl⟩
def e_api_Pair (w : Int × Int) : PV := .agg [.int .i64 w.1, .int .i64 w.2]
def c_api_Pair : Cod := ⟨Int × Int, e_api_Pair, 2, fun _ => rfl, fun _ => rfl⟩
def e_api_Act (w : Int × Int × Int) : PV := .agg [.int .i64 w.1, .int .i64 w.2.1, .int .i64 w.2.2]
def c_api_Act : Cod := ⟨Int × Int × Int, e_api_Act, 3, fun _ => rfl, fun _ => rfl⟩
def e_uint8 (w : UInt8) : PV := .int .u8 w.toNat
def c_uint8 : Cod := ⟨UInt8, e_uint8, 1, fun _ => rfl, fun _ => rfl⟩
def e_string (w : ByteArray) : PV := .str w
def c_string : Cod := ⟨ByteArray, e_string, 1, fun _ => rfl, fun _ => rfl⟩
def e_error (w : Err) : PV := .err w
def c_error : Cod := ⟨Err, e_error, 1, fun _ => rfl, fun _ => rfl⟩
def e_abi_Method (w : Int × Int × Int × Int) : PV := .agg [.int .i32 w.1, .int .i32 w.2.1, .int .i32 w.2.2.1, .int .i32 w.2.2.2]
def c_abi_Method : Cod := ⟨Int × Int × Int × Int, e_abi_Method, 4, fun _ => rfl, fun _ => rfl⟩
def e_struct_v_uint64_n_int_ (w : Int × Int) : PV := .agg [.int .u64 w.1, .int .i64 w.2]
def c_struct_v_uint64_n_int_ : Cod := ⟨Int × Int, e_struct_v_uint64_n_int_, 2, fun _ => rfl, fun _ => rfl⟩
def e__3_int (w : Int × Int × Int) : PV := .agg [.int .i64 w.1, .int .i64 w.2.1, .int .i64 w.2.2]
def c__3_int : Cod := ⟨Int × Int × Int, e__3_int, 3, fun _ => rfl, fun _ => rfl⟩
def e_api_Partition (w : Int × ByteArray × Bool × (List (Int × Bool))) : PV := .agg [.int .i64 w.1, .str w.2.1, .bool w.2.2.1, .sl (Int × Bool) e_api_Cell w.2.2.2]
def c_api_Partition : Cod := ⟨Int × ByteArray × Bool × (List (Int × Bool)), e_api_Partition, 4, fun _ => rfl, fun _ => rfl⟩
def e_api_Schedule (w : Int × Int × (List (Int × Int × Int)) × (List (Int × Int × Int))) : PV := .agg [.int .i64 w.1, .int .i64 w.2.1, .sl (Int × Int × Int) e_api_Window w.2.2.1, .sl (Int × Int × Int) e_api_Need w.2.2.2]
def c_api_Schedule : Cod := ⟨Int × Int × (List (Int × Int × Int)) × (List (Int × Int × Int)), e_api_Schedule, 4, fun _ => rfl, fun _ => rfl⟩
end Go.Ab.T
namespace Go.Ab
/-- What evT shows of a place, by its normal form. -/
theorem Closed.nf {K : Codes} {C : Cfg K} {f : Fun} {k : List PV → Heap K → Prop} {A : KA K} (hA : Closed C f k A) {n : Nat} {force : Bool} {todo : List AItem} {env : List PV} {L : Heap K} {q : Prop}
    (h : evT C f A k n force todo env L = q) (hq : q) : A todo env L := hA n force todo env L (h ▸ hq)
end Go.Ab
namespace Go.Ab.T
open Go Go.Ab
theorem by_nf {p q : Prop} (h : p = q) (hq : q) : p := h ▸ hq
def nms : List ByteArray := [⟨#[]⟩, ⟨#[97, 114, 103, 117, 109, 101, 110, 116]⟩, ⟨#[115, 104, 111, 114, 116]⟩, ⟨#[109, 97, 103, 105, 99]⟩, ⟨#[108, 101, 110, 103, 116, 104]⟩, ⟨#[115, 117, 109]⟩, ⟨#[102, 111, 114, 109]⟩, ⟨#[110, 97, 109, 101]⟩, ⟨#[109, 97, 110, 121]⟩, ⟨#[111, 114, 100, 101, 114]⟩, ⟨#[114, 101, 102, 101, 114, 101, 110, 99, 101]⟩, ⟨#[119, 105, 110, 100, 111, 119]⟩, ⟨#[111, 118, 101, 114, 108, 97, 112]⟩, ⟨#[112, 101, 114, 105, 111, 100]⟩, ⟨#[98, 117, 100, 103, 101, 116]⟩, ⟨#[112, 97, 105, 114]⟩, ⟨#[104, 97, 108, 116]⟩, ⟨#[115, 116, 97, 116, 101]⟩, ⟨#[114, 97, 110, 103, 101]⟩]
/-- Is it a class? -/
def isCls (n : Int) : Bool := decide (1 ≤ n) && decide (n ≤ 18)
/-- A class's name. -/
def nameOf (n : Int) : ByteArray := bif isCls n then nms.getD n.toNat ⟨#[]⟩ else ⟨#[]⟩
theorem nms_len : nms.length = 19 := by decide
theorem nms_get {n : Int} (h : isCls n = true) {y : ByteArray} (hy : nms[n.toNat]? = some y) : nameOf n = y := by
  simp [nameOf, h, List.getD_eq_getElem?_getD, hy]
theorem nameOf_empty (n : Int) : ((nameOf n).toList == ByteArray.toList ⟨#[]⟩) = !isCls n := by
  rw [ByteArray.toList_eq, ByteArray.toList_eq]
  unfold nameOf
  cases h : isCls n with
  | false => rfl
  | true =>
    simp only [isCls, Bool.and_eq_true, decide_eq_true_eq] at h
    have key : ∀ k : Nat, k < 19 → 1 ≤ k → ((nms.getD k ⟨#[]⟩).data.toList == (⟨#[]⟩ : ByteArray).data.toList) = false := by decide
    exact key n.toNat (by omega) (by omega)
def newE (n : Int) : Err := bif isCls n then .cls n else .nil
def atE (n : Int) (e : Err) : Err := bif e.isNil then .nil else .plc n e
def inE (n : Int) (e : Err) : Err := bif e.isNil then .nil else .sec n e
theorem isNil_newE (n : Int) : (newE n).isNil = !isCls n := by
  unfold newE; cases isCls n <;> rfl
end Go.Ab.T
namespace Go.Ab.T
open Go Go.Ab
theorem down_loop {α : Type} (l : List α) (Q : Nat → Prop) (h0 : Q l.length) (hs : ∀ (i : Nat) (y : α), l[i]? = some y → Q (i + 1) → Q i) : ∀ i, i ≤ l.length → Q i := by
  have key : ∀ n i, i + n = l.length → Q i := by
    intro n
    induction n with
    | zero => intro i h; have : i = l.length := by omega
              subst this; exact h0
    | succ n ih =>
      intro i h
      have hlt : i < l.length := by omega
      exact hs i l[i] (List.getElem?_eq_getElem hlt) (ih (i + 1) (by omega))
  intro i hi
  exact key (l.length - i) i (by omega)
theorem downN (m : Nat) (Q : Nat → Prop) (h0 : Q m) (hs : ∀ i, i < m → Q (i + 1) → Q i) : ∀ i, i ≤ m → Q i := by
  have key : ∀ n i, i + n = m → Q i := by
    intro n
    induction n with
    | zero => intro i h; have : i = m := by omega
              subst this; exact h0
    | succ n ih => intro i h; exact hs i (by omega) (ih (i + 1) (by omega))
  intro i hi
  exact key (m - i) i (by omega)
theorem drop_cons' {α : Type} {l : List α} {i : Nat} {y : α} (h : l[i]? = some y) : l.drop i = y :: l.drop (i + 1) := by
  obtain ⟨h1, h2⟩ := List.getElem?_eq_some_iff.1 h
  rw [← h2]; exact List.drop_eq_getElem_cons h1
theorem lt_of_get {α : Type} {l : List α} {i : Nat} {y : α} (h : l[i]? = some y) : i < l.length := (List.getElem?_eq_some_iff.1 h).1
theorem ilt_true {a b : Nat} (h : a < b) : decide ((a : Int) < (b : Int)) = true := decide_eq_true (by omega)
theorem ilt_false {a b : Nat} (h : ¬ a < b) : decide ((a : Int) < (b : Int)) = false := decide_eq_false (by omega)
theorem get_at {α : Type} {l : List α} {i : Nat} {y : α} {p : α → Prop} (hy : l[i]? = some y) (h : p y) : (0 ≤ (i : Int) ∧ (i : Int) < (l.length : Int)) ∧ ∀ z, l[(i : Int).toNat]? = some z → p z := by
  have := lt_of_get hy
  refine ⟨⟨by omega, by omega⟩, fun z hz => ?_⟩
  rw [Int.toNat_natCast, hy] at hz
  cases hz; exact h
/-- The place in front of another one. -/
theorem get_at' {α : Type} {l : List α} {i : Nat} {x : Int} {y : α} {p : α → Prop} (hx : x = (i : Int)) (hy : l[i]? = some y) (h : p y) : (0 ≤ x ∧ x < (l.length : Int)) ∧ ∀ z, l[x.toNat]? = some z → p z := by
  subst hx; exact get_at hy h
theorem wrap_succ {i : Nat} (h : i < 4611686018427387904) : IntKind.i64.wrap ((i : Int) + 1) = ((i + 1 : Nat) : Int) := by
  rw [wrap_id _ (by omega) (by omega)]; omega
theorem wrap_nat {i : Nat} {x : Int} (hx : x = (i : Int)) (h : i < 4611686018427387904) : IntKind.i64.wrap x = (i : Int) := by
  subst hx; exact wrap_id _ (by omega) (by omega)
theorem mmI_max (a b : Int) : mmI true a b = max a b := by
  show (if b > a then b else a) = max a b
  split <;> omega
theorem mmI_min (a b : Int) : mmI false a b = min a b := by
  show (if b < a then b else a) = min a b
  split <;> omega
end Go.Ab.T
namespace Go.Ab.T
open Go Go.Ab Go.Deep Go.WideShapes Go.ChangeShapes

section
variable {P : Program} {I : Ids}
def NoM : Nat → Prop := fun _ => False

/-- What can be read as data of a type is told by values of another one. -/
structure Opens (P : Program) (I : Ids) (t : TypeId) {α : Type} (cells : α → List PV) (good : α → Prop) : Prop where
  get : ∀ {H : Type} (encH : TypeId × Value → H) (w : World) (base : Nat) (spare : Nat → Bool) (held : Bool) (fuel : Nat) (cs : List Value) (x : DataW H × List MemPlace),
    DataW.trod encH P w base spare held fuel t cs = some x → ∃ a, good a ∧ RepF.go I NoM w (cells a) cs

structure OpensF (P : Program) (I : Ids) (fs : List (TypeId × Nat)) (o n : Nat) {α : Type} (cells : α → List PV) (good : α → Prop) : Prop where
  get : ∀ {H : Type} (encH : TypeId × Value → H) (w : World) (base : Nat) (spare : Nat → Bool) (held : Bool) (fuel : Nat) (cs : List Value), cs.length = n →
    (∀ (j : Nat) (f : TypeId × Nat), fs[j]? = some f → ∃ y, DataW.trod encH P w base spare held fuel f.1 ((cs.drop (f.2 - o)).take (P.cellsOf f.1)) = some y) → ∃ a, good a ∧ RepF.go I NoM w (cells a) cs

theorem go_one {M : Nat → Prop} {w : World} {x : PV} {v : Value} (hx : x.isAgg = false) (hv : v.oneCell' = true) (h : RepF I M w x [v]) : RepF.go I M w [x] [v] := ⟨v, [], rfl, ⟨hx, hv⟩, h, rfl⟩
theorem go_append {M : Nat → Prop} {w : World} : ∀ {xs ys : List PV} {l m : List Value}, RepF.go I M w xs l → RepF.go I M w ys m → RepF.go I M w (xs ++ ys) (l ++ m)
  | [], _, l, m, h, h' => by simp only [RepF.go] at h; subst h; exact h'
  | x :: xs, ys, l, m, h, h' => by
    obtain ⟨v, r, rfl, h0, h1, h2⟩ := h
    exact ⟨v, r ++ m, rfl, h0, h1, go_append h2 h'⟩

theorem opens_int {t : TypeId} {k : IntKind} (ht : P.underlying t = some (.int k)) : Opens P I t (fun n : Int => [.int k n]) (fun n => (Lit.int k n).wf = true) := by
  refine ⟨?_⟩
  intro H encH w base spare held fuel cs x h
  obtain ⟨n, rfl, _, hw⟩ := DataW.trod_int ht h
  exact ⟨n, hw, go_one rfl rfl rfl⟩
theorem opens_u8 {t : TypeId} (ht : P.underlying t = some (.int .u8)) : Opens P I t (fun n : UInt8 => [.int .u8 n.toNat]) (fun _ => True) := by
  refine ⟨?_⟩
  intro H encH w base spare held fuel cs x h
  obtain ⟨n, rfl, _, hw⟩ := DataW.trod_int ht h
  have hn : 0 ≤ n ∧ n < 256 := by
    have : (decide (IntKind.u8.min ≤ n) && decide (n ≤ IntKind.u8.max)) = true := hw
    simp [IntKind.min, IntKind.max, IntKind.signed, IntKind.bits] at this
    omega
  refine ⟨UInt8.ofNat n.toNat, trivial, go_one rfl rfl ?_⟩
  show [Value.int .u8 n] = [Value.int .u8 ((UInt8.ofNat n.toNat).toNat : Int)]
  have : ((UInt8.ofNat n.toNat).toNat : Int) = n := by
    rw [UInt8.toNat_ofNat']; omega
  rw [this]
theorem opens_bool {t : TypeId} (ht : P.underlying t = some .bool) : Opens P I t (fun b : Bool => [.bool b]) (fun _ => True) := by
  refine ⟨?_⟩
  intro H encH w base spare held fuel cs x h
  obtain ⟨b, rfl, _⟩ := DataW.trod_bool ht h
  exact ⟨b, trivial, go_one rfl rfl rfl⟩
theorem opens_str {t : TypeId} (ht : P.underlying t = some .string) : Opens P I t (fun s : ByteArray => [.str s]) (fun s => s.size ≤ maxLen) := by
  refine ⟨?_⟩
  intro H encH w base spare held fuel cs x h
  obtain ⟨s, rfl, _, hs⟩ := DataW.trod_string ht h
  exact ⟨s, hs, go_one rfl rfl rfl⟩

theorem add_none {a : Addr} (h : a.spot = none) (n : Nat) : a.add n = ⟨a.block, a.off + n, none⟩ := by
  unfold Addr.add
  split
  · rename_i h0; subst h0; cases a; simp_all
  · rfl
theorem cell_some {w : World} {a : Addr} {v : Value} (h : w.cell? a = some v) : a.spot = none ∧ ∃ cells t fr, w.heap[a.block]? = some (.cells cells t fr) ∧ cells[a.off]? = some v := by
  unfold World.cell? at h
  split at h
  · rename_i c t fr hh
    split at h
    · cases h
    · rename_i hs
      exact ⟨by simpa using hs, c, t, fr, hh, h⟩
  · cases h

theorem opens_slice {t e : TypeId} {s : Nat} (ht : P.underlying t = some (.slice e)) (hC : P.cellsOf e = s) (hs : Nat.blt 0 s = true) {α : Type} {enc : α → PV} {cells : α → List PV} {good : α → Prop}
    (henc : ∀ (w : World) a cs, RepF.go I NoM w (cells a) cs → RepF I NoM w (enc a) cs) (ho : Opens P I e cells good) :
    Opens P I t (fun l : List α => [.sl α enc l]) (fun l => l.length ≤ maxLen ∧ ∀ a, a ∈ l → good a) := by
  refine ⟨?_⟩
  intro H encH w base spare held fuel cs x h
  have hs : 0 < s := by rwa [Nat.blt_eq] at hs
  rcases open_slice ht h with ⟨rfl, _⟩ | ⟨a, len, cap, m, n, D, Pl, rfl, _, hlc, hcm, hm, _, hel⟩
  · exact ⟨[], ⟨Nat.zero_le _, fun a h => by cases h⟩, go_one rfl rfl ⟨none, 0, rfl, Nat.le_refl _, .inl rfl⟩⟩
  · rw [hC] at hel
    have hml : len ≤ m := by rw [hm]; split <;> omega
    have each : ∀ i, i < len → ∃ (y : α) (cs' : List Value), good y ∧ RepF.go I NoM w (cells y) cs' ∧ cs'.length = s ∧ ∀ j, j < s → w.cell? ((a.add (i * s)).add j) = cs'[j]? := by
      intro i hi
      obtain ⟨cs', h1, h2⟩ := hel i (by omega)
      obtain ⟨_, h3, h4⟩ := World.cells?_some h1
      obtain ⟨y, hy, hr⟩ := ho.get encH w base spare held n cs' _ h2
      exact ⟨y, cs', hy, hr, h3, h4⟩
    have mk : ∀ k, k ≤ len → ∃ l : List α, l.length = k ∧ (∀ i y, l[i]? = some y → ∃ cs' : List Value, good y ∧ RepF.go I NoM w (cells y) cs' ∧ cs'.length = s ∧ ∀ j, j < s → w.cell? ((a.add (i * s)).add j) = cs'[j]?) := by
      intro k
      induction k with
      | zero => intro _; exact ⟨[], rfl, fun i y h => by simp at h⟩
      | succ k ih =>
        intro hk
        obtain ⟨l, hl, hall⟩ := ih (by omega)
        obtain ⟨y, cs', hy⟩ := each k (by omega)
        refine ⟨l ++ [y], by simp [hl], fun i z hz => ?_⟩
        rcases Nat.lt_or_ge i l.length with hi | hi
        · rw [List.getElem?_append_left hi] at hz; exact hall i z hz
        · rw [List.getElem?_append_right hi] at hz
          have : i - l.length = 0 := by
            rcases Nat.eq_zero_or_pos (i - l.length) with h | h
            · exact h
            · rw [List.getElem?_eq_none (by simp; omega)] at hz; cases hz
          rw [this] at hz
          simp at hz
          subst hz
          have : i = k := by omega
          subst this
          exact ⟨cs', hy⟩
    obtain ⟨l, hl, hall⟩ := mk len (Nat.le_refl _)
    refine ⟨l, ⟨by omega, fun y hy => ?_⟩, go_one rfl rfl ⟨some a, cap, by rw [hl], by omega, ?_⟩⟩
    · obtain ⟨i, hi⟩ := List.mem_iff_getElem?.1 hy
      obtain ⟨_, h1, _⟩ := hall i y hi
      exact h1
    · rcases Nat.eq_zero_or_pos len with h0 | h0
      · left; exact List.eq_nil_of_length_eq_zero (by omega)
      · right
        obtain ⟨y0, hy0⟩ : ∃ y, l[0]? = some y := ⟨l[0]'(by omega), List.getElem?_eq_getElem (by omega)⟩
        obtain ⟨cs0, _, _, hlen0, hc0⟩ := hall 0 y0 hy0
        have hc00 := hc0 0 hs
        rw [List.getElem?_eq_getElem (by omega)] at hc00
        have ha0 : (a.add (0 * s)).add 0 = a := by rw [Nat.zero_mul]; rfl
        rw [ha0] at hc00
        obtain ⟨hsp, cells0, t0, fr0, hh, _⟩ := cell_some hc00
        refine ⟨a.block, a.off, s, cells0, t0, fr0, by cases a; simp_all, hs, fun h => h, hh, fun i y hi => ?_⟩
        obtain ⟨cs', _, hr, hlen, hcell⟩ := hall i y hi
        refine ⟨cs', hlen, henc w y cs' hr, fun j v hj => ?_⟩
        have hjs : j < s := by rw [← hlen]; exact (List.getElem?_eq_some_iff.1 hj).1
        have hc := hcell j hjs
        rw [hj, add_none hsp, add_none (by rfl)] at hc
        obtain ⟨_, c2, t2, fr2, hh2, hv2⟩ := cell_some hc
        simp only at hh2 hv2
        rw [hh] at hh2
        cases hh2
        exact hv2

theorem opensF_one {t : TypeId} {o n : Nat} {α : Type} {cells : α → List PV} {good : α → Prop} (hn : P.cellsOf t = n) (h : Opens P I t cells good) : OpensF P I [(t, o)] o n cells good := by
  refine ⟨?_⟩
  intro H encH w base spare held fuel cs hlen hall
  obtain ⟨y, hy⟩ := hall 0 _ rfl
  simp only at hy
  rw [Nat.sub_self, List.drop_zero, hn, ← hlen, List.take_length] at hy
  exact h.get encH w base spare held fuel cs y hy
theorem opensF_cons {t : TypeId} {fs : List (TypeId × Nat)} {o c n : Nat} {α β : Type} {cells : α → List PV} {good : α → Prop} {cells2 : β → List PV} {good2 : β → Prop} (hc : P.cellsOf t = c)
    (h : Opens P I t cells good) (hoff : (fs.all fun g => Nat.ble (o + c) g.2) = true) (h2 : OpensF P I fs (o + c) n cells2 good2) :
    OpensF P I ((t, o) :: fs) o (c + n) (fun x : α × β => cells x.1 ++ cells2 x.2) (fun x => good x.1 ∧ good2 x.2) := by
  refine ⟨?_⟩
  intro H encH w base spare held fuel cs hlen hall
  obtain ⟨y, hy⟩ := hall 0 _ rfl
  simp only at hy
  rw [Nat.sub_self, List.drop_zero, hc] at hy
  obtain ⟨a, ha, hra⟩ := h.get encH w base spare held fuel _ y hy
  obtain ⟨b, hb, hrb⟩ := h2.get encH w base spare held fuel (cs.drop c) (by rw [List.length_drop, hlen]; omega) (fun j g hg => by
    obtain ⟨z, hz⟩ := hall (j + 1) g hg
    have hge : o + c ≤ g.2 := by
      have := List.all_eq_true.1 hoff g (List.mem_of_getElem? hg)
      exact Nat.le_of_ble_eq_true this
    refine ⟨z, ?_⟩
    rw [List.drop_drop, show c + (g.2 - (o + c)) = g.2 - o by omega]
    exact hz)
  refine ⟨(a, b), ⟨ha, hb⟩, ?_⟩
  have := go_append hra hrb
  rwa [List.take_append_drop] at this
theorem opens_struct {t : TypeId} {fs : Array Field} {ps : List (TypeId × Nat)} {n : Nat} (ht : P.underlying t = some (.struct fs)) (hps : fs.toList.map (fun f => (f.type, f.offset)) = ps) (hn : P.cellsOf t = n) {α : Type} {cells : α → List PV} {good : α → Prop}
    (h : OpensF P I ps 0 n cells good) : Opens P I t cells good := by
  refine ⟨?_⟩
  intro H encH w base spare held fuel cs x hx
  obtain ⟨xs, m, _, _, hlen, hsz, hall⟩ := DataW.trod_struct ht hx
  refine h.get encH w base spare held m cs (by rw [hlen, hn]) (fun j f hj => ?_)
  rw [← hps, List.getElem?_map] at hj
  obtain ⟨g, hg, rfl⟩ := Option.map_eq_some_iff.1 hj
  have hj' : fs[j]? = some g := by rw [← Array.getElem?_toList]; exact hg
  have h1 := hall j g hj'
  have hjlt : j < xs.length := by rw [hsz]; exact (Array.getElem?_eq_some_iff.1 hj').1
  rw [List.getElem?_eq_getElem hjlt] at h1
  simp only [Nat.sub_zero]
  exact ⟨_, h1⟩

/-- An argument. -/
theorem Opens.arg {t : TypeId} {α : Type} {enc : α → PV} {cells : α → List PV} {good : α → Prop} (ho : Opens P I t cells good) (hagg : ∀ a, (enc a).isAgg = (match P.underlying t with | some (.struct _) | some (.array _ _) => true | _ => false))
    (henc : ∀ (w : World) a cs, RepF.go I NoM w (cells a) cs → RepF I NoM w (enc a) cs) {H : Type} {encH : TypeId × Value → H} {w W : World} {base : Nat} {spare : Nat → Bool} {held : Bool} {r : Reach} {b0 : Nat} {v : Value} {d : DataW H} {ps : List MemPlace}
    (hv : Value.okWide P W r b0 t v) (h : DataW.Trod encH P w base spare held t v d ps) : ∃ a, good a ∧ RepF I NoM w (enc a) v.cells.toList ∧ isAggV v = (enc a).isAgg := by
  obtain ⟨fuel, h⟩ := h
  obtain ⟨a, ha, hr⟩ := ho.get encH w base spare held fuel _ _ h
  refine ⟨a, ha, henc w a _ hr, ?_⟩
  rw [hagg]
  cases hu : P.underlying t with
  | none =>
    cases fuel with
    | zero => simp [DataW.trod] at h
    | succ n => simp [DataW.trod, hu] at h
  | some td =>
    have notag : ∀ {v : Value}, Value.okWide P W r b0 t v → (match some td with | some (.struct _) | some (.array _ _) => true | _ => false) = false → isAggV v = false := by
      intro v hv hq
      cases v with
      | agg cs =>
        exfalso
        unfold Value.okWide at hv
        rw [hu] at hv
        cases td <;> simp [Cell.okWide, hu, Cell.ok] at hv hq
      | _ => rfl
    cases td with
    | struct fs => obtain ⟨cs, rfl, _⟩ := okWide_struct hu hv; rfl
    | array n e =>
      unfold Value.okWide at hv
      rw [hu] at hv
      obtain ⟨cs, rfl, _⟩ := hv; rfl
    | _ => exact notag hv rfl
end
end Go.Ab.T
namespace Go.Ab.T
open Go Go.Ab
/-! bytes as numbers -/
def sizeOk (n : Int) : Bool := n == 1 || n == 2 || n == 4 || n == 8
def sizeB (n : Int) : Int := bif sizeOk n then 8 * n else 0
/-- The byte at a place. -/
def byteAt (s : ByteArray) (i : Nat) : Nat := (s.data.toList.getD i 0).toNat
/-- The number of some bytes from a place on. -/
def beV (s : ByteArray) (at_ : Nat) : Nat → Nat
  | 0 => 0
  | n + 1 => 256 * beV s at_ n + byteAt s (at_ + n)
theorem byteAt_lt (s : ByteArray) (i : Nat) : byteAt s i < 256 := by unfold byteAt; exact UInt8.toNat_lt _
theorem beV_lt (s : ByteArray) (a : Nat) : ∀ n, beV s a n < 256 ^ n
  | 0 => by simp [beV]
  | n + 1 => by
    have h1 := beV_lt s a n
    have h2 := byteAt_lt s (a + n)
    rw [beV, Nat.pow_succ]
    omega
theorem byteAt_of {s : ByteArray} {i : Nat} {b : UInt8} (h : s[i]? = some b) : byteAt s i = b.toNat := by
  have hlt : i < s.size := by
    rcases Nat.lt_or_ge i s.size with h1 | h1
    · exact h1
    · rw [ByteArray.getElem?_ge' s i (by omega)] at h; cases h
  rw [ByteArray.getElem?_lt' s i hlt] at h
  cases h
  unfold byteAt
  have : i < s.data.toList.length := by simpa using hlt
  rw [List.getD_eq_getElem?_getD, List.getElem?_eq_getElem this]
  simp [ByteArray.getElem_eq_getElem_data]
theorem sget {s : ByteArray} {i : Nat} {p : UInt8 → Prop} (hi : i < s.size) (h : ∀ b, s[i]? = some b → p b) : (0 ≤ (i : Int) ∧ (i : Int) < (s.size : Int)) ∧ ∀ z, s[(i : Int).toNat]? = some z → p z := by
  refine ⟨⟨by omega, by omega⟩, fun z hz => h z ?_⟩
  simpa using hz
theorem pow256 (n : Nat) (h : n ≤ 8) : 256 ^ n ≤ 18446744073709551616 := by
  have : 256 ^ n ≤ 256 ^ 8 := Nat.pow_le_pow_right (by omega) h
  have h8 : (256 : Nat) ^ 8 = 18446744073709551616 := by decide
  omega
theorem u64_id (n : Int) (h0 : 0 ≤ n) (h1 : n < 18446744073709551616) : IntKind.u64.wrap n = n := by
  unfold IntKind.wrap
  have e1 : ((2 : Int) ^ IntKind.u64.bits) = 18446744073709551616 := by decide
  have e2 : IntKind.u64.signed = false := rfl
  rw [e1, e2]
  simp only [Bool.false_and, Bool.false_eq_true, if_false]
  omega
theorem or_u64 (x y : Nat) (hx : x < 18446744073709551616) (hy : y < 18446744073709551616) : Go.bits .or .u64 (x : Int) (y : Int) = ((x ||| y : Nat) : Int) := by
  unfold Go.bits
  show IntKind.u64.wrap (((BitVec.ofInt 64 (x : Int)) ||| (BitVec.ofInt 64 (y : Int))).toNat : Int) = _
  rw [BitVec.ofInt_natCast, BitVec.ofInt_natCast, BitVec.toNat_or, BitVec.toNat_ofNat, BitVec.toNat_ofNat]
  have e : (2 : Nat) ^ 64 = 18446744073709551616 := by decide
  rw [e, Nat.mod_eq_of_lt hx, Nat.mod_eq_of_lt hy]
  have hlt : x ||| y < 2 ^ 64 := Nat.or_lt_two_pow (by omega) (by omega)
  exact u64_id _ (by omega) (by omega)
theorem or_byte (v b : Nat) (hv : v * 256 < 18446744073709551616) (hb : b < 256) : Go.bits .or .u64 (IntKind.u64.wrap ((v : Int) * 2 ^ min (8 : Int).toNat IntKind.u64.bits)) (b : Int) = ((256 * v + b : Nat) : Int) := by
  have h1 : (2 : Int) ^ min (8 : Int).toNat IntKind.u64.bits = 256 := by decide
  rw [h1, u64_id _ (by omega) (by omega)]
  have e1 : ((v : Int) * 256) = ((v * 256 : Nat) : Int) := by omega
  rw [e1]
  have h3 : (v * 256) ||| b = 256 * v + b := by
    have := Nat.shiftLeft_add_eq_or_of_lt (i := 8) (b := b) (by omega) v
    rw [Nat.shiftLeft_eq] at this
    have e2 : (2 : Nat) ^ 8 = 256 := by decide
    rw [e2] at this
    omega
  rw [or_u64 _ _ (by omega) (by omega), h3]

/-! the reader -/
def failR (e : Err) (sec k a : Int) : Err := bif e.isNil then inE sec (atE a (newE k)) else e
def needE (e : Err) (ok : Bool) (sec k a : Int) : Err := bif ok then e else failR e sec k a
theorem failR2_not (e : Err) (sec a : Int) : (failR e sec 2 a).isNil = false := by
  unfold failR
  cases h : e.isNil with
  | true => rfl
  | false => exact h
/-- May so many bytes be read? -/
def rdOk (s : ByteArray) (a n : Int) (e : Err) : Bool := decide (n ≤ (s.size : Int) - a) && e.isNil
def rdE (s : ByteArray) (a n sec : Int) (e : Err) : Err := needE e (decide (n ≤ (s.size : Int) - a)) sec 2 a
theorem rdE_nil (s : ByteArray) (a n sec : Int) (e : Err) : (rdE s a n sec e).isNil = rdOk s a n e := by
  unfold rdE rdOk needE
  cases decide (n ≤ (s.size : Int) - a) with
  | true => rfl
  | false => exact failR2_not e sec a
def rdV (s : ByteArray) (a n : Int) (e : Err) : Int := bif rdOk s a n e then (beV s a.toNat n.toNat : Int) else 0
def rdAt (s : ByteArray) (a n : Int) (e : Err) : Int := bif rdOk s a n e then a + n else a
def rdT (s : ByteArray) (a n : Int) (e : Err) : ByteArray := bif rdOk s a n e then s.extract a.toNat (a + n).toNat else ⟨#[]⟩
theorem sizeOk_cases {n : Int} (h : sizeOk n = true) : n = 1 ∨ n = 2 ∨ n = 4 ∨ n = 8 := by
  simp only [sizeOk, Bool.or_eq_true, beq_iff_eq] at h
  omega
theorem rdV_bound (s : ByteArray) (a n : Int) (e : Err) (h : sizeOk n = true) : 0 ≤ rdV s a n e ∧ rdV s a n e < 18446744073709551616 := by
  unfold rdV
  cases rdOk s a n e with
  | false =>
    show (0 : Int) ≤ 0 ∧ (0 : Int) < 18446744073709551616
    decide
  | true =>
    have h1 := beV_lt s a.toNat n.toNat
    have h2 := pow256 n.toNat (by rcases sizeOk_cases h with h | h | h | h <;> omega)
    show 0 ≤ (beV s a.toNat n.toNat : Int) ∧ (beV s a.toNat n.toNat : Int) < _
    omega
theorem rdV_lt (s : ByteArray) (a : Int) (n : Nat) (e : Err) : 0 ≤ rdV s a n e ∧ rdV s a n e < ((256 ^ n : Nat) : Int) := by
  unfold rdV
  have h1 := beV_lt s a.toNat n
  cases rdOk s a n e with
  | false =>
    show (0 : Int) ≤ 0 ∧ (0 : Int) < ((256 ^ n : Nat) : Int)
    omega
  | true =>
    show 0 ≤ (beV s a.toNat (n : Int).toNat : Int) ∧ (beV s a.toNat (n : Int).toNat : Int) < ((256 ^ n : Nat) : Int)
    rw [Int.toNat_natCast]
    omega
theorem u32_id (n : Int) (h0 : 0 ≤ n) (h1 : n < 4294967296) : IntKind.u32.wrap n = n := by
  unfold IntKind.wrap
  have e1 : ((2 : Int) ^ IntKind.u32.bits) = 4294967296 := by decide
  have e2 : IntKind.u32.signed = false := rfl
  rw [e1, e2]
  simp only [Bool.false_and, Bool.false_eq_true, if_false]
  omega
/-- The last bytes of a number, the highest first. -/
def beL : Nat → Nat → List UInt8
  | 0, _ => []
  | n + 1, v => UInt8.ofNat (v / 256 ^ n % 256) :: beL n v
theorem beL_len (v : Nat) : ∀ n, (beL n v).length = n
  | 0 => rfl
  | n + 1 => by rw [beL, List.length_cons, beL_len v n]
theorem u8_id (n : Int) (h0 : 0 ≤ n) (h1 : n < 256) : IntKind.u8.wrap n = n := by
  unfold IntKind.wrap
  have e1 : ((2 : Int) ^ IntKind.u8.bits) = 256 := by decide
  have e2 : IntKind.u8.signed = false := rfl
  rw [e1, e2]
  simp only [Bool.false_and, Bool.false_eq_true, if_false]
  omega
/-- What octet.Get and its reference answer. -/
def getOk (s : ByteArray) (a n : Int) : Bool := sizeOk n && decide (0 ≤ a) && decide (a ≤ s.size) && decide (n ≤ (s.size : Int) - a)
def getV (s : ByteArray) (a n : Int) : Int := bif getOk s a n then (beV s a.toNat n.toNat : Int) else 0
end Go.Ab.T
namespace Go.Ab.T
open Go Go.Ab
abbrev F3 := Int × Int × Int
def rFail (f : F3) (sec k a : Int) : F3 := bif (f.1 == 0) && isCls k then (k, sec, a) else f
def nOk (s : ByteArray) (a n : Int) (f : F3) : Bool := (f.1 == 0) && getOk s a n
def nV (s : ByteArray) (a n : Int) (f : F3) : Int := bif nOk s a n f then (beV s a.toNat n.toNat : Int) else 0
def nAt (s : ByteArray) (a n : Int) (f : F3) : Int := bif nOk s a n f then a + n else a
def nF (s : ByteArray) (a n sec : Int) (f : F3) : F3 := bif getOk s a n then f else rFail f sec 2 a
def tOk (s : ByteArray) (a n : Int) (f : F3) : Bool := (f.1 == 0) && (decide (0 < n) && decide (n ≤ (s.size : Int) - a))
def tT (s : ByteArray) (a n : Int) (f : F3) : ByteArray := bif tOk s a n f then s.extract a.toNat (a + n).toNat else ⟨#[]⟩
def tAt (s : ByteArray) (a n : Int) (f : F3) : Int := bif tOk s a n f then a + n else a
def tF (s : ByteArray) (a n sec : Int) (f : F3) : F3 := bif decide (n ≤ 0) || decide (n ≤ (s.size : Int) - a) then f else rFail f sec 2 a
theorem rFail_bad {f : F3} (h : (f.1 == 0) = false) (sec k a : Int) : rFail f sec k a = f := by
  unfold rFail; rw [h]; rfl
theorem rFail_two {f : F3} (h : (f.1 == 0) = true) (sec a : Int) : rFail f sec 2 a = (2, sec, a) := by
  unfold rFail; rw [h]; rfl
/-- The errors that readers keep. -/
inductive GoodE : Err → Prop where
  | nil : GoodE .nil
  | spc (s a k : Int) (h : isCls k = true) : GoodE (.sec s (.plc a (.cls k)))
theorem GoodE.cases {e : Err} (h : GoodE e) : e = .nil ∨ ∃ s a k, isCls k = true ∧ e = .sec s (.plc a (.cls k)) := by
  cases h with
  | nil => exact .inl rfl
  | spc s a k h => exact .inr ⟨s, a, k, h, rfl⟩
theorem ofE_spc (s a k : Int) : ofE (.sec s (.plc a (.cls k))) = (k, s, a) := rfl
theorem isCls_ne {k : Int} (h : isCls k = true) : (k == 0) = false := by
  simp only [isCls, Bool.and_eq_true, decide_eq_true_eq] at h
  simp; omega
theorem GoodE.nil_iff {e : Err} (h : GoodE e) : ((ofE e).1 == 0) = e.isNil := by
  rcases h.cases with rfl | ⟨s, a, k, hk, rfl⟩
  · rfl
  · rw [ofE_spc]; exact isCls_ne hk
theorem GoodE.fail {e : Err} (h : GoodE e) (sec k a : Int) : GoodE (failR e sec k a) := by
  unfold failR
  cases hn : e.isNil with
  | false => exact h
  | true =>
    show GoodE (inE sec (atE a (newE k)))
    unfold newE
    cases hk : isCls k with
    | false => exact .nil
    | true => exact .spc sec a k hk
theorem GoodE.ofE_fail {e : Err} (h : GoodE e) (sec k a : Int) : ofE (failR e sec k a) = rFail (ofE e) sec k a := by
  unfold failR rFail
  rw [h.nil_iff]
  cases hn : e.isNil with
  | false => rfl
  | true =>
    show ofE (inE sec (atE a (newE k))) = _
    unfold newE
    cases hk : isCls k with
    | true => rfl
    | false =>
      rcases h.cases with rfl | ⟨s, a, k, hk, rfl⟩
      · rfl
      · cases hn
theorem GoodE.need {e : Err} (h : GoodE e) (t : Bool) (sec k a : Int) : GoodE (needE e t sec k a) := by
  unfold needE; cases t
  · exact h.fail sec k a
  · exact h
theorem GoodE.ofE_need {e : Err} (h : GoodE e) (t : Bool) (sec k a : Int) : ofE (needE e t sec k a) = bif t then ofE e else rFail (ofE e) sec k a := by
  unfold needE; cases t
  · exact h.ofE_fail sec k a
  · rfl
theorem GoodE.rd {e : Err} (h : GoodE e) (s : ByteArray) (a n sec : Int) : GoodE (rdE s a n sec e) := h.need _ _ _ _

section
variable {e : Err} (h : GoodE e) {s : ByteArray} {a n : Int}
include h
theorem GoodE.nOk (h0 : 0 ≤ a) (h1 : a ≤ s.size) (hn : sizeOk n = true) : nOk s a n (ofE e) = rdOk s a n e := by
  unfold Go.Ab.T.nOk rdOk getOk
  rw [h.nil_iff, hn]
  simp only [h0, h1, decide_true, Bool.true_and]
  exact Bool.and_comm _ _
theorem GoodE.nV (h0 : 0 ≤ a) (h1 : a ≤ s.size) (hn : sizeOk n = true) : nV s a n (ofE e) = rdV s a n e := by
  unfold Go.Ab.T.nV rdV; rw [h.nOk h0 h1 hn]
theorem GoodE.nAt (h0 : 0 ≤ a) (h1 : a ≤ s.size) (hn : sizeOk n = true) : nAt s a n (ofE e) = rdAt s a n e := by
  unfold Go.Ab.T.nAt rdAt; rw [h.nOk h0 h1 hn]
theorem GoodE.nF (sec : Int) (h0 : 0 ≤ a) (h1 : a ≤ s.size) (hn : sizeOk n = true) : nF s a n sec (ofE e) = ofE (rdE s a n sec e) := by
  unfold Go.Ab.T.nF rdE
  rw [h.ofE_need]
  have : getOk s a n = decide (n ≤ (s.size : Int) - a) := by
    unfold getOk; rw [hn]; simp only [h0, h1, decide_true, Bool.true_and]
  rw [this]
end
theorem rdAt_le {s : ByteArray} {a n : Int} {e : Err} (h0 : 0 ≤ a) (h1 : a ≤ s.size) (hn : 0 ≤ n) : 0 ≤ rdAt s a n e ∧ rdAt s a n e ≤ s.size := by
  unfold rdAt
  cases h : rdOk s a n e with
  | false => exact ⟨h0, h1⟩
  | true =>
    simp only [rdOk, Bool.and_eq_true, decide_eq_true_eq] at h
    show 0 ≤ a + n ∧ a + n ≤ (s.size : Int)
    omega
theorem rdOk_bad (s : ByteArray) (a n : Int) {e : Err} (h : e.isNil = false) : rdOk s a n e = false := by
  unfold rdOk; rw [h, Bool.and_false]
theorem rd_bad (s : ByteArray) (a n sec : Int) {e : Err} (h : e.isNil = false) : rdV s a n e = 0 ∧ rdAt s a n e = a ∧ rdT s a n e = ⟨#[]⟩ ∧ rdE s a n sec e = e := by
  have h1 := rdOk_bad s a n h
  refine ⟨by rw [rdV, h1]; rfl, by rw [rdAt, h1]; rfl, by rw [rdT, h1]; rfl, ?_⟩
  unfold rdE needE failR
  rw [h]
  cases decide (n ≤ (s.size : Int) - a) <;> rfl
theorem rd_short (s : ByteArray) (a n sec : Int) (h : ¬ n ≤ (s.size : Int) - a) : rdV s a n .nil = 0 ∧ rdAt s a n .nil = a ∧ rdT s a n .nil = ⟨#[]⟩ ∧ rdE s a n sec .nil = .sec sec (.plc a (.cls 2)) := by
  have h0 : decide (n ≤ (s.size : Int) - a) = false := decide_eq_false h
  have h1 : rdOk s a n .nil = false := by unfold rdOk; rw [h0]; rfl
  refine ⟨by rw [rdV, h1]; rfl, by rw [rdAt, h1]; rfl, by rw [rdT, h1]; rfl, ?_⟩
  unfold rdE; rw [h0]; rfl
theorem rd_fits (s : ByteArray) (a n sec : Int) (h : n ≤ (s.size : Int) - a) : rdV s a n .nil = (beV s a.toNat n.toNat : Int) ∧ rdAt s a n .nil = a + n ∧ rdT s a n .nil = s.extract a.toNat (a + n).toNat ∧ rdE s a n sec .nil = .nil := by
  have h0 : decide (n ≤ (s.size : Int) - a) = true := decide_eq_true h
  have h1 : rdOk s a n .nil = true := by unfold rdOk; rw [h0]; rfl
  refine ⟨by rw [rdV, h1]; rfl, by rw [rdAt, h1]; rfl, by rw [rdT, h1]; rfl, ?_⟩
  unfold rdE; rw [h0]; rfl
section
variable {e : Err} (h : GoodE e) {s : ByteArray} {a n : Int}
include h
theorem GoodE.tOk (hn : 0 < n) : tOk s a n (ofE e) = rdOk s a n e := by
  unfold Go.Ab.T.tOk rdOk
  rw [h.nil_iff, decide_eq_true hn, Bool.true_and, Bool.and_comm]
theorem GoodE.tAt (h1 : a ≤ s.size) : tAt s a n (ofE e) = rdAt s a (max n 0) e := by
  by_cases hn : 0 < n
  · have : max n 0 = n := by omega
    unfold Go.Ab.T.tAt rdAt; rw [h.tOk hn, this]
  · have h2 : max n 0 = 0 := by omega
    have h3 : decide (0 < n) = false := decide_eq_false hn
    unfold Go.Ab.T.tAt rdAt Go.Ab.T.tOk
    rw [h2, h3, Bool.false_and, Bool.and_false, Int.add_zero]
    cases rdOk s a 0 e <;> rfl
theorem GoodE.tT (h0 : 0 ≤ a) : ((rdT s a (max n 0) e).toList == (Go.Ab.T.tT s a n (ofE e)).toList) = true := by
  by_cases hn : 0 < n
  · have : max n 0 = n := by omega
    unfold Go.Ab.T.tT rdT; rw [h.tOk hn, this]; simp
  · have h2 : max n 0 = 0 := by omega
    have h3 : decide (0 < n) = false := decide_eq_false hn
    have h4 : Go.Ab.T.tT s a n (ofE e) = ⟨#[]⟩ := by unfold Go.Ab.T.tT Go.Ab.T.tOk; rw [h3, Bool.false_and, Bool.and_false]; rfl
    have h5 : (rdT s a 0 e).toList = [] := by
      unfold rdT
      cases rdOk s a 0 e with
      | false => rw [cond_false, ByteArray.toList_eq]
      | true =>
        rw [cond_true, Int.add_zero, ByteArray.toList_eq]
        have : (s.extract a.toNat a.toNat).size = 0 := by simp
        exact List.eq_nil_of_length_eq_zero (by simp)
    rw [h2, h4, h5, ByteArray.toList_eq]; rfl
theorem GoodE.tF (sec : Int) (h1 : a ≤ s.size) : tF s a n sec (ofE e) = ofE (rdE s a (max n 0) sec e) := by
  unfold Go.Ab.T.tF rdE
  rw [h.ofE_need]
  by_cases hn : 0 < n
  · have h2 : max n 0 = n := by omega
    have h3 : decide (n ≤ 0) = false := decide_eq_false (by omega)
    rw [h2, h3, Bool.false_or]
  · have h2 : max n 0 = 0 := by omega
    have h3 : decide (n ≤ 0) = true := decide_eq_true (by omega)
    have h4 : decide ((0 : Int) ≤ (s.size : Int) - a) = true := decide_eq_true (by omega)
    rw [h2, h3, h4]; rfl
end
theorem F3_eta (f : F3) : (f.1, f.2.1, f.2.2) = f := rfl
end Go.Ab.T
namespace Go.Ab.T
open Go Go.Ab
def letZ (b : Int) : Bool := decide (b ≥ 65) && decide (b ≤ 90)
def digZ (b : Int) : Bool := b == 95 || (decide (b ≥ 48) && decide (b ≤ 57))
def mayZ (b i : Int) : Bool := bif digZ b then !(i == 0) else letZ b
def rightFrom : List UInt8 → Nat → Bool
  | [], _ => true
  | b :: r, i => mayZ b.toNat i && rightFrom r (i + 1)
/-- Is a text a name? -/
def rightN (s : ByteArray) : Bool := decide (1 ≤ (s.size : Int)) && (decide ((s.size : Int) ≤ 16) && rightFrom s.data.toList 0)
def allR : List UInt8 → Bool
  | [] => true
  | b :: r => (letZ b.toNat || digZ b.toNat) && allR r
theorem bget (s : ByteArray) (i : Nat) : s[i]? = s.data.toList[i]? := by
  rcases Nat.lt_or_ge i s.size with h | h
  · rw [ByteArray.getElem?_lt' s i h]
    have : i < s.data.toList.length := by simpa using h
    rw [List.getElem?_eq_getElem this]
    simp [ByteArray.getElem_eq_getElem_data]
  · rw [ByteArray.getElem?_ge' s i (by omega)]
    rw [List.getElem?_eq_none (by simpa using h)]
theorem blen (s : ByteArray) : s.data.toList.length = s.size := by simp
theorem let_dig (b : Int) : (letZ b && digZ b) = false := by
  cases h : digZ b with
  | false => simp
  | true =>
    have h2 : letZ b = false := by
      simp only [digZ, Bool.or_eq_true, beq_iff_eq, Bool.and_eq_true, decide_eq_true_eq] at h
      simp only [letZ, Bool.and_eq_false_iff, decide_eq_false_iff_not]
      omega
    simp [h2]
theorem mayZ_zero (b : Int) : mayZ b 0 = letZ b := by
  have := let_dig b
  unfold mayZ
  cases h : digZ b with
  | false => rfl
  | true => rw [h, Bool.and_true] at this; rw [this]; rfl
theorem mayZ_succ (b : Int) (i : Nat) : mayZ b ((i + 1 : Nat) : Int) = (letZ b || digZ b) := by
  unfold mayZ
  have h0 : (((i + 1 : Nat) : Int) == 0) = false := beq_false_of_ne (by omega)
  rw [h0]
  cases digZ b <;> simp
theorem rightFrom_succ : ∀ (l : List UInt8) (i : Nat), rightFrom l (i + 1) = allR l
  | [], _ => rfl
  | b :: r, i => by rw [rightFrom, allR, mayZ_succ, rightFrom_succ r (i + 1)]
/-- As the reference has it. -/
theorem rightN_ref (s : ByteArray) : rightN s = (!(s.toList == ByteArray.toList ⟨#[]⟩) && (decide ((s.size : Int) ≤ 16) && (letZ (byteAt s 0) && allR s.data.toList))) := by
  rw [ByteArray.toList_eq, ByteArray.toList_eq]
  unfold rightN byteAt
  have hl := blen s
  cases hs : s.data.toList with
  | nil =>
    rw [hs] at hl
    have : decide (1 ≤ (s.size : Int)) = false := decide_eq_false (by simp at hl; omega)
    rw [this]; rfl
  | cons b r =>
    rw [hs] at hl
    have : decide (1 ≤ (s.size : Int)) = true := decide_eq_true (by simp at hl; omega)
    have e0 : (((0 : Nat)) : Int) = 0 := rfl
    rw [this, rightFrom, rightFrom_succ, e0, mayZ_zero, allR]
    show (true && _) = (true && _)
    simp only [Bool.true_and, List.getD_cons_zero]
    cases letZ (b.toNat : Int) <;> simp
/-! what a reader says of a name -/
def nmK (s : ByteArray) (a sec : Int) (e : Err) : Err := needE (rdE s a 1 sec e) (decide (rdV s a 1 e ≥ 1) && decide (rdV s a 1 e ≤ 16)) sec 7 a
def nmE (s : ByteArray) (a sec : Int) (e : Err) : Err := bif (nmK s a sec e).isNil then needE (rdE s (rdAt s a 1 e) (max (rdV s a 1 e) 0) sec (nmK s a sec e)) (rightN (rdT s (rdAt s a 1 e) (max (rdV s a 1 e) 0) (nmK s a sec e))) sec 7 a else nmK s a sec e
def nmAt (s : ByteArray) (a sec : Int) (e : Err) : Int := bif (nmK s a sec e).isNil then rdAt s (rdAt s a 1 e) (max (rdV s a 1 e) 0) (nmK s a sec e) else rdAt s a 1 e
def nmT (s : ByteArray) (a sec : Int) (e : Err) : ByteArray := bif (nmE s a sec e).isNil then rdT s (rdAt s a 1 e) (max (rdV s a 1 e) 0) (nmK s a sec e) else ⟨#[]⟩
def toE (f : F3) : Err := bif f.1 == 0 then .nil else .sec f.2.1 (.plc f.2.2 (.cls f.1))
theorem GoodE.toE {e : Err} (h : GoodE e) : toE (ofE e) = e := by
  rcases h.cases with rfl | ⟨s, a, k, hk, rfl⟩
  · rfl
  · unfold Go.Ab.T.toE; rw [ofE_spc, isCls_ne hk]; rfl
inductive GoodF : F3 → Prop where
  | mk {e : Err} (h : GoodE e) : GoodF (ofE e)
theorem GoodF.ex {f : F3} (h : GoodF f) : ∃ e, GoodE e ∧ f = ofE e := by cases h with | mk h => exact ⟨_, h, rfl⟩
theorem failR_bad {e : Err} (h : e.isNil = false) (sec k a : Int) : failR e sec k a = e := by unfold failR; rw [h]; rfl
theorem needE_bad {e : Err} (h : e.isNil = false) (t : Bool) (sec k a : Int) : needE e t sec k a = e := by
  unfold needE; rw [failR_bad h]; cases t <;> rfl
theorem isNil_eq {e : Err} (h : e.isNil = true) : e = .nil := by cases e <;> first | rfl | cases h
theorem nmK_good {e : Err} (h : GoodE e) (s : ByteArray) (a sec : Int) : GoodE (nmK s a sec e) := (h.rd s a 1 sec).need _ _ _ _
theorem nmE_good {e : Err} (h : GoodE e) (s : ByteArray) (a sec : Int) : GoodE (nmE s a sec e) := by
  unfold nmE
  cases (nmK s a sec e).isNil with
  | false => exact nmK_good h s a sec
  | true => exact ((nmK_good h s a sec).rd _ _ _ _).need _ _ _ _
theorem nmAt_le {s : ByteArray} {a : Int} {e : Err} (sec : Int) (h0 : 0 ≤ a) (h1 : a ≤ s.size) : 0 ≤ nmAt s a sec e ∧ nmAt s a sec e ≤ s.size := by
  obtain ⟨q0, q1⟩ := rdAt_le (e := e) (n := 1) h0 h1 (by omega)
  unfold nmAt
  cases (nmK s a sec e).isNil with
  | false => exact ⟨q0, q1⟩
  | true => exact rdAt_le q0 q1 (by omega)
end Go.Ab.T
namespace Go.Ab.T
open Go Go.Ab
/-- A number's digits. -/
def dB (n : Int) : ByteArray := ⟨(Go.Lib.itoa n).toArray⟩
def dgs : ByteArray := ⟨#[48, 49, 50, 51, 52, 53, 54, 55, 56, 57]⟩
theorem dig_slice : ∀ n : _root_.Fin 10, dgs.extract n.val (n.val + 1) = ⟨#[UInt8.ofNat (48 + n.val)]⟩ := by decide
theorem dig_at {n : Nat} (h : n < 10) : dgs.extract n (n + 1) = ⟨#[UInt8.ofNat (48 + n)]⟩ := dig_slice ⟨n, h⟩
theorem dB_small {n : Nat} (h : n < 10) : dB (n : Int) = ⟨#[UInt8.ofNat (48 + n)]⟩ := by
  unfold dB Go.Lib.itoa
  rw [if_neg (by omega), Int.toNat_natCast, Go.Lib.decDigits_one h]
theorem dec_big {u : Nat} (h : ¬ u < 10) : Go.Lib.decDigits u = Go.Lib.decDigits (u / 10) ++ [UInt8.ofNat (48 + u % 10)] := by rw [Go.Lib.decDigits, dif_neg h]
theorem dB_big {n : Nat} (h : ¬ n < 10) : dB (n : Int) = dB ((n / 10 : Nat) : Int) ++ ⟨#[UInt8.ofNat (48 + n % 10)]⟩ := by
  unfold dB Go.Lib.itoa
  rw [if_neg (by omega), if_neg (by omega), Int.toNat_natCast, Int.toNat_natCast, dec_big h]
  apply ByteArray.ext; apply Array.ext'; simp
theorem dB_neg_small {n : Nat} (h0 : 0 < n) (h : n < 10) : dB (-(n : Int)) = ⟨#[45]⟩ ++ ⟨#[UInt8.ofNat (48 + n)]⟩ := by
  unfold dB Go.Lib.itoa
  rw [if_pos (by omega)]
  have : (-(n : Int)).natAbs = n := by omega
  rw [this, Go.Lib.decDigits_one h]
  apply ByteArray.ext; apply Array.ext'; simp
theorem dB_neg_big {n : Nat} (h : ¬ n < 10) : dB (-(n : Int)) = dB (-((n / 10 : Nat) : Int)) ++ ⟨#[UInt8.ofNat (48 + n % 10)]⟩ := by
  unfold dB Go.Lib.itoa
  rw [if_pos (by omega), if_pos (by omega)]
  have e1 : (-(n : Int)).natAbs = n := by omega
  have e2 : (-((n / 10 : Nat) : Int)).natAbs = n / 10 := by omega
  rw [e1, e2, dec_big h]
  apply ByteArray.ext; apply Array.ext'; simp
theorem nDig_le : ∀ (k u : Nat), u < 10 ^ (k + 1) → Go.Lib.nDigits u ≤ k + 1
  | 0, u, h => by rw [Go.Lib.nDigits_small (by simpa using h)]; exact Nat.le_refl _
  | k + 1, u, h => by
    by_cases h2 : u < 10
    · rw [Go.Lib.nDigits_small h2]; omega
    · rw [Go.Lib.nDigits_big h2]
      have := nDig_le k (u / 10) (by rw [Nat.pow_succ] at h; omega)
      omega
theorem dB_size {n : Int} (h0 : -9223372036854775808 ≤ n) (h1 : n ≤ 9223372036854775807) : (dB n).size ≤ 20 := by
  have p : (10 : Nat) ^ 19 = 10000000000000000000 := by decide
  have key : ∀ u : Nat, u < 10000000000000000000 → (Go.Lib.decDigits u).length ≤ 19 := fun u hu => by
    rw [Go.Lib.decDigits_length]; exact nDig_le 18 u (by omega)
  show (Go.Lib.itoa n).toArray.size ≤ 20
  rw [List.size_toArray]
  unfold Go.Lib.itoa
  split
  · have := key n.natAbs (by omega)
    rw [List.length_cons]; omega
  · have := key n.toNat (by omega)
    omega
theorem dec_dig : ∀ (u : Nat) (b : UInt8), b ∈ Go.Lib.decDigits u → 48 ≤ b.toNat ∧ b.toNat ≤ 57 := by
  intro u
  induction u using Nat.strongRecOn with
  | _ u ih =>
    intro b hb
    have one : ∀ k : Nat, k < 10 → 48 ≤ (UInt8.ofNat (48 + k)).toNat ∧ (UInt8.ofNat (48 + k)).toNat ≤ 57 := fun k hk => by
      rw [UInt8.toNat_ofNat']; omega
    by_cases h : u < 10
    · rw [Go.Lib.decDigits_one h, List.mem_singleton] at hb
      subst hb; exact one u h
    · rw [dec_big h, List.mem_append, List.mem_singleton] at hb
      rcases hb with hb | rfl
      · exact ih (u / 10) (by omega) b hb
      · exact one (u % 10) (by omega)
/-- A 'P' and at most 15 digits are a name. -/
theorem rightN_P {n : Int} (h0 : 0 ≤ n) (h : (dB n).size ≤ 15) : rightN (⟨#[80]⟩ ++ dB n) = true := by
  have hl : (⟨#[80]⟩ ++ dB n : ByteArray).size = 1 + (dB n).size := by rw [ByteArray.size_append]; rfl
  have hd : (⟨#[80]⟩ ++ dB n : ByteArray).data.toList = 80 :: Go.Lib.decDigits n.toNat := by
    unfold dB Go.Lib.itoa
    rw [if_neg (by omega)]; simp
  unfold rightN
  rw [decide_eq_true (by omega), decide_eq_true (by omega), hd]
  show (true && (true && (mayZ (80 : UInt8).toNat ((0 : Nat) : Int) && rightFrom (Go.Lib.decDigits n.toNat) 1))) = true
  rw [Bool.true_and, Bool.true_and]
  rw [rightFrom_succ]
  have h1 : mayZ (80 : UInt8).toNat ((0 : Nat) : Int) = true := by decide
  rw [h1, Bool.true_and]
  have all : ∀ l : List UInt8, (∀ b, b ∈ l → 48 ≤ b.toNat ∧ b.toNat ≤ 57) → Go.Ab.T.allR l = true := by
    intro l
    induction l with
    | nil => intro _; rfl
    | cons b r ih =>
      intro h
      obtain ⟨b1, b2⟩ := h b List.mem_cons_self
      rw [Go.Ab.T.allR, ih fun c hc => h c (List.mem_cons_of_mem _ hc), Bool.and_true]
      have : digZ b.toNat = true := by
        unfold digZ
        rw [decide_eq_true (by omega), decide_eq_true (by omega)]; simp
      rw [this, Bool.or_true]
  exact all _ (dec_dig _)
end Go.Ab.T
namespace Go.Ab.T
open Go Go.Ab Go.Lib
/-! a status as text, and back -/
theorem parse_snoc : ∀ (l : List UInt8) (acc v : Nat) (b : UInt8), parseUint10 acc l = .ok v → parseUint10 acc (l ++ [b]) = parseUint10 v [b]
  | [], acc, v, b, h => by
    simp only [parseUint10] at h
    injection h with h
    subst h; rfl
  | c :: r, acc, v, b, h => by
    rw [List.cons_append]
    rw [parseUint10] at h ⊢
    split at h
    · rename_i h1
      rw [if_pos h1]
      split at h
      · cases h
      · rename_i h2
        rw [if_neg h2]
        split at h
        · cases h
        · rename_i h3
          rw [if_neg h3]
          exact parse_snoc r _ v b h
    · cases h
theorem dig_nat {k : Nat} (h : k < 10) : (UInt8.ofNat (48 + k)).toNat = 48 + k := by rw [UInt8.toNat_ofNat']; omega
theorem parse_dec (u : Nat) (h : u < 18446744073709551616) : parseUint10 0 (decDigits u) = .ok u := by
  have one : ∀ a k : Nat, k < 10 → a < 1844674407370955162 → a * 10 + k < 18446744073709551616 → parseUint10 a [UInt8.ofNat (48 + k)] = .ok (a * 10 + k) := by
    intro a k hk ha h1
    rw [parseUint10, dig_nat hk, if_pos (by omega), if_neg (by omega), if_neg (by omega)]
    have : 48 + k - 48 = k := by omega
    rw [this]; rfl
  revert h
  induction u using Nat.strongRecOn with
  | _ u ih =>
    intro h
    by_cases c : u < 10
    · rw [decDigits_one c, one 0 u c (by omega) (by omega)]; simp
    · rw [dec_big c, parse_snoc _ _ _ _ (ih (u / 10) (by omega) (by omega)), one (u / 10) (u % 10) (by omega) (by omega) (by omega)]
      congr 1; omega
theorem dec_ne (u : Nat) : decDigits u ≠ [] := by
  by_cases c : u < 10
  · rw [decDigits_one c]; simp
  · rw [dec_big c]; simp
theorem mag_dec {u : Nat} (h : u < 18446744073709551616) : parseMag (decDigits u) = .ok u := by
  unfold parseMag
  rw [if_neg (dec_ne u), parse_dec u h]
theorem pu_dB {l : Int} (h0 : 0 ≤ l) (h1 : l < 18446744073709551616) : parseUintB 64 (dB l).data.toList = .ok l.toNat := by
  rw [parseUintB_64]
  show parseMag (itoa l) = _
  unfold itoa
  rw [if_neg (by omega)]
  exact mag_dec (by omega)
theorem at_dB {n : Int} (h0 : -9223372036854775808 ≤ n) (h1 : n ≤ 9223372036854775807) : atoiAll (dB n).data.toList = .ok n := by
  show atoiAll (itoa n) = _
  unfold itoa
  split
  · rw [atoiAll_minus, mag_dec (by omega)]
    unfold signed
    simp only
    split
    · omega
    · congr 1; omega
  · obtain ⟨c, r, hr⟩ : ∃ c r, decDigits n.toNat = c :: r := by
      cases h : decDigits n.toNat with
      | nil => exact absurd h (dec_ne _)
      | cons c r => exact ⟨c, r, rfl⟩
    obtain ⟨d1, d2⟩ := dec_dig n.toNat c (by rw [hr]; exact List.mem_cons_self)
    rw [hr, atoiAll_plain c r (by omega) (by omega), ← hr, mag_dec (by omega)]
    unfold signless
    simp only
    split
    · omega
    · congr 1; omega
theorem noSp_dB (n : Int) : (32 : UInt8) ∉ (dB n).data.toList := by
  have h : ∀ u, (32 : UInt8) ∉ decDigits u := fun u hu => by
    have := (dec_dig u 32 hu).1
    exact absurd this (by decide)
  show (32 : UInt8) ∉ itoa n
  unfold itoa
  split
  · intro h1
    rcases List.mem_cons.1 h1 with h2 | h2
    · exact absurd h2 (by decide)
    · exact h _ h2
  · exact h _
/-- The words of a text. -/
def sp32 : ByteArray := ⟨#[32]⟩
def words (s : ByteArray) : List ByteArray := splitB sp32 0 (countB s sp32) s
def stWs (l c n : Int) : List ByteArray := [⟨#[108, 97, 115, 116]⟩, dB l, ⟨#[99, 117, 114, 114, 101, 110, 116]⟩, dB c, ⟨#[110, 101, 120, 116]⟩, dB n]
def stT (l c n : Int) : ByteArray := ⟨#[108, 97, 115, 116, 32]⟩ ++ dB l ++ ⟨#[32, 99, 117, 114, 114, 101, 110, 116, 32]⟩ ++ dB c ++ ⟨#[32, 110, 101, 120, 116, 32]⟩ ++ dB n
theorem stT_list (l c n : Int) : (stT l c n).data.toList = [108, 97, 115, 116] ++ 32 :: ((dB l).data.toList ++ 32 :: ([99, 117, 114, 114, 101, 110, 116] ++ 32 :: ((dB c).data.toList ++ 32 :: ([110, 101, 120, 116] ++ 32 :: (dB n).data.toList)))) := by
  simp [stT, ByteArray.data_append]
theorem join_ws (l c n : Int) : (⟨(Lib.join ((stWs l c n).map (·.data.toList)) sp32.data.toList).toArray⟩ : ByteArray) = stT l c n := by
  apply ByteArray.ext
  apply Array.ext'
  rw [stT_list]
  simp [Lib.join, stWs, sp32, List.intercalate]
theorem idx_app : ∀ (x r : List UInt8), (32 : UInt8) ∉ x → indexByte (x ++ 32 :: r) 32 = (x.length : Int)
  | [], r, _ => by simp [indexByte]
  | b :: x, r, h => by
    have hb : ¬ b = 32 := fun e => h (by rw [e]; exact List.mem_cons_self)
    have := idx_app x r (fun h' => h (List.mem_cons_of_mem _ h'))
    rw [List.cons_append, indexByte, this, if_neg (by simpa using hb), if_neg (by simp), List.length_cons]
    omega
theorem splitK_step (x r : List UInt8) (k : Nat) (h : (32 : UInt8) ∉ x) : splitK [32] 0 (k + 1) (x ++ 32 :: r) = x :: splitK [32] 0 k r := by
  rw [splitK, index_one, idx_app x r h, if_neg (by simp)]
  have e1 : ((x.length : Int)).toNat = x.length := Int.toNat_natCast _
  rw [e1, Nat.add_zero]
  have e2 : (x ++ 32 :: r).take x.length = x := List.take_left
  have e3 : (x ++ 32 :: r).drop (x.length + [(32 : UInt8)].length) = r := by
    rw [show x.length + [(32 : UInt8)].length = x.length + 1 from rfl, ← List.drop_drop, List.drop_left]
    rfl
  rw [e2, e3]
theorem data_inj : ∀ l m : List ByteArray, l.map (·.data.toList) = m.map (·.data.toList) → l = m
  | [], [], _ => rfl
  | [], _ :: _, h => by simp at h
  | _ :: _, [], h => by simp at h
  | a :: l, b :: m, h => by
    obtain ⟨h1, h2⟩ := List.cons.inj h
    rw [data_inj l m h2, ByteArray.ext (Array.ext' h1)]
theorem words_stT (l c n : Int) : words (stT l c n) = stWs l c n := by
  have hc : countB (stT l c n) sp32 = 5 := by
    show count (stT l c n).data.toList [32] = 5
    rw [count_one, stT_list]
    have z : ∀ m : Int, (dB m).data.toList.count 32 = 0 := fun m => List.count_eq_zero_of_not_mem (noSp_dB m)
    simp only [List.count_append, List.count_cons, z, List.count_nil]
    rfl
  unfold words
  rw [hc]
  apply data_inj
  rw [splitB_data]
  show splitK [32] 0 5 (stT l c n).data.toList = _
  rw [stT_list, splitK_step _ _ _ (by decide), splitK_step _ _ _ (noSp_dB l), splitK_step _ _ _ (by decide), splitK_step _ _ _ (noSp_dB c), splitK_step _ _ _ (by decide)]
  rfl
theorem words_len (s : ByteArray) : (words s).length = countB s sp32 + 1 := splitB_all sp32 (by decide) 0 _ s rfl
theorem ext_size (s : ByteArray) (a b : Nat) (h : b ≤ s.size) : (s.extract a b).size ≤ s.size := by rw [ByteArray.size_extract]; omega
theorem splitB_size (sep : ByteArray) : ∀ (k : Nat) (s x : ByteArray), x ∈ splitB sep 0 k s → x.size ≤ s.size
  | 0, s, x, h => by
    rw [splitB, List.mem_singleton] at h
    subst h; exact Nat.le_refl _
  | k + 1, s, x, h => by
    rw [splitB] at h
    split at h
    · rw [List.mem_singleton] at h
      subst h; exact Nat.le_refl _
    · rcases List.mem_cons.1 h with rfl | h
      · rw [ByteArray.size_extract]; omega
      · have := splitB_size sep k _ x h
        rw [ByteArray.size_extract] at this; omega
theorem words_size (s x : ByteArray) (h : x ∈ words s) : x.size ≤ s.size := splitB_size _ _ _ _ h
theorem str_eq (a b : ByteArray) : (a.toList == b.toList) = decide (a = b) := by
  rw [Bool.eq_iff_iff, beq_iff_eq, decide_eq_true_eq, Lib.toList_data, Lib.toList_data]
  constructor
  · intro h; exact ByteArray.ext (Array.ext' h)
  · intro h; rw [h]
/-- What is parsed. -/
def prs (s : ByteArray) : Option (Int × Int × Int) :=
  match words s with
  | [_, a, _, b, _, c] => match parseUintB 64 a.data.toList, atoiAll b.data.toList, atoiAll c.data.toList with
    | .ok l, .ok x, .ok y => if stT l x y = s then some ((l : Int), x, y) else none
    | _, _, _ => none
  | _ => none
def prL (s : ByteArray) : Int := match prs s with | some p => p.1 | none => 0
def prC (s : ByteArray) : Int := match prs s with | some p => p.2.1 | none => 0
def prN (s : ByteArray) : Int := match prs s with | some p => p.2.2 | none => 0
def prE (s : ByteArray) : Err := match prs s with | some _ => .nil | none => .cls 6
theorem prs_stT {l c n : Int} (hl : 0 ≤ l ∧ l < 18446744073709551616) (hc : -9223372036854775808 ≤ c ∧ c ≤ 9223372036854775807) (hn : -9223372036854775808 ≤ n ∧ n ≤ 9223372036854775807) : prs (stT l c n) = some (l, c, n) := by
  unfold prs
  rw [words_stT]
  show (match parseUintB 64 (dB l).data.toList, atoiAll (dB c).data.toList, atoiAll (dB n).data.toList with
    | .ok l', .ok x, .ok y => if stT l' x y = stT l c n then some ((l' : Int), x, y) else none
    | _, _, _ => none) = _
  rw [pu_dB hl.1 hl.2, at_dB hc.1 hc.2, at_dB hn.1 hn.2]
  have e : ((l.toNat : Nat) : Int) = l := by omega
  simp only [e, if_true]
theorem prs_some {s : ByteArray} {l c n : Int} (h : prs s = some (l, c, n)) : stT l c n = s ∧ (0 ≤ l ∧ l < 18446744073709551616) ∧ (-9223372036854775808 ≤ c ∧ c ≤ 9223372036854775807) ∧ (-9223372036854775808 ≤ n ∧ n ≤ 9223372036854775807) := by
  unfold prs at h
  split at h
  · split at h
    · rename_i u x y h1 h2 h3
      split at h
      · rename_i hs
        cases h
        have := parseUintB_le h1
        have p : (2 : Nat) ^ 64 - 1 = 18446744073709551615 := by decide
        rw [p] at this
        exact ⟨hs, ⟨by omega, by omega⟩, atoiAll_bounds h2, atoiAll_bounds h3⟩
      · cases h
    · cases h
  · cases h
end Go.Ab.T
namespace Go.Ab.T
open Go Go.Ab
theorem beL_get (v : Nat) : ∀ (n i : Nat), i < n → (beL n v)[i]? = some (UInt8.ofNat (v / 256 ^ (n - 1 - i) % 256))
  | 0, i, h => absurd h (Nat.not_lt_zero _)
  | n + 1, 0, _ => by rw [beL]; simp
  | n + 1, i + 1, h => by
    have e : n + 1 - 1 - (i + 1) = n - 1 - i := by omega
    rw [beL, e, List.getElem?_cons_succ, beL_get v n i (by omega)]
theorem beV_step (u m : Nat) : 256 * (u / 256 % 256 ^ m) + u % 256 = u % 256 ^ (m + 1) := by
  have := Nat.mod_mul (x := u) (a := 256) (b := 256 ^ m)
  rw [Nat.pow_succ, Nat.mul_comm (256 ^ m) 256, this]; omega
theorem ofNat_toNat (x : Nat) : (UInt8.ofNat (x % 256)).toNat = x % 256 := by rw [UInt8.toNat_ofNat']; omega
theorem beV_of {S : ByteArray} {a n v : Nat} (h : ∀ i, i < n → byteAt S (a + i) = v / 256 ^ (n - 1 - i) % 256) : ∀ m, m ≤ n → beV S a m = v / 256 ^ (n - m) % 256 ^ m
  | 0, _ => by rw [beV]; simp [Nat.mod_one]
  | m + 1, hm => by
    rw [beV, beV_of h m (by omega), h m (by omega)]
    have e1 : n - m = (n - 1 - m) + 1 := by omega
    have e2 : n - (m + 1) = n - 1 - m := by omega
    rw [e1, e2, Nat.pow_succ, ← Nat.div_div_eq_div_mul]
    exact beV_step _ m
theorem cut_ex (b N : Int) (h0 : 0 ≤ b) (h1 : b < 256) (hN : 0 ≤ N) (hN2 : N ≤ 8) : ∃ c : Nat, (IntKind.i64.wrap b).tmod (IntKind.i64.wrap (N + 1)) = (c : Int) ∧ (c : Int) ≤ N := by
  rw [wrap_id b (by omega) (by omega), wrap_id (N + 1) (by omega) (by omega), Int.tmod_eq_emod_of_nonneg h0]
  have h2 : 0 ≤ b % (N + 1) := Int.emod_nonneg _ (by omega)
  have h3 : b % (N + 1) < N + 1 := Int.emod_lt_of_pos _ (by omega)
  exact ⟨(b % (N + 1)).toNat, by omega, by omega⟩
theorem mod_ex (v M : Int) (h0 : 0 ≤ v) (hM : 0 < M) : ∃ w : Nat, v.tmod M = (w : Int) ∧ (w : Int) < M := by
  rw [Int.tmod_eq_emod_of_nonneg h0]
  have h2 : 0 ≤ v % M := Int.emod_nonneg _ (by omega)
  have h3 : v % M < M := Int.emod_lt_of_pos _ hM
  exact ⟨(v % M).toNat, by omega, by omega⟩
theorem byteAt_append (s t : ByteArray) (i : Nat) : byteAt (s ++ t) (s.size + i) = byteAt t i := by
  unfold byteAt
  rw [ByteArray.data_append, Array.toList_append, List.getD_eq_getElem?_getD, List.getD_eq_getElem?_getD, List.getElem?_append_right (by simp)]
  simp
theorem beSize (n w : Nat) : (ByteArray.mk (beL n w).toArray).size = n := by
  show (beL n w).toArray.size = n; rw [List.size_toArray, beL_len]
theorem rn_facts (s S : ByteArray) (n w c : Nat) (N : Int) (hN : N = (n : Int)) (hc : c ≤ n) (hw : w < 256 ^ n)
    (hS : s ++ (ByteArray.mk (beL n w).toArray).extract 0 (n - c) = S) :
    S.size = s.size + (n - c) ∧ ((rdT S 0 (s.size : Int) .nil).toList == s.toList) = true ∧ rdAt S 0 (s.size : Int) .nil = s.size ∧ rdE S 0 (s.size : Int) 0 .nil = .nil ∧
    (c = 0 → rdV S s.size N .nil = w ∧ rdAt S s.size N .nil = S.size ∧ rdE S s.size N 0 .nil = .nil) ∧
    (0 < c → rdV S s.size N .nil = 0 ∧ rdAt S s.size N .nil = s.size ∧ rdE S s.size N 0 .nil = .sec 0 (.plc s.size (.cls 2))) := by
  have h1 : S.size = s.size + (n - c) := by
    rw [← hS, ByteArray.size_append, ByteArray.size_extract, beSize]; omega
  obtain ⟨_, f2, f3, f4⟩ := rd_fits S 0 (s.size : Int) 0 (by omega)
  refine ⟨h1, ?_, by rw [f2]; omega, f4, ?_, ?_⟩
  · rw [f3]
    have : S.extract (Int.toNat 0) (0 + (s.size : Int)).toNat = s := by
      have e : (0 + (s.size : Int)).toNat = s.size := by omega
      rw [e, ← hS]
      apply ByteArray.ext
      simp
    rw [this, beq_self_eq_true]
  · intro h0
    subst h0
    obtain ⟨g1, g2, _, g4⟩ := rd_fits S (s.size : Int) N 0 (by omega)
    refine ⟨?_, by rw [g2]; omega, g4⟩
    rw [g1, hN, Int.toNat_natCast, Int.toNat_natCast]
    have hx : (ByteArray.mk (beL n w).toArray).extract 0 (n - 0) = ByteArray.mk (beL n w).toArray := by
      apply ByteArray.ext
      have := beSize n w
      have e3 : (beL n w).length = n := beL_len w n
      simp
      exact List.take_of_length_le (by omega)
    rw [hx] at hS
    have := beV_of (S := S) (a := s.size) (n := n) (v := w) (fun i hi => by
      rw [← hS, byteAt_append]
      unfold byteAt
      rw [List.getD_eq_getElem?_getD]
      have e : (ByteArray.mk (beL n w).toArray).data.toList = beL n w := by simp
      rw [e, beL_get w n i hi]
      exact ofNat_toNat _) n (Nat.le_refl _)
    rw [this, Nat.sub_self, Nat.pow_zero, Nat.div_one, Nat.mod_eq_of_lt hw]
  · intro h0
    obtain ⟨g1, g2, _, g4⟩ := rd_short S (s.size : Int) N 0 (by omega)
    exact ⟨g1, g2, g4⟩
end Go.Ab.T
namespace Go.Ab.T
open Go Go.Ab
theorem push_fold (l : List UInt8) : ∀ r : ByteArray, (l.map e_uint8).foldl (fun r x => r.push (UInt8.ofNat (pvNat x))) r = r ++ ⟨l.toArray⟩ := by
  induction l with
  | nil => intro r; apply ByteArray.ext; simp
  | cons b l ih =>
    intro r
    rw [List.map_cons, List.foldl_cons, ih]
    have h1 : UInt8.ofNat (pvNat (e_uint8 b)) = b := by
      show UInt8.ofNat ((b.toNat : Int).toNat) = b
      rw [Int.toNat_natCast, UInt8.ofNat_toNat]
    rw [h1]
    apply ByteArray.ext
    simp
theorem strPV_e (l : List UInt8) : strPV (l.map e_uint8) = ⟨l.toArray⟩ := by
  rw [strPV, push_fold]; apply ByteArray.ext; simp
theorem mk_size (l : List UInt8) : (ByteArray.mk l.toArray).size = l.length := by
  show l.toArray.size = _; simp
theorem get_name (s : ByteArray) (h : rightN s = true) :
    nmT ⟨(UInt8.ofNat s.size :: s.data.toList).toArray⟩ 0 0 .nil = s ∧ nmE ⟨(UInt8.ofNat s.size :: s.data.toList).toArray⟩ 0 0 .nil = .nil ∧
    nmAt ⟨(UInt8.ofNat s.size :: s.data.toList).toArray⟩ 0 0 .nil = ((s.size + 1 : Nat) : Int) := by
  have hr := h
  simp only [rightN, Bool.and_eq_true, decide_eq_true_eq] at hr
  have hl := blen s
  obtain ⟨S, hS⟩ : ∃ S, S = ByteArray.mk (UInt8.ofNat s.size :: s.data.toList).toArray := ⟨_, rfl⟩
  rw [← hS]
  have hz : S.size = s.size + 1 := by rw [hS, mk_size, List.length_cons, hl]
  obtain ⟨g1, g2, _, g4⟩ := rd_fits S 0 1 0 (by omega)
  have hv : beV S (Int.toNat 0) (Int.toNat 1) = s.size := by
    show 256 * 0 + byteAt S 0 = s.size
    have : byteAt S 0 = (UInt8.ofNat s.size).toNat := by rw [hS]; rfl
    rw [this, UInt8.toNat_ofNat']; omega
  rw [hv] at g1
  have g2 : rdAt S 0 1 .nil = 1 := g2
  have d1 : decide (((s.size : Nat) : Int) ≥ 1) = true := decide_eq_true (by omega)
  have d2 : decide (((s.size : Nat) : Int) ≤ 16) = true := decide_eq_true (by omega)
  have hK : nmK S 0 0 .nil = .nil := by unfold nmK; rw [g1, g4, d1, d2]; rfl
  have hm : max ((s.size : Nat) : Int) 0 = s.size := by omega
  obtain ⟨_, k2, k3, k4⟩ := rd_fits S 1 (s.size : Int) 0 (by omega)
  have hx : S.extract (Int.toNat 1) (1 + (s.size : Int)).toNat = s := by
    have e : (1 + (s.size : Int)).toNat = s.size + 1 := by omega
    have e1 : Int.toNat 1 = 1 := rfl
    rw [e, e1, hS]
    apply ByteArray.ext
    apply Array.ext'
    rw [ByteArray.data_extract, Array.toList_extract]
    show List.extract (UInt8.ofNat s.size :: s.data.toList) 1 (s.size + 1) = _
    rw [List.extract_eq_take_drop]
    show List.take (s.size + 1 - 1) s.data.toList = _
    rw [List.take_of_length_le (by omega)]
  have hE : nmE S 0 0 .nil = .nil := by
    unfold nmE; rw [hK, g1, g2, hm, k3, k4, hx, h]; rfl
  refine ⟨?_, hE, ?_⟩
  · unfold nmT; rw [hE, hK, g1, g2, hm, k3, hx]; rfl
  · unfold nmAt; rw [hK, g1, g2, hm, k2]
    show 1 + (s.size : Int) = _
    omega
end Go.Ab.T
namespace Go.Ab.T
open Go Go.Ab
/-- Has a number so many bytes? -/
def fitsV (v n : Int) : Bool := sizeOk n && decide (v < ((256 ^ n.toNat : Nat) : Int))
def putV (l : List UInt8) (v n : Int) : List UInt8 := bif fitsV v n then l ++ beL n.toNat v.toNat else l
theorem fitsV_bad {v n : Int} (h : sizeOk n = false) : fitsV v n = false := by unfold fitsV; rw [h]; rfl
theorem fitsV_size {v n : Int} (h : fitsV v n = true) : sizeOk n = true := by
  unfold fitsV at h; simp only [Bool.and_eq_true] at h; exact h.1
theorem fdiv_beq_zero (v : Int) (p : Int) (hv : 0 ≤ v) (hp : 0 < p) : (v.fdiv p == 0) = decide (v < p) := by
  rw [Int.fdiv_eq_ediv_of_nonneg v (by omega)]
  have h : v / p = 0 ↔ v < p := by
    constructor
    · intro h
      have := Int.lt_ediv_add_one_mul_self v hp
      rw [h] at this; omega
    · intro h; exact Int.ediv_eq_zero_of_lt hv h
  rw [Bool.eq_iff_iff, beq_iff_eq, decide_eq_true_eq]; exact h
theorem fitsV_ok {v n : Int} (hs : sizeOk n = true) (h0 : 0 ≤ v) (h1 : v < 18446744073709551616) :
    (0 ≤ sizeB n ∧ (v.fdiv (2 ^ min (sizeB n).toNat IntKind.u64.bits) == 0) = fitsV v n) ∧ ((sizeB n == 64) = true → fitsV v n = true) := by
  have hz : sizeB n = 8 * n := by unfold sizeB; rw [hs]; rfl
  have hp : ∀ p : Nat, ((2 : Int) ^ p) = ((2 ^ p : Nat) : Int) := fun p => by simp
  have hf : fitsV v n = decide (v < ((256 ^ n.toNat : Nat) : Int)) := by unfold fitsV; rw [hs]; rfl
  rw [hf, hz]
  rcases sizeOk_cases hs with rfl | rfl | rfl | rfl
  all_goals
    refine ⟨⟨by decide, ?_⟩, ?_⟩
    · rw [fdiv_beq_zero v _ h0 (by decide)]; rfl
  · intro h; exact absurd h (by decide)
  · intro h; exact absurd h (by decide)
  · intro h; exact absurd h (by decide)
  · intro _; exact decide_eq_true (by show v < ((256 ^ 8 : Nat) : Int); have : ((256 ^ 8 : Nat) : Int) = 18446744073709551616 := by decide
                                      omega)
theorem u8_wrap (n : Nat) : IntKind.u8.wrap (n : Int) = ((n % 256 : Nat) : Int) := by
  unfold IntKind.wrap
  have e1 : ((2 : Int) ^ IntKind.u8.bits) = 256 := by decide
  have e2 : IntKind.u8.signed = false := rfl
  rw [e1, e2]
  simp only [Bool.false_and, Bool.false_eq_true, if_false]
  omega
theorem shr_byte (v m : Nat) (hm : m < 8) : ((v : Int).fdiv (2 ^ min (IntKind.i64.wrap ((8 : Int) * (m : Int))).toNat IntKind.u64.bits)) = ((v / 256 ^ m : Nat) : Int) := by
  rw [wrap_id _ (by omega) (by omega)]
  have e : (8 * (m : Int)).toNat = 8 * m := by omega
  have e2 : min (8 * m) IntKind.u64.bits = 8 * m := by show min (8 * m) 64 = _; omega
  have e3 : ((2 : Int) ^ (8 * m)) = ((256 ^ m : Nat) : Int) := by
    rw [Int.pow_mul]; simp
  rw [e, e2, e3, Int.fdiv_eq_ediv_of_nonneg _ (Int.natCast_nonneg _)]
  simp
end Go.Ab.T
namespace Go.Ab.T
open Go Go.Ab
/-- Bytes stand somewhere in a text. -/
def Has (S : ByteArray) (a : Nat) (l : List UInt8) : Prop := ∃ pre post, S.data.toList = pre ++ (l ++ post) ∧ pre.length = a
theorem Has.whole (l : List UInt8) : Has ⟨l.toArray⟩ 0 l := ⟨[], [], by simp, rfl⟩
theorem Has.left {S : ByteArray} {a : Nat} {l m : List UInt8} (h : Has S a (l ++ m)) : Has S a l := by
  obtain ⟨p, q, h1, h2⟩ := h
  exact ⟨p, m ++ q, by rw [h1, List.append_assoc], h2⟩
theorem Has.right {S : ByteArray} {a : Nat} {l m : List UInt8} (h : Has S a (l ++ m)) : Has S (a + l.length) m := by
  obtain ⟨p, q, h1, h2⟩ := h
  exact ⟨p ++ l, q, by rw [h1]; simp, by rw [List.length_append, h2]⟩
theorem Has.right' {S : ByteArray} {a b : Nat} {l m : List UInt8} (h : Has S a (l ++ m)) (hb : b = a + l.length) : Has S b m := hb ▸ h.right
theorem Has.size {S : ByteArray} {a : Nat} {l : List UInt8} (h : Has S a l) : a + l.length ≤ S.size := by
  obtain ⟨p, q, h1, h2⟩ := h
  have h3 : S.data.toList.length = S.size := by simp
  rw [← h3, h1]; simp; omega
theorem Has.byte {S : ByteArray} {a : Nat} {l : List UInt8} (h : Has S a l) {i : Nat} {b : UInt8} (hi : l[i]? = some b) : byteAt S (a + i) = b.toNat := by
  obtain ⟨p, q, h1, h2⟩ := h
  unfold byteAt
  rw [h1, List.getD_eq_getElem?_getD, List.getElem?_append_right (by omega), List.getElem?_append_left (by
    have := (List.getElem?_eq_some_iff.1 hi).1; omega)]
  have e : a + i - p.length = i := by omega
  rw [e, hi]; rfl
theorem Has.num {S : ByteArray} {a n v : Nat} (h : Has S a (beL n v)) (hv : v < 256 ^ n) : beV S a n = v := by
  have := beV_of (S := S) (a := a) (n := n) (v := v) (fun i hi => by
    rw [h.byte (beL_get v n i hi)]; exact ofNat_toNat _) n (Nat.le_refl _)
  rw [this, Nat.sub_self, Nat.pow_zero, Nat.div_one, Nat.mod_eq_of_lt hv]
theorem Has.rd {S : ByteArray} {a n v : Nat} (h : Has S a (beL n v)) (hv : v < 256 ^ n) {x y : Int} (hx : x = (a : Int)) (hy : y = (n : Int)) :
    rdV S x y .nil = (v : Int) ∧ rdAt S x y .nil = ((a + n : Nat) : Int) ∧ ∀ sec, rdE S x y sec .nil = .nil := by
  subst hx hy
  have hs := h.size
  rw [beL_len] at hs
  refine ⟨?_, ?_, fun sec => ?_⟩
  · obtain ⟨g1, _⟩ := rd_fits S (a : Int) (n : Int) 0 (by omega)
    rw [g1, Int.toNat_natCast, Int.toNat_natCast, h.num hv]
  · obtain ⟨_, g2, _⟩ := rd_fits S (a : Int) (n : Int) 0 (by omega)
    rw [g2]; omega
  · exact (rd_fits S (a : Int) (n : Int) sec (by omega)).2.2.2
/-- The bytes of a number that was read. -/
theorem beL_beV (S : ByteArray) (a : Nat) : ∀ n, a + n ≤ S.size → beL n (beV S a n) = (S.data.toList.drop a).take n := by
  have gen : ∀ n, a + n ≤ S.size → ∀ i, i < n → (beL n (beV S a n))[i]? = S.data.toList[a + i]? := by
    intro n
    induction n with
    | zero => intro _ i hi; omega
    | succ n ih =>
      intro hn i hi
      have hlen : S.data.toList.length = S.size := by simp
      have hget : S.data.toList[a + i]? = some (UInt8.ofNat (byteAt S (a + i))) := by
        unfold byteAt
        have hlt : a + i < S.data.toList.length := by omega
        rw [List.getD_eq_getElem?_getD, List.getElem?_eq_getElem hlt]
        simp
      rw [hget, beL_get _ _ _ hi]
      congr 1
      have hb := byteAt_lt S (a + n)
      rcases Nat.lt_or_ge i n with h | h
      · have e := ih (by omega) i h
        rw [hget, beL_get _ _ _ h] at e
        have e2 : n + 1 - 1 - i = (n - 1 - i) + 1 := by omega
        have e3 : beV S a (n + 1) / 256 ^ (n - 1 - i + 1) = beV S a n / 256 ^ (n - 1 - i) := by
          rw [Nat.pow_succ, Nat.mul_comm, ← Nat.div_div_eq_div_mul, beV]
          congr 1; omega
        rw [e2, e3]
        exact Option.some.inj e
      · have : i = n := by omega
        subst this
        rw [Nat.add_sub_cancel, Nat.sub_self, Nat.pow_zero, Nat.div_one, beV]
        congr 1; omega
  intro n hn
  apply List.ext_getElem?
  intro i
  rcases Nat.lt_or_ge i n with h | h
  · rw [gen n hn i h, List.getElem?_take, if_pos h, List.getElem?_drop]
  · rw [List.getElem?_eq_none (by rw [beL_len]; exact h), List.getElem?_eq_none (by simp; omega)]
end Go.Ab.T
namespace Go.Ab.T
open Go Go.Ab
abbrev RS := Int × Err
def hM (s : ByteArray) (c : Int) (x : RS) : RS := (rdAt s x.1 1 x.2, needE (rdE s x.1 1 1 x.2) (rdV s x.1 1 x.2 == c) 1 3 x.1)
def hR (s : ByteArray) (n : Int) (x : RS) : RS := (rdAt s x.1 n x.2, rdE s x.1 n 1 x.2)
def hN (s : ByteArray) (n lo hi : Int) (x : RS) : RS := (rdAt s x.1 n x.2, needE (rdE s x.1 n 1 x.2) (decide (rdV s x.1 n x.2 ≥ lo) && decide (rdV s x.1 n x.2 ≤ hi)) 1 8 x.1)
def hx4 (s : ByteArray) (x : RS) : RS := hM s 49 (hM s 77 (hM s 87 (hM s 67 x)))
def hx5 (s : ByteArray) (x : RS) : RS := hR s 4 (hx4 s x)
def hx6 (s : ByteArray) (x : RS) : RS := hR s 8 (hx5 s x)
def hx7 (s : ByteArray) (x : RS) : RS := hR s 1 (hx6 s x)
def hx8 (s : ByteArray) (x : RS) : RS := hN s 1 1 32 (hx7 s x)
def hx9 (s : ByteArray) (x : RS) : RS := hN s 1 1 16 (hx8 s x)
def hx10 (s : ByteArray) (x : RS) : RS := hN s 2 0 240 (hx9 s x)
def hx11 (s : ByteArray) (x : RS) : RS := hN s 2 0 512 (hx10 s x)
def hIn (s : ByteArray) (x : RS) : Prop := 0 ≤ x.1 ∧ x.1 ≤ (s.size : Int)
def hV (s : ByteArray) (n : Int) (x y : RS) : Int := bif x.2.isNil then rdV s y.1 n y.2 else 0
theorem hIn.m {s : ByteArray} {x : RS} (c : Int) (h : hIn s x) : hIn s (hM s c x) := rdAt_le h.1 h.2 (by omega)
theorem hIn.r {s : ByteArray} {x : RS} {n : Int} (hn : 0 ≤ n) (h : hIn s x) : hIn s (hR s n x) := rdAt_le h.1 h.2 hn
theorem hIn.n {s : ByteArray} {x : RS} {n lo hi : Int} (hn : 0 ≤ n) (h : hIn s x) : hIn s (hN s n lo hi x) := rdAt_le h.1 h.2 hn
end Go.Ab.T
namespace Go.Ab.T
open Go Go.Ab
def mostQ (i : Int) : Int := bif i == 1 then 32 else bif i == 2 then 16 else bif i == 3 then 240 else bif i == 4 then 512 else 0
/-- May the i-th count of a header be? -/
def fineQ (i n : Int) : Bool := decide (n ≤ mostQ i) && (decide (n ≥ 1) || (decide (i ≥ 3) && (n == 0)))
theorem mostQ_get {i y : Int} (h0 : 0 ≤ i) (h1 : i < 5) (hy : ([0, 32, 16, 240, 512] : List Int)[i.toNat]? = some y) : y = mostQ i := by
  have : i = 0 ∨ i = 1 ∨ i = 2 ∨ i = 3 ∨ i = 4 := by omega
  rcases this with rfl | rfl | rfl | rfl | rfl <;> exact (Option.some.inj hy).symm
theorem fineQ_1 {v : Int} (h : 0 ≤ v) : fineQ 1 v = (decide (v ≥ 1) && decide (v ≤ 32)) := by
  have e : mostQ 1 = 32 := rfl
  have e2 : decide ((1 : Int) ≥ 3) = false := rfl
  unfold fineQ; rw [e, e2, Bool.false_and, Bool.or_false, Bool.and_comm]
theorem fineQ_2 {v : Int} (h : 0 ≤ v) : fineQ 2 v = (decide (v ≥ 1) && decide (v ≤ 16)) := by
  have e : mostQ 2 = 16 := rfl
  have e2 : decide ((2 : Int) ≥ 3) = false := rfl
  unfold fineQ; rw [e, e2, Bool.false_and, Bool.or_false, Bool.and_comm]
theorem fineQ_hi {i v m : Int} (h : 0 ≤ v) (hi : decide (i ≥ 3) = true) (e : mostQ i = m) : fineQ i v = (decide (v ≥ 0) && decide (v ≤ m)) := by
  unfold fineQ; rw [e, hi, Bool.true_and]
  have h1 : (decide (v ≥ 1) || v == 0) = true := by
    rw [Bool.or_eq_true, decide_eq_true_eq, beq_iff_eq]; omega
  have h2 : decide (v ≥ 0) = true := decide_eq_true h
  rw [h1, h2, Bool.and_true, Bool.true_and]
theorem fineQ_3 {v : Int} (h : 0 ≤ v) : fineQ 3 v = (decide (v ≥ 0) && decide (v ≤ 240)) := fineQ_hi h rfl rfl
theorem fineQ_4 {v : Int} (h : 0 ≤ v) : fineQ 4 v = (decide (v ≥ 0) && decide (v ≤ 512)) := fineQ_hi h rfl rfl
end Go.Ab.T
namespace Go.Ab.T
open Go Go.Ab
theorem fineQ_1' {v : Int} : fineQ 1 v = (decide (v ≥ 1) && decide (v ≤ 32)) := by
  have e : mostQ 1 = 32 := rfl
  have e2 : decide ((1 : Int) ≥ 3) = false := rfl
  unfold fineQ; rw [e, e2, Bool.false_and, Bool.or_false, Bool.and_comm]
theorem fineQ_2' {v : Int} : fineQ 2 v = (decide (v ≥ 1) && decide (v ≤ 16)) := by
  have e : mostQ 2 = 16 := rfl
  have e2 : decide ((2 : Int) ≥ 3) = false := rfl
  unfold fineQ; rw [e, e2, Bool.false_and, Bool.or_false, Bool.and_comm]
theorem fineQ_hi' {i v m : Int} (hi : decide (i ≥ 3) = true) (e : mostQ i = m) : fineQ i v = (decide (v ≥ 0) && decide (v ≤ m)) := by
  unfold fineQ; rw [e, hi, Bool.true_and]
  have h1 : (decide (v ≥ 1) || v == 0) = decide (v ≥ 0) := by
    rw [Bool.eq_iff_iff, Bool.or_eq_true, decide_eq_true_eq, beq_iff_eq, decide_eq_true_eq]; omega
  rw [h1, Bool.and_comm]
theorem fineQ_3' {v : Int} : fineQ 3 v = (decide (v ≥ 0) && decide (v ≤ 240)) := fineQ_hi' rfl rfl
theorem fineQ_4' {v : Int} : fineQ 4 v = (decide (v ≥ 0) && decide (v ≤ 512)) := fineQ_hi' rfl rfl
/-- What is wrong with a header. -/
def hdrE (f p s r a : Int) : Err :=
  bif decide (f < 0) || decide (f > 255) then .sec 1 (.plc 0 (.cls 18)) else
  bif !fineQ 1 p then .sec 1 (.plc 1 (.cls 8)) else bif !fineQ 2 s then .sec 1 (.plc 2 (.cls 8)) else
  bif !fineQ 3 r then .sec 1 (.plc 3 (.cls 8)) else bif !fineQ 4 a then .sec 1 (.plc 4 (.cls 8)) else .nil
def hdrOk (h0 h1 h2 h3 h4 h5 h6 : Int) : Prop := (0 ≤ h0 ∧ h0 < 4294967296 ∧ 0 ≤ h1 ∧ h1 < 18446744073709551616) ∧ (hdrE h2 h3 h4 h5 h6).isNil = true
def hdrL (h0 h1 h2 h3 h4 h5 h6 : Int) : List UInt8 := [67, 87, 77, 49] ++ (beL 4 h0.toNat ++ (beL 8 h1.toNat ++ (beL 1 h2.toNat ++ (beL 1 h3.toNat ++ (beL 1 h4.toNat ++ (beL 2 h5.toNat ++ beL 2 h6.toNat))))))
theorem hdrE_good (f p s r a : Int) : GoodE (hdrE f p s r a) := by
  unfold hdrE
  cases decide (f < 0) || decide (f > 255) <;> cases fineQ 1 p <;> cases fineQ 2 s <;> cases fineQ 3 r <;> cases fineQ 4 a <;> first | exact .nil | exact .spc _ _ _ rfl
theorem hdrE_ok {f p s r a : Int} (h : (hdrE f p s r a).isNil = true) : (decide (f < 0) || decide (f > 255)) = false ∧ fineQ 1 p = true ∧ fineQ 2 s = true ∧ fineQ 3 r = true ∧ fineQ 4 a = true := by
  unfold hdrE at h
  cases c1 : decide (f < 0) || decide (f > 255) <;> cases c2 : fineQ 1 p <;> cases c3 : fineQ 2 s <;> cases c4 : fineQ 3 r <;> cases c5 : fineQ 4 a <;> simp only [c1, c2, c3, c4, c5] at h <;> first | exact ⟨rfl, rfl, rfl, rfl, rfl⟩ | cases h
theorem hdrOk_bounds {h0 h1 h2 h3 h4 h5 h6 : Int} (h : hdrOk h0 h1 h2 h3 h4 h5 h6) : (0 ≤ h0 ∧ h0 < 4294967296 ∧ 0 ≤ h1 ∧ h1 < 18446744073709551616) ∧ (0 ≤ h2 ∧ h2 < 256) ∧ (0 ≤ h3 ∧ h3 < 256) ∧ (0 ≤ h4 ∧ h4 < 256) ∧ (0 ≤ h5 ∧ h5 < 65536) ∧ 0 ≤ h6 ∧ h6 < 65536 := by
  obtain ⟨h, hn⟩ := h
  obtain ⟨c1, c2, c3, c4, c5⟩ := hdrE_ok hn
  rw [fineQ_1'] at c2
  rw [fineQ_2'] at c3
  rw [fineQ_3'] at c4
  rw [fineQ_4'] at c5
  simp only [Bool.or_eq_false_iff, Bool.and_eq_true, decide_eq_true_eq, decide_eq_false_iff_not] at c1 c2 c3 c4 c5
  exact ⟨h, by omega, by omega, by omega, by omega, by omega⟩
theorem hdr_text (h0 h1 h2 h3 h4 h5 h6 : Int) : (ByteArray.mk #[67, 87, 77, 49] ++ ByteArray.mk (beL 4 h0.toNat).toArray ++ ByteArray.mk (beL 8 h1.toNat).toArray ++ ByteArray.mk (beL 1 h2.toNat).toArray ++ ByteArray.mk (beL 1 h3.toNat).toArray ++ ByteArray.mk (beL 1 h4.toNat).toArray ++ ByteArray.mk (beL 2 h5.toNat).toArray ++ ByteArray.mk (beL 2 h6.toNat).toArray) = ByteArray.mk (hdrL h0 h1 h2 h3 h4 h5 h6).toArray := by
  apply ByteArray.ext; apply Array.ext'
  simp [hdrL]
def putAll (l : List UInt8) (zs : List (Int × Int)) : List UInt8 := zs.foldl (fun l y => putV l y.1 y.2) l
theorem putV_len (l : List UInt8) (v n : Int) : (putV l v n).length ≤ l.length + 8 := by
  unfold putV
  cases h : fitsV v n with
  | false => show l.length ≤ _; omega
  | true =>
    show (l ++ beL n.toNat v.toNat).length ≤ _
    rw [List.length_append, beL_len]
    rcases sizeOk_cases (fitsV_size h) with h | h | h | h <;> omega
theorem putV_ok (l : List UInt8) {v n : Int} (hn : sizeOk n = true) (hv : v < ((256 ^ n.toNat : Nat) : Int)) : putV l v n = l ++ beL n.toNat v.toNat := by
  unfold putV fitsV; rw [hn, decide_eq_true hv]; rfl
theorem putAll_hdr {l : List UInt8} {h0 h1 h2 h3 h4 h5 h6 : Int} (a0 : 0 ≤ h0) (a1 : h0 < 4294967296) (a2 : 0 ≤ h1) (a3 : h1 < 18446744073709551616) (b2 : 0 ≤ h2 ∧ h2 < 256) (b3 : 0 ≤ h3 ∧ h3 < 256) (b4 : 0 ≤ h4 ∧ h4 < 256) (b5 : 0 ≤ h5 ∧ h5 < 65536) (b6 : 0 ≤ h6 ∧ h6 < 65536) :
    putAll (l ++ [67, 87, 77, 49]) [(h0, 4), (h1, 8), (h2, 1), (h3, 1), (h4, 1), (h5, 2), (h6, 2)] = l ++ hdrL h0 h1 h2 h3 h4 h5 h6 := by
  have p1 : ((256 ^ Int.toNat 1 : Nat) : Int) = 256 := by decide
  have p2 : ((256 ^ Int.toNat 2 : Nat) : Int) = 65536 := by decide
  have p4 : ((256 ^ Int.toNat 4 : Nat) : Int) = 4294967296 := by decide
  have p8 : ((256 ^ Int.toNat 8 : Nat) : Int) = 18446744073709551616 := by decide
  unfold putAll
  simp only [List.foldl_cons, List.foldl_nil]
  rw [putV_ok _ rfl (by rw [p2]; omega), putV_ok _ rfl (by rw [p2]; omega), putV_ok _ rfl (by rw [p1]; omega), putV_ok _ rfl (by rw [p1]; omega), putV_ok _ rfl (by rw [p1]; omega), putV_ok _ rfl (by rw [p8]; omega), putV_ok _ rfl (by rw [p4]; omega)]
  unfold hdrL
  have e1 : Int.toNat 1 = 1 := rfl
  have e2 : Int.toNat 2 = 2 := rfl
  have e4 : Int.toNat 4 = 4 := rfl
  have e8 : Int.toNat 8 = 8 := rfl
  rw [e1, e2, e4, e8]
  simp only [List.append_assoc]
/-- A header's bytes are read as it was. -/
theorem hdr_back {h0 h1 h2 h3 h4 h5 h6 : Int} (h : hdrOk h0 h1 h2 h3 h4 h5 h6) :
    hx11 ⟨(hdrL h0 h1 h2 h3 h4 h5 h6).toArray⟩ (0, .nil) = (23, .nil) ∧
    hV ⟨(hdrL h0 h1 h2 h3 h4 h5 h6).toArray⟩ 4 (hx11 ⟨(hdrL h0 h1 h2 h3 h4 h5 h6).toArray⟩ (0, .nil)) (hx4 ⟨(hdrL h0 h1 h2 h3 h4 h5 h6).toArray⟩ (0, .nil)) = h0 ∧
    hV ⟨(hdrL h0 h1 h2 h3 h4 h5 h6).toArray⟩ 8 (hx11 ⟨(hdrL h0 h1 h2 h3 h4 h5 h6).toArray⟩ (0, .nil)) (hx5 ⟨(hdrL h0 h1 h2 h3 h4 h5 h6).toArray⟩ (0, .nil)) = h1 ∧
    hV ⟨(hdrL h0 h1 h2 h3 h4 h5 h6).toArray⟩ 1 (hx11 ⟨(hdrL h0 h1 h2 h3 h4 h5 h6).toArray⟩ (0, .nil)) (hx6 ⟨(hdrL h0 h1 h2 h3 h4 h5 h6).toArray⟩ (0, .nil)) = h2 ∧
    hV ⟨(hdrL h0 h1 h2 h3 h4 h5 h6).toArray⟩ 1 (hx11 ⟨(hdrL h0 h1 h2 h3 h4 h5 h6).toArray⟩ (0, .nil)) (hx7 ⟨(hdrL h0 h1 h2 h3 h4 h5 h6).toArray⟩ (0, .nil)) = h3 ∧
    hV ⟨(hdrL h0 h1 h2 h3 h4 h5 h6).toArray⟩ 1 (hx11 ⟨(hdrL h0 h1 h2 h3 h4 h5 h6).toArray⟩ (0, .nil)) (hx8 ⟨(hdrL h0 h1 h2 h3 h4 h5 h6).toArray⟩ (0, .nil)) = h4 ∧
    hV ⟨(hdrL h0 h1 h2 h3 h4 h5 h6).toArray⟩ 2 (hx11 ⟨(hdrL h0 h1 h2 h3 h4 h5 h6).toArray⟩ (0, .nil)) (hx9 ⟨(hdrL h0 h1 h2 h3 h4 h5 h6).toArray⟩ (0, .nil)) = h5 ∧
    hV ⟨(hdrL h0 h1 h2 h3 h4 h5 h6).toArray⟩ 2 (hx11 ⟨(hdrL h0 h1 h2 h3 h4 h5 h6).toArray⟩ (0, .nil)) (hx10 ⟨(hdrL h0 h1 h2 h3 h4 h5 h6).toArray⟩ (0, .nil)) = h6 := by
  obtain ⟨⟨a0, a1, a2, a3⟩, b2, b3, b4, b5, b6⟩ := hdrOk_bounds h
  obtain ⟨c1, c2, c3, c4, c5⟩ := hdrE_ok h.2
  have hS := Has.whole (hdrL h0 h1 h2 h3 h4 h5 h6)
  generalize hSS : (ByteArray.mk (hdrL h0 h1 h2 h3 h4 h5 h6).toArray) = S at *
  clear hSS
  unfold hdrL at hS
  have m0 : Has S 0 (beL 1 67) := hS.left.left (l := [67]) (m := [87, 77, 49])
  have m1 : Has S 1 (beL 1 87) := (hS.left.right (l := [67]) (m := [87, 77, 49])).left (l := [87]) (m := [77, 49])
  have m2 : Has S 2 (beL 1 77) := (hS.left.right (l := [67, 87]) (m := [77, 49])).left (l := [77]) (m := [49])
  have m3 : Has S 3 (beL 1 49) := hS.left.right (l := [67, 87, 77]) (m := [49])
  have q4 := hS.right' (b := 4) rfl
  have q8 := q4.right' (b := 8) (by rw [beL_len])
  have q16 := q8.right' (b := 16) (by rw [beL_len])
  have q17 := q16.right' (b := 17) (by rw [beL_len])
  have q18 := q17.right' (b := 18) (by rw [beL_len])
  have q19 := q18.right' (b := 19) (by rw [beL_len])
  have q21 := q19.right' (b := 21) (by rw [beL_len])
  obtain ⟨r0, r0', r0''⟩ := m0.rd (by decide) (x := 0) (y := 1) rfl rfl
  obtain ⟨r1, r1', r1''⟩ := m1.rd (by decide) (x := 1) (y := 1) rfl rfl
  obtain ⟨r2, r2', r2''⟩ := m2.rd (by decide) (x := 2) (y := 1) rfl rfl
  obtain ⟨r3, r3', r3''⟩ := m3.rd (by decide) (x := 3) (y := 1) rfl rfl
  have p1 : 256 ^ 1 = 256 := by decide
  have p2 : 256 ^ 2 = 65536 := by decide
  have p4 : 256 ^ 4 = 4294967296 := by decide
  have p8 : 256 ^ 8 = 18446744073709551616 := by decide
  obtain ⟨r4, r4', r4''⟩ := q4.left.rd (by rw [p4]; omega) (x := 4) (y := 4) rfl rfl
  obtain ⟨r8, r8', r8''⟩ := q8.left.rd (by rw [p8]; omega) (x := 8) (y := 8) rfl rfl
  obtain ⟨r16, r16', r16''⟩ := q16.left.rd (by rw [p1]; omega) (x := 16) (y := 1) rfl rfl
  obtain ⟨r17, r17', r17''⟩ := q17.left.rd (by rw [p1]; omega) (x := 17) (y := 1) rfl rfl
  obtain ⟨r18, r18', r18''⟩ := q18.left.rd (by rw [p1]; omega) (x := 18) (y := 1) rfl rfl
  obtain ⟨r19, r19', r19''⟩ := q19.left.rd (by rw [p2]; omega) (x := 19) (y := 2) rfl rfl
  obtain ⟨r21, r21', r21''⟩ := q21.rd (by rw [p2]; omega) (x := 21) (y := 2) rfl rfl
  rw [Int.toNat_of_nonneg a0] at r4
  rw [Int.toNat_of_nonneg a2] at r8
  rw [Int.toNat_of_nonneg b2.1] at r16
  rw [Int.toNat_of_nonneg b3.1] at r17
  rw [Int.toNat_of_nonneg b4.1] at r18
  rw [Int.toNat_of_nonneg b5.1] at r19
  rw [Int.toNat_of_nonneg b6.1] at r21
  have e1 : hM S 67 (0, .nil) = (1, .nil) := by unfold hM; simp only; rw [r0, r0', r0'']; rfl
  have e2 : hM S 87 (1, .nil) = (2, .nil) := by unfold hM; simp only; rw [r1, r1', r1'']; rfl
  have e3 : hM S 77 (2, .nil) = (3, .nil) := by unfold hM; simp only; rw [r2, r2', r2'']; rfl
  have e4 : hM S 49 (3, .nil) = (4, .nil) := by unfold hM; simp only; rw [r3, r3', r3'']; rfl
  have x4 : hx4 S (0, .nil) = (4, .nil) := by unfold hx4; rw [e1, e2, e3, e4]
  have x5 : hx5 S (0, .nil) = (8, .nil) := by unfold hx5 hR; rw [x4]; simp only; rw [r4', r4'']; rfl
  have x6 : hx6 S (0, .nil) = (16, .nil) := by unfold hx6 hR; rw [x5]; simp only; rw [r8', r8'']; rfl
  have x7 : hx7 S (0, .nil) = (17, .nil) := by unfold hx7 hR; rw [x6]; simp only; rw [r16', r16'']; rfl
  rw [fineQ_1'] at c2
  rw [fineQ_2'] at c3
  rw [fineQ_3'] at c4
  rw [fineQ_4'] at c5
  have x8 : hx8 S (0, .nil) = (18, .nil) := by unfold hx8 hN; rw [x7]; simp only; rw [r17, r17', r17'', c2]; rfl
  have x9 : hx9 S (0, .nil) = (19, .nil) := by unfold hx9 hN; rw [x8]; simp only; rw [r18, r18', r18'', c3]; rfl
  have x10 : hx10 S (0, .nil) = (21, .nil) := by unfold hx10 hN; rw [x9]; simp only; rw [r19, r19', r19'', c4]; rfl
  have x11 : hx11 S (0, .nil) = (23, .nil) := by unfold hx11 hN; rw [x10]; simp only; rw [r21, r21', r21'', c5]; rfl
  rw [x4, x5, x6, x7, x8, x9, x10, x11]
  exact ⟨rfl, r4, r8, r16, r17, r18, r19, r21⟩
end Go.Ab.T
namespace Go.Ab.T
open Go Go.Ab
def idU (v : Int) : Bool := decide (0 ≤ v) && decide (v ≤ 4294967295)
theorem idU_iff {v : Int} : idU v = true ↔ 0 ≤ v ∧ v ≤ 4294967295 := by unfold idU; rw [Bool.and_eq_true, decide_eq_true_eq, decide_eq_true_eq]
def stE (c n : Int) : Err := bif !idU c then .plc 0 (.cls 18) else bif !idU n then .plc 1 (.cls 18) else .nil
def stB (l c n : Int) : List UInt8 := beL 8 l.toNat ++ (beL 4 c.toNat ++ beL 4 n.toNat)
def outT (b : List UInt8) (l c n : Int) : List UInt8 := bif (stE c n).isNil then b ++ stB l c n else b
theorem stB_len (l c n : Int) : (stB l c n).length = 16 := by unfold stB; simp only [List.length_append, beL_len]
def gE (s : ByteArray) : Err := bif decide ((s.size : Int) < 16) then .plc (s.size : Int) (.cls 2) else bif decide ((s.size : Int) > 16) then .plc 16 (.cls 4) else .nil
def gL (s : ByteArray) : Int := bif (gE s).isNil then getV s 0 8 else 0
def gC (s : ByteArray) : Int := bif (gE s).isNil then getV s 8 4 else 0
def gN (s : ByteArray) : Int := bif (gE s).isNil then getV s 12 4 else 0
theorem getV_lt (s : ByteArray) (a : Int) (n : Nat) : 0 ≤ getV s a n ∧ getV s a n < ((256 ^ n : Nat) : Int) := by
  unfold getV
  have h1 := beV_lt s a.toNat n
  cases getOk s a n with
  | false => show (0 : Int) ≤ 0 ∧ (0 : Int) < ((256 ^ n : Nat) : Int); omega
  | true =>
    show 0 ≤ (beV s a.toNat (n : Int).toNat : Int) ∧ (beV s a.toNat (n : Int).toNat : Int) < ((256 ^ n : Nat) : Int)
    rw [Int.toNat_natCast]; omega
theorem gE_nil {s : ByteArray} (h : s.size = 16) : gE s = .nil := by
  unfold gE
  rw [decide_eq_false (by omega), decide_eq_false (by omega)]; rfl
theorem getV_at {s : ByteArray} {a n : Nat} (hn : sizeOk (n : Int) = true) (h : a + n ≤ s.size) {x y : Int} (hx : x = (a : Int)) (hy : y = (n : Int)) : getV s x y = (beV s a n : Int) := by
  subst hx hy
  have : getOk s (a : Int) (n : Int) = true := by
    unfold getOk; rw [hn, decide_eq_true (by omega), decide_eq_true (by omega), decide_eq_true (by omega)]; rfl
  unfold getV; rw [this, Int.toNat_natCast, Int.toNat_natCast]; rfl
theorem st_text {s : ByteArray} (h : s.size = 16) : ByteArray.mk (stB (getV s 0 8) (getV s 8 4) (getV s 12 4)).toArray = s := by
  rw [getV_at (s := s) (a := 0) (n := 8) (x := 0) (y := 8) rfl (by omega) rfl rfl, getV_at (s := s) (a := 8) (n := 4) (x := 8) (y := 4) rfl (by omega) rfl rfl, getV_at (s := s) (a := 12) (n := 4) (x := 12) (y := 4) rfl (by omega) rfl rfl]
  unfold stB
  rw [Int.toNat_natCast, Int.toNat_natCast, Int.toNat_natCast, beL_beV s 0 8 (by omega), beL_beV s 8 4 (by omega), beL_beV s 12 4 (by omega)]
  apply ByteArray.ext; apply Array.ext'
  have hl : s.data.toList.length = 16 := by simp; exact h
  show List.take 8 (List.drop 0 s.data.toList) ++ (List.take 4 (List.drop 8 s.data.toList) ++ List.take 4 (List.drop 12 s.data.toList)) = s.data.toList
  have e1 : List.take 4 (List.drop 12 s.data.toList) = List.drop 4 (List.drop 8 s.data.toList) := by
    rw [List.drop_drop]; exact List.take_of_length_le (by rw [List.length_drop]; omega)
  rw [e1, List.take_append_drop, List.drop_zero, List.take_append_drop]
theorem st_back {l c n : Int} (hl : 0 ≤ l ∧ l < 18446744073709551616) (hc : idU c = true) (hn : idU n = true) :
    gE ⟨(stB l c n).toArray⟩ = .nil ∧ gL ⟨(stB l c n).toArray⟩ = l ∧ gC ⟨(stB l c n).toArray⟩ = c ∧ gN ⟨(stB l c n).toArray⟩ = n := by
  obtain ⟨c1, c2⟩ := idU_iff.1 hc
  obtain ⟨n1, n2⟩ := idU_iff.1 hn
  have hz : (ByteArray.mk (stB l c n).toArray).size = 16 := by rw [mk_size, stB_len]
  have hE := gE_nil hz
  have hS := Has.whole (stB l c n)
  generalize hSS : (ByteArray.mk (stB l c n).toArray) = S at *
  clear hSS
  unfold stB at hS
  have q8 := hS.right' (b := 8) (by rw [beL_len])
  have q12 := q8.right' (b := 12) (by rw [beL_len])
  have p4 : 256 ^ 4 = 4294967296 := by decide
  have p8 : 256 ^ 8 = 18446744073709551616 := by decide
  refine ⟨hE, ?_, ?_, ?_⟩
  · unfold gL; rw [hE]
    show getV S 0 8 = l
    rw [getV_at (s := S) (a := 0) (n := 8) (x := 0) (y := 8) rfl (by omega) rfl rfl, hS.left.num (by rw [p8]; omega)]; omega
  · unfold gC; rw [hE]
    show getV S 8 4 = c
    rw [getV_at (s := S) (a := 8) (n := 4) (x := 8) (y := 4) rfl (by omega) rfl rfl, q8.left.num (by rw [p4]; omega)]; omega
  · unfold gN; rw [hE]
    show getV S 12 4 = n
    rw [getV_at (s := S) (a := 12) (n := 4) (x := 12) (y := 4) rfl (by omega) rfl rfl, q12.num (by rw [p4]; omega)]; omega
theorem ofE_stE (c n : Int) : ofE (stE c n) = bif !idU c then (18, 0, 0) else bif !idU n then (18, 0, 1) else (0, 0, 0) := by
  unfold stE
  cases idU c <;> cases idU n <;> rfl
theorem stE_nil (c n : Int) : (stE c n).isNil = (idU c && idU n) := by
  unfold stE
  cases idU c <;> cases idU n <;> rfl
end Go.Ab.T
