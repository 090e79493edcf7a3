import Derived.Test.YtiflhpcbnnnddaaDoorAbC
import Derived.Test.YtiflhpcbnnnddaaDoorMaErr
import Derived.Deep.Slices
import Derived.WideShapes
import Derived.ChangeArms
import Derived.Laws.Strings
set_option linter.unusedVariables false
set_option linter.unusedSimpArgs false
namespace Go.Ab.T
open Go Go.Ab
def uCod : Cod := ⟨Unit, fun _ => .bool false, 1, fun _ => rfl, fun _ => rfl⟩
def e_api_Window (w : Int × Int × Int) : PV := .agg [.int .i64 w.1, .int .i64 w.2.1, .int .i64 w.2.2]
def c_api_Window : Cod := ⟨Int × Int × Int, e_api_Window, 3, fun _ => rfl, fun _ => rfl⟩
def e_api_Need (w : Int × Int × Int) : PV := .agg [.int .i64 w.1, .int .i64 w.2.1, .int .i64 w.2.2]
def c_api_Need : Cod := ⟨Int × Int × Int, e_api_Need, 3, fun _ => rfl, fun _ => rfl⟩
def e_int (w : Int) : PV := .int .i64 w
def c_int : Cod := ⟨Int, e_int, 1, fun _ => rfl, fun _ => rfl⟩
def e_countwheellaw05_Op (w : Int × Int × Int × Bool) : PV := .agg [.int .i64 w.1, .int .i64 w.2.1, .int .i64 w.2.2.1, .bool w.2.2.2]
def c_countwheellaw05_Op : Cod := ⟨Int × Int × Int × Bool, e_countwheellaw05_Op, 4, fun _ => rfl, fun _ => rfl⟩
def e_api_Cell (w : Int × Bool) : PV := .agg [.int .u32 w.1, .bool w.2]
def c_api_Cell : Cod := ⟨Int × Bool, e_api_Cell, 2, fun _ => rfl, fun _ => rfl⟩
def e_api_Pair (w : Int × Int) : PV := .agg [.int .i64 w.1, .int .i64 w.2]
def c_api_Pair : Cod := ⟨Int × Int, e_api_Pair, 2, fun _ => rfl, fun _ => rfl⟩
def e_api_Act (w : Int × Int × Int) : PV := .agg [.int .i64 w.1, .int .i64 w.2.1, .int .i64 w.2.2]
def c_api_Act : Cod := ⟨Int × Int × Int, e_api_Act, 3, fun _ => rfl, fun _ => rfl⟩
def e_uint8 (w : UInt8) : PV := .int .u8 w.toNat
def c_uint8 : Cod := ⟨UInt8, e_uint8, 1, fun _ => rfl, fun _ => rfl⟩
def e_string (w : ByteArray) : PV := .str w
def c_string : Cod := ⟨ByteArray, e_string, 1, fun _ => rfl, fun _ => rfl⟩
def e_error (w : Err) : PV := .err w
def c_error : Cod := ⟨Err, e_error, 1, fun _ => rfl, fun _ => rfl⟩
def e_abi_Method (w : Int × Int × Int × Int) : PV := .agg [.int .i32 w.1, .int .i32 w.2.1, .int .i32 w.2.2.1, .int .i32 w.2.2.2]
def c_abi_Method : Cod := ⟨Int × Int × Int × Int, e_abi_Method, 4, fun _ => rfl, fun _ => rfl⟩
def e_struct_v_uint64_n_int_ (w : Int × Int) : PV := .agg [.int .u64 w.1, .int .i64 w.2]
def c_struct_v_uint64_n_int_ : Cod := ⟨Int × Int, e_struct_v_uint64_n_int_, 2, fun _ => rfl, fun _ => rfl⟩
def e__3_int (w : Int × Int × Int) : PV := .agg [.int .i64 w.1, .int .i64 w.2.1, .int .i64 w.2.2]
def c__3_int : Cod := ⟨Int × Int × Int, e__3_int, 3, fun _ => rfl, fun _ => rfl⟩
def e_api_Partition (w : Int × ByteArray × Bool × (List (Int × Bool))) : PV := .agg [.int .i64 w.1, .str w.2.1, .bool w.2.2.1, .sl (Int × Bool) e_api_Cell w.2.2.2]
def c_api_Partition : Cod := ⟨Int × ByteArray × Bool × (List (Int × Bool)), e_api_Partition, 4, fun _ => rfl, fun _ => rfl⟩
def e_api_Schedule (w : Int × Int × (List (Int × Int × Int)) × (List (Int × Int × Int))) : PV := .agg [.int .i64 w.1, .int .i64 w.2.1, .sl (Int × Int × Int) e_api_Window w.2.2.1, .sl (Int × Int × Int) e_api_Need w.2.2.2]
def c_api_Schedule : Cod := ⟨Int × Int × (List (Int × Int × Int)) × (List (Int × Int × Int)), e_api_Schedule, 4, fun _ => rfl, fun _ => rfl⟩
end Go.Ab.T
namespace Go.Ab
/-- What evT shows of a place, by its normal form. -/
theorem Closed.nf {K : Codes} {C : Cfg K} {f : Fun} {k : List PV → Heap K → Prop} {A : KA K} (hA : Closed C f k A) {n : Nat} {force : Bool} {todo : List AItem} {env : List PV} {L : Heap K} {q : Prop}
    (h : evT C f A k n force todo env L = q) (hq : q) : A todo env L := hA n force todo env L (h ▸ hq)
end Go.Ab
namespace Go.Ab.T
open Go Go.Ab
theorem by_nf {p q : Prop} (h : p = q) (hq : q) : p := h ▸ hq
def nms : List ByteArray := [⟨#[]⟩, ⟨#[97, 114, 103, 117, 109, 101, 110, 116]⟩, ⟨#[115, 104, 111, 114, 116]⟩, ⟨#[109, 97, 103, 105, 99]⟩, ⟨#[108, 101, 110, 103, 116, 104]⟩, ⟨#[115, 117, 109]⟩, ⟨#[102, 111, 114, 109]⟩, ⟨#[110, 97, 109, 101]⟩, ⟨#[109, 97, 110, 121]⟩, ⟨#[111, 114, 100, 101, 114]⟩, ⟨#[114, 101, 102, 101, 114, 101, 110, 99, 101]⟩, ⟨#[119, 105, 110, 100, 111, 119]⟩, ⟨#[111, 118, 101, 114, 108, 97, 112]⟩, ⟨#[112, 101, 114, 105, 111, 100]⟩, ⟨#[98, 117, 100, 103, 101, 116]⟩, ⟨#[112, 97, 105, 114]⟩, ⟨#[104, 97, 108, 116]⟩, ⟨#[115, 116, 97, 116, 101]⟩, ⟨#[114, 97, 110, 103, 101]⟩]
/-- Is it a class? -/
def isCls (n : Int) : Bool := decide (1 ≤ n) && decide (n ≤ 18)
/-- A class's name. -/
def nameOf (n : Int) : ByteArray := bif isCls n then nms.getD n.toNat ⟨#[]⟩ else ⟨#[]⟩
theorem nms_len : nms.length = 19 := by decide
theorem nms_get {n : Int} (h : isCls n = true) {y : ByteArray} (hy : nms[n.toNat]? = some y) : nameOf n = y := by
  simp [nameOf, h, List.getD_eq_getElem?_getD, hy]
theorem nameOf_empty (n : Int) : ((nameOf n).toList == ByteArray.toList ⟨#[]⟩) = !isCls n := by
  rw [ByteArray.toList_eq, ByteArray.toList_eq]
  unfold nameOf
  cases h : isCls n with
  | false => rfl
  | true =>
    simp only [isCls, Bool.and_eq_true, decide_eq_true_eq] at h
    have key : ∀ k : Nat, k < 19 → 1 ≤ k → ((nms.getD k ⟨#[]⟩).data.toList == (⟨#[]⟩ : ByteArray).data.toList) = false := by decide
    exact key n.toNat (by omega) (by omega)
def newE (n : Int) : Err := bif isCls n then .cls n else .nil
def atE (n : Int) (e : Err) : Err := bif e.isNil then .nil else .plc n e
def inE (n : Int) (e : Err) : Err := bif e.isNil then .nil else .sec n e
theorem isNil_newE (n : Int) : (newE n).isNil = !isCls n := by
  unfold newE; cases isCls n <;> rfl
end Go.Ab.T
namespace Go.Ab.T
open Go Go.Ab
theorem down_loop {α : Type} (l : List α) (Q : Nat → Prop) (h0 : Q l.length) (hs : ∀ (i : Nat) (y : α), l[i]? = some y → Q (i + 1) → Q i) : ∀ i, i ≤ l.length → Q i := by
  have key : ∀ n i, i + n = l.length → Q i := by
    intro n
    induction n with
    | zero => intro i h; have : i = l.length := by omega
              subst this; exact h0
    | succ n ih =>
      intro i h
      have hlt : i < l.length := by omega
      exact hs i l[i] (List.getElem?_eq_getElem hlt) (ih (i + 1) (by omega))
  intro i hi
  exact key (l.length - i) i (by omega)
theorem downN (m : Nat) (Q : Nat → Prop) (h0 : Q m) (hs : ∀ i, i < m → Q (i + 1) → Q i) : ∀ i, i ≤ m → Q i := by
  have key : ∀ n i, i + n = m → Q i := by
    intro n
    induction n with
    | zero => intro i h; have : i = m := by omega
              subst this; exact h0
    | succ n ih => intro i h; exact hs i (by omega) (ih (i + 1) (by omega))
  intro i hi
  exact key (m - i) i (by omega)
theorem drop_cons' {α : Type} {l : List α} {i : Nat} {y : α} (h : l[i]? = some y) : l.drop i = y :: l.drop (i + 1) := by
  obtain ⟨h1, h2⟩ := List.getElem?_eq_some_iff.1 h
  rw [← h2]; exact List.drop_eq_getElem_cons h1
theorem lt_of_get {α : Type} {l : List α} {i : Nat} {y : α} (h : l[i]? = some y) : i < l.length := (List.getElem?_eq_some_iff.1 h).1
theorem ilt_true {a b : Nat} (h : a < b) : decide ((a : Int) < (b : Int)) = true := decide_eq_true (by omega)
theorem ilt_false {a b : Nat} (h : ¬ a < b) : decide ((a : Int) < (b : Int)) = false := decide_eq_false (by omega)
theorem get_at {α : Type} {l : List α} {i : Nat} {y : α} {p : α → Prop} (hy : l[i]? = some y) (h : p y) : (0 ≤ (i : Int) ∧ (i : Int) < (l.length : Int)) ∧ ∀ z, l[(i : Int).toNat]? = some z → p z := by
  have := lt_of_get hy
  refine ⟨⟨by omega, by omega⟩, fun z hz => ?_⟩
  rw [Int.toNat_natCast, hy] at hz
  cases hz; exact h
/-- The place in front of another one. -/
theorem get_at' {α : Type} {l : List α} {i : Nat} {x : Int} {y : α} {p : α → Prop} (hx : x = (i : Int)) (hy : l[i]? = some y) (h : p y) : (0 ≤ x ∧ x < (l.length : Int)) ∧ ∀ z, l[x.toNat]? = some z → p z := by
  subst hx; exact get_at hy h
theorem wrap_succ {i : Nat} (h : i < 4611686018427387904) : IntKind.i64.wrap ((i : Int) + 1) = ((i + 1 : Nat) : Int) := by
  rw [wrap_id _ (by omega) (by omega)]; omega
theorem wrap_nat {i : Nat} {x : Int} (hx : x = (i : Int)) (h : i < 4611686018427387904) : IntKind.i64.wrap x = (i : Int) := by
  subst hx; exact wrap_id _ (by omega) (by omega)
theorem mmI_max (a b : Int) : mmI true a b = max a b := by
  show (if b > a then b else a) = max a b
  split <;> omega
theorem mmI_min (a b : Int) : mmI false a b = min a b := by
  show (if b < a then b else a) = min a b
  split <;> omega
end Go.Ab.T
namespace Go.Ab.T
open Go Go.Ab Go.Deep Go.WideShapes Go.ChangeShapes

section
variable {P : Program} {I : Ids}
def NoM : Nat → Prop := fun _ => False

/-- What can be read as data of a type is told by values of another one. -/
structure Opens (P : Program) (I : Ids) (t : TypeId) {α : Type} (cells : α → List PV) (good : α → Prop) : Prop where
  get : ∀ {H : Type} (encH : TypeId × Value → H) (w : World) (base : Nat) (spare : Nat → Bool) (held : Bool) (fuel : Nat) (cs : List Value) (x : DataW H × List MemPlace),
    DataW.trod encH P w base spare held fuel t cs = some x → ∃ a, good a ∧ RepF.go I NoM w (cells a) cs

structure OpensF (P : Program) (I : Ids) (fs : List (TypeId × Nat)) (o n : Nat) {α : Type} (cells : α → List PV) (good : α → Prop) : Prop where
  get : ∀ {H : Type} (encH : TypeId × Value → H) (w : World) (base : Nat) (spare : Nat → Bool) (held : Bool) (fuel : Nat) (cs : List Value), cs.length = n →
    (∀ (j : Nat) (f : TypeId × Nat), fs[j]? = some f → ∃ y, DataW.trod encH P w base spare held fuel f.1 ((cs.drop (f.2 - o)).take (P.cellsOf f.1)) = some y) → ∃ a, good a ∧ RepF.go I NoM w (cells a) cs

theorem go_one {M : Nat → Prop} {w : World} {x : PV} {v : Value} (hx : x.isAgg = false) (hv : v.oneCell' = true) (h : RepF I M w x [v]) : RepF.go I M w [x] [v] := ⟨v, [], rfl, ⟨hx, hv⟩, h, rfl⟩
theorem go_append {M : Nat → Prop} {w : World} : ∀ {xs ys : List PV} {l m : List Value}, RepF.go I M w xs l → RepF.go I M w ys m → RepF.go I M w (xs ++ ys) (l ++ m)
  | [], _, l, m, h, h' => by simp only [RepF.go] at h; subst h; exact h'
  | x :: xs, ys, l, m, h, h' => by
    obtain ⟨v, r, rfl, h0, h1, h2⟩ := h
    exact ⟨v, r ++ m, rfl, h0, h1, go_append h2 h'⟩

theorem opens_int {t : TypeId} {k : IntKind} (ht : P.underlying t = some (.int k)) : Opens P I t (fun n : Int => [.int k n]) (fun n => (Lit.int k n).wf = true) := by
  refine ⟨?_⟩
  intro H encH w base spare held fuel cs x h
  obtain ⟨n, rfl, _, hw⟩ := DataW.trod_int ht h
  exact ⟨n, hw, go_one rfl rfl rfl⟩
theorem opens_u8 {t : TypeId} (ht : P.underlying t = some (.int .u8)) : Opens P I t (fun n : UInt8 => [.int .u8 n.toNat]) (fun _ => True) := by
  refine ⟨?_⟩
  intro H encH w base spare held fuel cs x h
  obtain ⟨n, rfl, _, hw⟩ := DataW.trod_int ht h
  have hn : 0 ≤ n ∧ n < 256 := by
    have : (decide (IntKind.u8.min ≤ n) && decide (n ≤ IntKind.u8.max)) = true := hw
    simp [IntKind.min, IntKind.max, IntKind.signed, IntKind.bits] at this
    omega
  refine ⟨UInt8.ofNat n.toNat, trivial, go_one rfl rfl ?_⟩
  show [Value.int .u8 n] = [Value.int .u8 ((UInt8.ofNat n.toNat).toNat : Int)]
  have : ((UInt8.ofNat n.toNat).toNat : Int) = n := by
    rw [UInt8.toNat_ofNat']; omega
  rw [this]
theorem opens_bool {t : TypeId} (ht : P.underlying t = some .bool) : Opens P I t (fun b : Bool => [.bool b]) (fun _ => True) := by
  refine ⟨?_⟩
  intro H encH w base spare held fuel cs x h
  obtain ⟨b, rfl, _⟩ := DataW.trod_bool ht h
  exact ⟨b, trivial, go_one rfl rfl rfl⟩
theorem opens_str {t : TypeId} (ht : P.underlying t = some .string) : Opens P I t (fun s : ByteArray => [.str s]) (fun s => s.size ≤ maxLen) := by
  refine ⟨?_⟩
  intro H encH w base spare held fuel cs x h
  obtain ⟨s, rfl, _, hs⟩ := DataW.trod_string ht h
  exact ⟨s, hs, go_one rfl rfl rfl⟩

theorem add_none {a : Addr} (h : a.spot = none) (n : Nat) : a.add n = ⟨a.block, a.off + n, none⟩ := by
  unfold Addr.add
  split
  · rename_i h0; subst h0; cases a; simp_all
  · rfl
theorem cell_some {w : World} {a : Addr} {v : Value} (h : w.cell? a = some v) : a.spot = none ∧ ∃ cells t fr, w.heap[a.block]? = some (.cells cells t fr) ∧ cells[a.off]? = some v := by
  unfold World.cell? at h
  split at h
  · rename_i c t fr hh
    split at h
    · cases h
    · rename_i hs
      exact ⟨by simpa using hs, c, t, fr, hh, h⟩
  · cases h

theorem opens_slice {t e : TypeId} {s : Nat} (ht : P.underlying t = some (.slice e)) (hC : P.cellsOf e = s) (hs : Nat.blt 0 s = true) {α : Type} {enc : α → PV} {cells : α → List PV} {good : α → Prop}
    (henc : ∀ (w : World) a cs, RepF.go I NoM w (cells a) cs → RepF I NoM w (enc a) cs) (ho : Opens P I e cells good) :
    Opens P I t (fun l : List α => [.sl α enc l]) (fun l => l.length ≤ maxLen ∧ ∀ a, a ∈ l → good a) := by
  refine ⟨?_⟩
  intro H encH w base spare held fuel cs x h
  have hs : 0 < s := by rwa [Nat.blt_eq] at hs
  rcases open_slice ht h with ⟨rfl, _⟩ | ⟨a, len, cap, m, n, D, Pl, rfl, _, hlc, hcm, hm, _, hel⟩
  · exact ⟨[], ⟨Nat.zero_le _, fun a h => by cases h⟩, go_one rfl rfl ⟨none, 0, rfl, Nat.le_refl _, .inl rfl⟩⟩
  · rw [hC] at hel
    have hml : len ≤ m := by rw [hm]; split <;> omega
    have each : ∀ i, i < len → ∃ (y : α) (cs' : List Value), good y ∧ RepF.go I NoM w (cells y) cs' ∧ cs'.length = s ∧ ∀ j, j < s → w.cell? ((a.add (i * s)).add j) = cs'[j]? := by
      intro i hi
      obtain ⟨cs', h1, h2⟩ := hel i (by omega)
      obtain ⟨_, h3, h4⟩ := World.cells?_some h1
      obtain ⟨y, hy, hr⟩ := ho.get encH w base spare held n cs' _ h2
      exact ⟨y, cs', hy, hr, h3, h4⟩
    have mk : ∀ k, k ≤ len → ∃ l : List α, l.length = k ∧ (∀ i y, l[i]? = some y → ∃ cs' : List Value, good y ∧ RepF.go I NoM w (cells y) cs' ∧ cs'.length = s ∧ ∀ j, j < s → w.cell? ((a.add (i * s)).add j) = cs'[j]?) := by
      intro k
      induction k with
      | zero => intro _; exact ⟨[], rfl, fun i y h => by simp at h⟩
      | succ k ih =>
        intro hk
        obtain ⟨l, hl, hall⟩ := ih (by omega)
        obtain ⟨y, cs', hy⟩ := each k (by omega)
        refine ⟨l ++ [y], by simp [hl], fun i z hz => ?_⟩
        rcases Nat.lt_or_ge i l.length with hi | hi
        · rw [List.getElem?_append_left hi] at hz; exact hall i z hz
        · rw [List.getElem?_append_right hi] at hz
          have : i - l.length = 0 := by
            rcases Nat.eq_zero_or_pos (i - l.length) with h | h
            · exact h
            · rw [List.getElem?_eq_none (by simp; omega)] at hz; cases hz
          rw [this] at hz
          simp at hz
          subst hz
          have : i = k := by omega
          subst this
          exact ⟨cs', hy⟩
    obtain ⟨l, hl, hall⟩ := mk len (Nat.le_refl _)
    refine ⟨l, ⟨by omega, fun y hy => ?_⟩, go_one rfl rfl ⟨some a, cap, by rw [hl], by omega, ?_⟩⟩
    · obtain ⟨i, hi⟩ := List.mem_iff_getElem?.1 hy
      obtain ⟨_, h1, _⟩ := hall i y hi
      exact h1
    · rcases Nat.eq_zero_or_pos len with h0 | h0
      · left; exact List.eq_nil_of_length_eq_zero (by omega)
      · right
        obtain ⟨y0, hy0⟩ : ∃ y, l[0]? = some y := ⟨l[0]'(by omega), List.getElem?_eq_getElem (by omega)⟩
        obtain ⟨cs0, _, _, hlen0, hc0⟩ := hall 0 y0 hy0
        have hc00 := hc0 0 hs
        rw [List.getElem?_eq_getElem (by omega)] at hc00
        have ha0 : (a.add (0 * s)).add 0 = a := by rw [Nat.zero_mul]; rfl
        rw [ha0] at hc00
        obtain ⟨hsp, cells0, t0, fr0, hh, _⟩ := cell_some hc00
        refine ⟨a.block, a.off, s, cells0, t0, fr0, by cases a; simp_all, hs, fun h => h, hh, fun i y hi => ?_⟩
        obtain ⟨cs', _, hr, hlen, hcell⟩ := hall i y hi
        refine ⟨cs', hlen, henc w y cs' hr, fun j v hj => ?_⟩
        have hjs : j < s := by rw [← hlen]; exact (List.getElem?_eq_some_iff.1 hj).1
        have hc := hcell j hjs
        rw [hj, add_none hsp, add_none (by rfl)] at hc
        obtain ⟨_, c2, t2, fr2, hh2, hv2⟩ := cell_some hc
        simp only at hh2 hv2
        rw [hh] at hh2
        cases hh2
        exact hv2

theorem opensF_one {t : TypeId} {o n : Nat} {α : Type} {cells : α → List PV} {good : α → Prop} (hn : P.cellsOf t = n) (h : Opens P I t cells good) : OpensF P I [(t, o)] o n cells good := by
  refine ⟨?_⟩
  intro H encH w base spare held fuel cs hlen hall
  obtain ⟨y, hy⟩ := hall 0 _ rfl
  simp only at hy
  rw [Nat.sub_self, List.drop_zero, hn, ← hlen, List.take_length] at hy
  exact h.get encH w base spare held fuel cs y hy
theorem opensF_cons {t : TypeId} {fs : List (TypeId × Nat)} {o c n : Nat} {α β : Type} {cells : α → List PV} {good : α → Prop} {cells2 : β → List PV} {good2 : β → Prop} (hc : P.cellsOf t = c)
    (h : Opens P I t cells good) (hoff : (fs.all fun g => Nat.ble (o + c) g.2) = true) (h2 : OpensF P I fs (o + c) n cells2 good2) :
    OpensF P I ((t, o) :: fs) o (c + n) (fun x : α × β => cells x.1 ++ cells2 x.2) (fun x => good x.1 ∧ good2 x.2) := by
  refine ⟨?_⟩
  intro H encH w base spare held fuel cs hlen hall
  obtain ⟨y, hy⟩ := hall 0 _ rfl
  simp only at hy
  rw [Nat.sub_self, List.drop_zero, hc] at hy
  obtain ⟨a, ha, hra⟩ := h.get encH w base spare held fuel _ y hy
  obtain ⟨b, hb, hrb⟩ := h2.get encH w base spare held fuel (cs.drop c) (by rw [List.length_drop, hlen]; omega) (fun j g hg => by
    obtain ⟨z, hz⟩ := hall (j + 1) g hg
    have hge : o + c ≤ g.2 := by
      have := List.all_eq_true.1 hoff g (List.mem_of_getElem? hg)
      exact Nat.le_of_ble_eq_true this
    refine ⟨z, ?_⟩
    rw [List.drop_drop, show c + (g.2 - (o + c)) = g.2 - o by omega]
    exact hz)
  refine ⟨(a, b), ⟨ha, hb⟩, ?_⟩
  have := go_append hra hrb
  rwa [List.take_append_drop] at this
theorem opens_struct {t : TypeId} {fs : Array Field} {ps : List (TypeId × Nat)} {n : Nat} (ht : P.underlying t = some (.struct fs)) (hps : fs.toList.map (fun f => (f.type, f.offset)) = ps) (hn : P.cellsOf t = n) {α : Type} {cells : α → List PV} {good : α → Prop}
    (h : OpensF P I ps 0 n cells good) : Opens P I t cells good := by
  refine ⟨?_⟩
  intro H encH w base spare held fuel cs x hx
  obtain ⟨xs, m, _, _, hlen, hsz, hall⟩ := DataW.trod_struct ht hx
  refine h.get encH w base spare held m cs (by rw [hlen, hn]) (fun j f hj => ?_)
  rw [← hps, List.getElem?_map] at hj
  obtain ⟨g, hg, rfl⟩ := Option.map_eq_some_iff.1 hj
  have hj' : fs[j]? = some g := by rw [← Array.getElem?_toList]; exact hg
  have h1 := hall j g hj'
  have hjlt : j < xs.length := by rw [hsz]; exact (Array.getElem?_eq_some_iff.1 hj').1
  rw [List.getElem?_eq_getElem hjlt] at h1
  simp only [Nat.sub_zero]
  exact ⟨_, h1⟩

/-- An argument. -/
theorem Opens.arg {t : TypeId} {α : Type} {enc : α → PV} {cells : α → List PV} {good : α → Prop} (ho : Opens P I t cells good) (hagg : ∀ a, (enc a).isAgg = (match P.underlying t with | some (.struct _) | some (.array _ _) => true | _ => false))
    (henc : ∀ (w : World) a cs, RepF.go I NoM w (cells a) cs → RepF I NoM w (enc a) cs) {H : Type} {encH : TypeId × Value → H} {w W : World} {base : Nat} {spare : Nat → Bool} {held : Bool} {r : Reach} {b0 : Nat} {v : Value} {d : DataW H} {ps : List MemPlace}
    (hv : Value.okWide P W r b0 t v) (h : DataW.Trod encH P w base spare held t v d ps) : ∃ a, good a ∧ RepF I NoM w (enc a) v.cells.toList ∧ isAggV v = (enc a).isAgg := by
  obtain ⟨fuel, h⟩ := h
  obtain ⟨a, ha, hr⟩ := ho.get encH w base spare held fuel _ _ h
  refine ⟨a, ha, henc w a _ hr, ?_⟩
  rw [hagg]
  cases hu : P.underlying t with
  | none =>
    cases fuel with
    | zero => simp [DataW.trod] at h
    | succ n => simp [DataW.trod, hu] at h
  | some td =>
    have notag : ∀ {v : Value}, Value.okWide P W r b0 t v → (match some td with | some (.struct _) | some (.array _ _) => true | _ => false) = false → isAggV v = false := by
      intro v hv hq
      cases v with
      | agg cs =>
        exfalso
        unfold Value.okWide at hv
        rw [hu] at hv
        cases td <;> simp [Cell.okWide, hu, Cell.ok] at hv hq
      | _ => rfl
    cases td with
    | struct fs => obtain ⟨cs, rfl, _⟩ := okWide_struct hu hv; rfl
    | array n e =>
      unfold Value.okWide at hv
      rw [hu] at hv
      obtain ⟨cs, rfl, _⟩ := hv; rfl
    | _ => exact notag hv rfl
end
end Go.Ab.T
namespace Go.Ab.T
open Go Go.Ab
/-! bytes as numbers -/
def sizeOk (n : Int) : Bool := n == 1 || n == 2 || n == 4 || n == 8
def sizeB (n : Int) : Int := bif sizeOk n then 8 * n else 0
/-- The byte at a place. -/
def byteAt (s : ByteArray) (i : Nat) : Nat := (s.data.toList.getD i 0).toNat
/-- The number of some bytes from a place on. -/
def beV (s : ByteArray) (at_ : Nat) : Nat → Nat
  | 0 => 0
  | n + 1 => 256 * beV s at_ n + byteAt s (at_ + n)
theorem byteAt_lt (s : ByteArray) (i : Nat) : byteAt s i < 256 := by unfold byteAt; exact UInt8.toNat_lt _
theorem beV_lt (s : ByteArray) (a : Nat) : ∀ n, beV s a n < 256 ^ n
  | 0 => by simp [beV]
  | n + 1 => by
    have h1 := beV_lt s a n
    have h2 := byteAt_lt s (a + n)
    rw [beV, Nat.pow_succ]
    omega
theorem byteAt_of {s : ByteArray} {i : Nat} {b : UInt8} (h : s[i]? = some b) : byteAt s i = b.toNat := by
  have hlt : i < s.size := by
    rcases Nat.lt_or_ge i s.size with h1 | h1
    · exact h1
    · rw [ByteArray.getElem?_ge' s i (by omega)] at h; cases h
  rw [ByteArray.getElem?_lt' s i hlt] at h
  cases h
  unfold byteAt
  have : i < s.data.toList.length := by simpa using hlt
  rw [List.getD_eq_getElem?_getD, List.getElem?_eq_getElem this]
  simp [ByteArray.getElem_eq_getElem_data]
theorem sget {s : ByteArray} {i : Nat} {p : UInt8 → Prop} (hi : i < s.size) (h : ∀ b, s[i]? = some b → p b) : (0 ≤ (i : Int) ∧ (i : Int) < (s.size : Int)) ∧ ∀ z, s[(i : Int).toNat]? = some z → p z := by
  refine ⟨⟨by omega, by omega⟩, fun z hz => h z ?_⟩
  simpa using hz
theorem pow256 (n : Nat) (h : n ≤ 8) : 256 ^ n ≤ 18446744073709551616 := by
  have : 256 ^ n ≤ 256 ^ 8 := Nat.pow_le_pow_right (by omega) h
  have h8 : (256 : Nat) ^ 8 = 18446744073709551616 := by decide
  omega
theorem u64_id (n : Int) (h0 : 0 ≤ n) (h1 : n < 18446744073709551616) : IntKind.u64.wrap n = n := by
  unfold IntKind.wrap
  have e1 : ((2 : Int) ^ IntKind.u64.bits) = 18446744073709551616 := by decide
  have e2 : IntKind.u64.signed = false := rfl
  rw [e1, e2]
  simp only [Bool.false_and, Bool.false_eq_true, if_false]
  omega
theorem or_u64 (x y : Nat) (hx : x < 18446744073709551616) (hy : y < 18446744073709551616) : Go.bits .or .u64 (x : Int) (y : Int) = ((x ||| y : Nat) : Int) := by
  unfold Go.bits
  show IntKind.u64.wrap (((BitVec.ofInt 64 (x : Int)) ||| (BitVec.ofInt 64 (y : Int))).toNat : Int) = _
  rw [BitVec.ofInt_natCast, BitVec.ofInt_natCast, BitVec.toNat_or, BitVec.toNat_ofNat, BitVec.toNat_ofNat]
  have e : (2 : Nat) ^ 64 = 18446744073709551616 := by decide
  rw [e, Nat.mod_eq_of_lt hx, Nat.mod_eq_of_lt hy]
  have hlt : x ||| y < 2 ^ 64 := Nat.or_lt_two_pow (by omega) (by omega)
  exact u64_id _ (by omega) (by omega)
theorem or_byte (v b : Nat) (hv : v * 256 < 18446744073709551616) (hb : b < 256) : Go.bits .or .u64 (IntKind.u64.wrap ((v : Int) * 2 ^ min (8 : Int).toNat IntKind.u64.bits)) (b : Int) = ((256 * v + b : Nat) : Int) := by
  have h1 : (2 : Int) ^ min (8 : Int).toNat IntKind.u64.bits = 256 := by decide
  rw [h1, u64_id _ (by omega) (by omega)]
  have e1 : ((v : Int) * 256) = ((v * 256 : Nat) : Int) := by omega
  rw [e1]
  have h3 : (v * 256) ||| b = 256 * v + b := by
    have := Nat.shiftLeft_add_eq_or_of_lt (i := 8) (b := b) (by omega) v
    rw [Nat.shiftLeft_eq] at this
    have e2 : (2 : Nat) ^ 8 = 256 := by decide
    rw [e2] at this
    omega
  rw [or_u64 _ _ (by omega) (by omega), h3]

/-! the reader -/
def failR (e : Err) (sec k a : Int) : Err := bif e.isNil then inE sec (atE a (newE k)) else e
def needE (e : Err) (ok : Bool) (sec k a : Int) : Err := bif ok then e else failR e sec k a
theorem failR2_not (e : Err) (sec a : Int) : (failR e sec 2 a).isNil = false := by
  unfold failR
  cases h : e.isNil with
  | true => rfl
  | false => exact h
/-- May so many bytes be read? -/
def rdOk (s : ByteArray) (a n : Int) (e : Err) : Bool := decide (n ≤ (s.size : Int) - a) && e.isNil
def rdE (s : ByteArray) (a n sec : Int) (e : Err) : Err := needE e (decide (n ≤ (s.size : Int) - a)) sec 2 a
theorem rdE_nil (s : ByteArray) (a n sec : Int) (e : Err) : (rdE s a n sec e).isNil = rdOk s a n e := by
  unfold rdE rdOk needE
  cases decide (n ≤ (s.size : Int) - a) with
  | true => rfl
  | false => exact failR2_not e sec a
def rdV (s : ByteArray) (a n : Int) (e : Err) : Int := bif rdOk s a n e then (beV s a.toNat n.toNat : Int) else 0
def rdAt (s : ByteArray) (a n : Int) (e : Err) : Int := bif rdOk s a n e then a + n else a
def rdT (s : ByteArray) (a n : Int) (e : Err) : ByteArray := bif rdOk s a n e then s.extract a.toNat (a + n).toNat else ⟨#[]⟩
theorem sizeOk_cases {n : Int} (h : sizeOk n = true) : n = 1 ∨ n = 2 ∨ n = 4 ∨ n = 8 := by
  simp only [sizeOk, Bool.or_eq_true, beq_iff_eq] at h
  omega
theorem rdV_bound (s : ByteArray) (a n : Int) (e : Err) (h : sizeOk n = true) : 0 ≤ rdV s a n e ∧ rdV s a n e < 18446744073709551616 := by
  unfold rdV
  cases rdOk s a n e with
  | false =>
    show (0 : Int) ≤ 0 ∧ (0 : Int) < 18446744073709551616
    decide
  | true =>
    have h1 := beV_lt s a.toNat n.toNat
    have h2 := pow256 n.toNat (by rcases sizeOk_cases h with h | h | h | h <;> omega)
    show 0 ≤ (beV s a.toNat n.toNat : Int) ∧ (beV s a.toNat n.toNat : Int) < _
    omega
theorem rdV_lt (s : ByteArray) (a : Int) (n : Nat) (e : Err) : 0 ≤ rdV s a n e ∧ rdV s a n e < ((256 ^ n : Nat) : Int) := by
  unfold rdV
  have h1 := beV_lt s a.toNat n
  cases rdOk s a n e with
  | false =>
    show (0 : Int) ≤ 0 ∧ (0 : Int) < ((256 ^ n : Nat) : Int)
    omega
  | true =>
    show 0 ≤ (beV s a.toNat (n : Int).toNat : Int) ∧ (beV s a.toNat (n : Int).toNat : Int) < ((256 ^ n : Nat) : Int)
    rw [Int.toNat_natCast]
    omega
theorem u32_id (n : Int) (h0 : 0 ≤ n) (h1 : n < 4294967296) : IntKind.u32.wrap n = n := by
  unfold IntKind.wrap
  have e1 : ((2 : Int) ^ IntKind.u32.bits) = 4294967296 := by decide
  have e2 : IntKind.u32.signed = false := rfl
  rw [e1, e2]
  simp only [Bool.false_and, Bool.false_eq_true, if_false]
  omega
/-- The last bytes of a number, the highest first. -/
def beL : Nat → Nat → List UInt8
  | 0, _ => []
  | n + 1, v => UInt8.ofNat (v / 256 ^ n % 256) :: beL n v
theorem beL_len (v : Nat) : ∀ n, (beL n v).length = n
  | 0 => rfl
  | n + 1 => by rw [beL, List.length_cons, beL_len v n]
theorem u8_id (n : Int) (h0 : 0 ≤ n) (h1 : n < 256) : IntKind.u8.wrap n = n := by
  unfold IntKind.wrap
  have e1 : ((2 : Int) ^ IntKind.u8.bits) = 256 := by decide
  have e2 : IntKind.u8.signed = false := rfl
  rw [e1, e2]
  simp only [Bool.false_and, Bool.false_eq_true, if_false]
  omega
/-- What octet.Get and its reference answer. -/
def getOk (s : ByteArray) (a n : Int) : Bool := sizeOk n && decide (0 ≤ a) && decide (a ≤ s.size) && decide (n ≤ (s.size : Int) - a)
def getV (s : ByteArray) (a n : Int) : Int := bif getOk s a n then (beV s a.toNat n.toNat : Int) else 0
end Go.Ab.T
namespace Go.Ab.T
open Go Go.Ab
abbrev F3 := Int × Int × Int
def rFail (f : F3) (sec k a : Int) : F3 := bif (f.1 == 0) && isCls k then (k, sec, a) else f
def nOk (s : ByteArray) (a n : Int) (f : F3) : Bool := (f.1 == 0) && getOk s a n
def nV (s : ByteArray) (a n : Int) (f : F3) : Int := bif nOk s a n f then (beV s a.toNat n.toNat : Int) else 0
def nAt (s : ByteArray) (a n : Int) (f : F3) : Int := bif nOk s a n f then a + n else a
def nF (s : ByteArray) (a n sec : Int) (f : F3) : F3 := bif getOk s a n then f else rFail f sec 2 a
def tOk (s : ByteArray) (a n : Int) (f : F3) : Bool := (f.1 == 0) && (decide (0 < n) && decide (n ≤ (s.size : Int) - a))
def tT (s : ByteArray) (a n : Int) (f : F3) : ByteArray := bif tOk s a n f then s.extract a.toNat (a + n).toNat else ⟨#[]⟩
def tAt (s : ByteArray) (a n : Int) (f : F3) : Int := bif tOk s a n f then a + n else a
def tF (s : ByteArray) (a n sec : Int) (f : F3) : F3 := bif decide (n ≤ 0) || decide (n ≤ (s.size : Int) - a) then f else rFail f sec 2 a
theorem rFail_bad {f : F3} (h : (f.1 == 0) = false) (sec k a : Int) : rFail f sec k a = f := by
  unfold rFail; rw [h]; rfl
theorem rFail_two {f : F3} (h : (f.1 == 0) = true) (sec a : Int) : rFail f sec 2 a = (2, sec, a) := by
  unfold rFail; rw [h]; rfl
/-- The errors that readers keep. -/
inductive GoodE : Err → Prop where
  | nil : GoodE .nil
  | spc (s a k : Int) (h : isCls k = true) : GoodE (.sec s (.plc a (.cls k)))
theorem GoodE.cases {e : Err} (h : GoodE e) : e = .nil ∨ ∃ s a k, isCls k = true ∧ e = .sec s (.plc a (.cls k)) := by
  cases h with
  | nil => exact .inl rfl
  | spc s a k h => exact .inr ⟨s, a, k, h, rfl⟩
theorem ofE_spc (s a k : Int) : ofE (.sec s (.plc a (.cls k))) = (k, s, a) := rfl
theorem isCls_ne {k : Int} (h : isCls k = true) : (k == 0) = false := by
  simp only [isCls, Bool.and_eq_true, decide_eq_true_eq] at h
  simp; omega
theorem GoodE.nil_iff {e : Err} (h : GoodE e) : ((ofE e).1 == 0) = e.isNil := by
  rcases h.cases with rfl | ⟨s, a, k, hk, rfl⟩
  · rfl
  · rw [ofE_spc]; exact isCls_ne hk
theorem GoodE.fail {e : Err} (h : GoodE e) (sec k a : Int) : GoodE (failR e sec k a) := by
  unfold failR
  cases hn : e.isNil with
  | false => exact h
  | true =>
    show GoodE (inE sec (atE a (newE k)))
    unfold newE
    cases hk : isCls k with
    | false => exact .nil
    | true => exact .spc sec a k hk
theorem GoodE.ofE_fail {e : Err} (h : GoodE e) (sec k a : Int) : ofE (failR e sec k a) = rFail (ofE e) sec k a := by
  unfold failR rFail
  rw [h.nil_iff]
  cases hn : e.isNil with
  | false => rfl
  | true =>
    show ofE (inE sec (atE a (newE k))) = _
    unfold newE
    cases hk : isCls k with
    | true => rfl
    | false =>
      rcases h.cases with rfl | ⟨s, a, k, hk, rfl⟩
      · rfl
      · cases hn
theorem GoodE.need {e : Err} (h : GoodE e) (t : Bool) (sec k a : Int) : GoodE (needE e t sec k a) := by
  unfold needE; cases t
  · exact h.fail sec k a
  · exact h
theorem GoodE.ofE_need {e : Err} (h : GoodE e) (t : Bool) (sec k a : Int) : ofE (needE e t sec k a) = bif t then ofE e else rFail (ofE e) sec k a := by
  unfold needE; cases t
  · exact h.ofE_fail sec k a
  · rfl
theorem GoodE.rd {e : Err} (h : GoodE e) (s : ByteArray) (a n sec : Int) : GoodE (rdE s a n sec e) := h.need _ _ _ _

section
variable {e : Err} (h : GoodE e) {s : ByteArray} {a n : Int}
include h
theorem GoodE.nOk (h0 : 0 ≤ a) (h1 : a ≤ s.size) (hn : sizeOk n = true) : nOk s a n (ofE e) = rdOk s a n e := by
  unfold Go.Ab.T.nOk rdOk getOk
  rw [h.nil_iff, hn]
  simp only [h0, h1, decide_true, Bool.true_and]
  exact Bool.and_comm _ _
theorem GoodE.nV (h0 : 0 ≤ a) (h1 : a ≤ s.size) (hn : sizeOk n = true) : nV s a n (ofE e) = rdV s a n e := by
  unfold Go.Ab.T.nV rdV; rw [h.nOk h0 h1 hn]
theorem GoodE.nAt (h0 : 0 ≤ a) (h1 : a ≤ s.size) (hn : sizeOk n = true) : nAt s a n (ofE e) = rdAt s a n e := by
  unfold Go.Ab.T.nAt rdAt; rw [h.nOk h0 h1 hn]
theorem GoodE.nF (sec : Int) (h0 : 0 ≤ a) (h1 : a ≤ s.size) (hn : sizeOk n = true) : nF s a n sec (ofE e) = ofE (rdE s a n sec e) := by
  unfold Go.Ab.T.nF rdE
  rw [h.ofE_need]
  have : getOk s a n = decide (n ≤ (s.size : Int) - a) := by
    unfold getOk; rw [hn]; simp only [h0, h1, decide_true, Bool.true_and]
  rw [this]
end
theorem rdAt_le {s : ByteArray} {a n : Int} {e : Err} (h0 : 0 ≤ a) (h1 : a ≤ s.size) (hn : 0 ≤ n) : 0 ≤ rdAt s a n e ∧ rdAt s a n e ≤ s.size := by
  unfold rdAt
  cases h : rdOk s a n e with
  | false => exact ⟨h0, h1⟩
  | true =>
    simp only [rdOk, Bool.and_eq_true, decide_eq_true_eq] at h
    show 0 ≤ a + n ∧ a + n ≤ (s.size : Int)
    omega
theorem rdOk_bad (s : ByteArray) (a n : Int) {e : Err} (h : e.isNil = false) : rdOk s a n e = false := by
  unfold rdOk; rw [h, Bool.and_false]
theorem rd_bad (s : ByteArray) (a n sec : Int) {e : Err} (h : e.isNil = false) : rdV s a n e = 0 ∧ rdAt s a n e = a ∧ rdT s a n e = ⟨#[]⟩ ∧ rdE s a n sec e = e := by
  have h1 := rdOk_bad s a n h
  refine ⟨by rw [rdV, h1]; rfl, by rw [rdAt, h1]; rfl, by rw [rdT, h1]; rfl, ?_⟩
  unfold rdE needE failR
  rw [h]
  cases decide (n ≤ (s.size : Int) - a) <;> rfl
theorem rd_short (s : ByteArray) (a n sec : Int) (h : ¬ n ≤ (s.size : Int) - a) : rdV s a n .nil = 0 ∧ rdAt s a n .nil = a ∧ rdT s a n .nil = ⟨#[]⟩ ∧ rdE s a n sec .nil = .sec sec (.plc a (.cls 2)) := by
  have h0 : decide (n ≤ (s.size : Int) - a) = false := decide_eq_false h
  have h1 : rdOk s a n .nil = false := by unfold rdOk; rw [h0]; rfl
  refine ⟨by rw [rdV, h1]; rfl, by rw [rdAt, h1]; rfl, by rw [rdT, h1]; rfl, ?_⟩
  unfold rdE; rw [h0]; rfl
theorem rd_fits (s : ByteArray) (a n sec : Int) (h : n ≤ (s.size : Int) - a) : rdV s a n .nil = (beV s a.toNat n.toNat : Int) ∧ rdAt s a n .nil = a + n ∧ rdT s a n .nil = s.extract a.toNat (a + n).toNat ∧ rdE s a n sec .nil = .nil := by
  have h0 : decide (n ≤ (s.size : Int) - a) = true := decide_eq_true h
  have h1 : rdOk s a n .nil = true := by unfold rdOk; rw [h0]; rfl
  refine ⟨by rw [rdV, h1]; rfl, by rw [rdAt, h1]; rfl, by rw [rdT, h1]; rfl, ?_⟩
  unfold rdE; rw [h0]; rfl
section
variable {e : Err} (h : GoodE e) {s : ByteArray} {a n : Int}
include h
theorem GoodE.tOk (hn : 0 < n) : tOk s a n (ofE e) = rdOk s a n e := by
  unfold Go.Ab.T.tOk rdOk
  rw [h.nil_iff, decide_eq_true hn, Bool.true_and, Bool.and_comm]
theorem GoodE.tAt (h1 : a ≤ s.size) : tAt s a n (ofE e) = rdAt s a (max n 0) e := by
  by_cases hn : 0 < n
  · have : max n 0 = n := by omega
    unfold Go.Ab.T.tAt rdAt; rw [h.tOk hn, this]
  · have h2 : max n 0 = 0 := by omega
    have h3 : decide (0 < n) = false := decide_eq_false hn
    unfold Go.Ab.T.tAt rdAt Go.Ab.T.tOk
    rw [h2, h3, Bool.false_and, Bool.and_false, Int.add_zero]
    cases rdOk s a 0 e <;> rfl
theorem GoodE.tT (h0 : 0 ≤ a) : ((rdT s a (max n 0) e).toList == (Go.Ab.T.tT s a n (ofE e)).toList) = true := by
  by_cases hn : 0 < n
  · have : max n 0 = n := by omega
    unfold Go.Ab.T.tT rdT; rw [h.tOk hn, this]; simp
  · have h2 : max n 0 = 0 := by omega
    have h3 : decide (0 < n) = false := decide_eq_false hn
    have h4 : Go.Ab.T.tT s a n (ofE e) = ⟨#[]⟩ := by unfold Go.Ab.T.tT Go.Ab.T.tOk; rw [h3, Bool.false_and, Bool.and_false]; rfl
    have h5 : (rdT s a 0 e).toList = [] := by
      unfold rdT
      cases rdOk s a 0 e with
      | false => rw [cond_false, ByteArray.toList_eq]
      | true =>
        rw [cond_true, Int.add_zero, ByteArray.toList_eq]
        have : (s.extract a.toNat a.toNat).size = 0 := by simp
        exact List.eq_nil_of_length_eq_zero (by simp)
    rw [h2, h4, h5, ByteArray.toList_eq]; rfl
theorem GoodE.tF (sec : Int) (h1 : a ≤ s.size) : tF s a n sec (ofE e) = ofE (rdE s a (max n 0) sec e) := by
  unfold Go.Ab.T.tF rdE
  rw [h.ofE_need]
  by_cases hn : 0 < n
  · have h2 : max n 0 = n := by omega
    have h3 : decide (n ≤ 0) = false := decide_eq_false (by omega)
    rw [h2, h3, Bool.false_or]
  · have h2 : max n 0 = 0 := by omega
    have h3 : decide (n ≤ 0) = true := decide_eq_true (by omega)
    have h4 : decide ((0 : Int) ≤ (s.size : Int) - a) = true := decide_eq_true (by omega)
    rw [h2, h3, h4]; rfl
end
theorem F3_eta (f : F3) : (f.1, f.2.1, f.2.2) = f := rfl
end Go.Ab.T
namespace Go.Ab.T
open Go Go.Ab
def itoa2 (n : Int) : ByteArray := bif n == 17 then ⟨#[49, 55]⟩ else ⟨#[51]⟩
def tx1 : ByteArray := ⟨#[111, 118, 101, 114, 108, 97, 112]⟩
def tx2 : ByteArray := ⟨#[97, 116, 32, 49, 55, 58, 32, 111, 118, 101, 114, 108, 97, 112]⟩
def tx3 : ByteArray := ⟨#[115, 101, 99, 116, 105, 111, 110, 32, 51, 58, 32, 97, 116, 32, 49, 55, 58, 32, 111, 118, 101, 114, 108, 97, 112]⟩
def noS : SpecS := fun _ _ => False
/-- The first error that is there. -/
def firstE : List Err → Err
  | [] => .nil
  | e :: r => bif e.isNil then firstE r else e
def errsOf : Nat → List Int → List Err
  | _, [] => []
  | i, k :: r => atE (i : Int) (newE k) :: errsOf (i + 1) r
theorem firstE_append : ∀ (l : List Err) (e : Err), firstE (l ++ [e]) = bif (firstE l).isNil then e else firstE l
  | [], e => by
    show (bif e.isNil then Err.nil else e) = e
    cases h : e.isNil with
    | true => have : e = .nil := by cases e <;> first | rfl | cases h
              rw [this]; rfl
    | false => rfl
  | x :: l, e => by
    show (bif x.isNil then firstE (l ++ [e]) else x) = bif (bif x.isNil then firstE l else x).isNil then e else (bif x.isNil then firstE l else x)
    cases h : x.isNil with
    | true => exact firstE_append l e
    | false => show x = bif x.isNil then e else x; rw [h]; rfl
theorem isNil_eq' {e : Err} (h : e.isNil = true) : e = .nil := by cases e <;> first | rfl | cases h
/-- Errors of places alone. -/
inductive PlcE : Err → Prop where
  | nil : PlcE .nil
  | plc (i k : Int) (h : isCls k = true) : PlcE (.plc i (.cls k))
theorem PlcE.cases {e : Err} (h : PlcE e) : e = .nil ∨ ∃ i k, isCls k = true ∧ e = .plc i (.cls k) := by
  cases h with
  | nil => exact .inl rfl
  | plc i k h => exact .inr ⟨i, k, h, rfl⟩
theorem plc_at (i k : Int) : PlcE (atE i (newE k)) := by
  unfold newE
  cases h : isCls k with
  | true => exact .plc i k h
  | false => exact .nil
theorem PlcE.nil_iff {e : Err} (h : PlcE e) : ((ofE e).1 == 0) = e.isNil := by
  rcases h.cases with rfl | ⟨i, k, hk, rfl⟩
  · rfl
  · exact isCls_ne hk
theorem first_plc : ∀ l : List Err, (∀ e, e ∈ l → PlcE e) → PlcE (firstE l)
  | [], _ => .nil
  | e :: l, h => by
    show PlcE (bif e.isNil then firstE l else e)
    cases e.isNil with
    | true => exact first_plc l (fun x hx => h x (List.mem_cons_of_mem _ hx))
    | false => exact h e List.mem_cons_self
end Go.Ab.T
