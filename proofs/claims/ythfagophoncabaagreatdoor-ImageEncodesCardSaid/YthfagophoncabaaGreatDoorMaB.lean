import Derived.Test.YthfagophoncabaaGreatDoorAbC
import Derived.Test.YthfagophoncabaaGreatDoorMaErr
import Derived.Deep.Slices
import Derived.WideShapes
import Derived.ChangeArms
import Derived.Handed
import Derived.Test.YthfagophoncabaaGreatDoorAbA
import Derived.Laws.Strings
set_option linter.unusedVariables false
set_option linter.unusedSimpArgs false
set_option linter.unusedSectionVars false
namespace Go.Ab.T
open Go Go.Ab
def uCod : Cod := ⟨Unit, fun _ => .bool false, 1, fun _ => rfl, fun _ => rfl⟩
def e_api_Window (w : Int × Int × Int) : PV := .agg [.int .i64 w.1, .int .i64 w.2.1, .int .i64 w.2.2]
def c_api_Window : Cod := ⟨Int × Int × Int, e_api_Window, 3, fun _ => rfl, fun _ => rfl⟩
def e_api_Need (w : Int × Int × Int) : PV := .agg [.int .i64 w.1, .int .i64 w.2.1, .int .i64 w.2.2]
def c_api_Need : Cod := ⟨Int × Int × Int, e_api_Need, 3, fun _ => rfl, fun _ => rfl⟩
def e_int (w : Int) : PV := .int .i64 w
def c_int : Cod := ⟨Int, e_int, 1, fun _ => rfl, fun _ => rfl⟩
def e_api_Cell (w : Int × Bool) : PV := .agg [.int .u32 w.1, .bool w.2]
def c_api_Cell : Cod := ⟨Int × Bool, e_api_Cell, 2, fun _ => rfl, fun _ => rfl⟩
def e_api_Pair (w : Int × Int) : PV := .agg [.int .i64 w.1, .int .i64 w.2]
def c_api_Pair : Cod := ⟨Int × Int, e_api_Pair, 2, fun _ => rfl, fun _ => rfl⟩
def e_api_Act (w : Int × Int × Int) : PV := .agg [.int .i64 w.1, .int .i64 w.2.1, .int .i64 w.2.2]
def c_api_Act : Cod := ⟨Int × Int × Int, e_api_Act, 3, fun _ => rfl, fun _ => rfl⟩
def e_uint8 (w : UInt8) : PV := .int .u8 w.toNat
def c_uint8 : Cod := ⟨UInt8, e_uint8, 1, fun _ => rfl, fun _ => rfl⟩
def e_string (w : ByteArray) : PV := .str w
def c_string : Cod := ⟨ByteArray, e_string, 1, fun _ => rfl, fun _ => rfl⟩
def e_error (w : Err) : PV := .err w
def c_error : Cod := ⟨Err, e_error, 1, fun _ => rfl, fun _ => rfl⟩
def e_abi_Method (w : Int × Int × Int × Int) : PV := .agg [.int .i32 w.1, .int .i32 w.2.1, .int .i32 w.2.2.1, .int .i32 w.2.2.2]
def c_abi_Method : Cod := ⟨Int × Int × Int × Int, e_abi_Method, 4, fun _ => rfl, fun _ => rfl⟩
def e_struct_v_uint64_n_int_ (w : Int × Int) : PV := .agg [.int .u64 w.1, .int .i64 w.2]
def c_struct_v_uint64_n_int_ : Cod := ⟨Int × Int, e_struct_v_uint64_n_int_, 2, fun _ => rfl, fun _ => rfl⟩
def e__3_int (w : Int × Int × Int) : PV := .agg [.int .i64 w.1, .int .i64 w.2.1, .int .i64 w.2.2]
def c__3_int : Cod := ⟨Int × Int × Int, e__3_int, 3, fun _ => rfl, fun _ => rfl⟩
def e_api_Fault (w : Int × Int × Int) : PV := .agg [.int .i64 w.1, .int .i64 w.2.1, .int .i64 w.2.2]
def c_api_Fault : Cod := ⟨Int × Int × Int, e_api_Fault, 3, fun _ => rfl, fun _ => rfl⟩
def e_api_Partition (w : Int × ByteArray × Bool × (List (Int × Bool))) : PV := .agg [.int .i64 w.1, .str w.2.1, .bool w.2.2.1, .sl (Int × Bool) e_api_Cell w.2.2.2]
def c_api_Partition : Cod := ⟨Int × ByteArray × Bool × (List (Int × Bool)), e_api_Partition, 4, fun _ => rfl, fun _ => rfl⟩
def e_api_Schedule (w : Int × Int × (List (Int × Int × Int)) × (List (Int × Int × Int))) : PV := .agg [.int .i64 w.1, .int .i64 w.2.1, .sl (Int × Int × Int) e_api_Window w.2.2.1, .sl (Int × Int × Int) e_api_Need w.2.2.2]
def c_api_Schedule : Cod := ⟨Int × Int × (List (Int × Int × Int)) × (List (Int × Int × Int)), e_api_Schedule, 4, fun _ => rfl, fun _ => rfl⟩
end Go.Ab.T
namespace Go.Ab
theorem Closed.nf {K : Codes} {C : Cfg K} {f : Fun} {k : List PV -> Heap K -> Prop} {A : KA K} (hA : Closed C f k A) {n : Nat} {force : Bool} {todo : List AItem} {env : List PV} {L : Heap K} {q : Prop}
 (h : evT C f A k n force todo env L = q) (hq : q) : A todo env L := hA n force todo env L (h ▸ hq)
end Go.Ab
namespace Go.Ab.T
open Go Go.Ab
theorem by_nf {p q : Prop} (h : p = q) (hq : q) : p := h ▸ hq
def nms : List ByteArray := [⟨#[]⟩, ⟨#[97, 114, 103, 117, 109, 101, 110, 116]⟩, ⟨#[115, 104, 111, 114, 116]⟩, ⟨#[109, 97, 103, 105, 99]⟩, ⟨#[108, 101, 110, 103, 116, 104]⟩, ⟨#[115, 117, 109]⟩, ⟨#[102, 111, 114, 109]⟩, ⟨#[110, 97, 109, 101]⟩, ⟨#[109, 97, 110, 121]⟩, ⟨#[111, 114, 100, 101, 114]⟩, ⟨#[114, 101, 102, 101, 114, 101, 110, 99, 101]⟩, ⟨#[119, 105, 110, 100, 111, 119]⟩, ⟨#[111, 118, 101, 114, 108, 97, 112]⟩, ⟨#[112, 101, 114, 105, 111, 100]⟩, ⟨#[98, 117, 100, 103, 101, 116]⟩, ⟨#[112, 97, 105, 114]⟩, ⟨#[104, 97, 108, 116]⟩, ⟨#[115, 116, 97, 116, 101]⟩, ⟨#[114, 97, 110, 103, 101]⟩]
def isCls (n : Int) : Bool := decide (1 <= n) && decide (n <= 18)
def nameOf (n : Int) : ByteArray := bif isCls n then nms.getD n.toNat ⟨#[]⟩ else ⟨#[]⟩
theorem nms_get {n : Int} (h : isCls n = true) {y : ByteArray} (hy : nms[n.toNat]? = some y) : nameOf n = y := by
 simp [nameOf, h, List.getD_eq_getElem?_getD, hy]
theorem nameOf_empty (n : Int) : ((nameOf n).toList == ByteArray.toList ⟨#[]⟩) = !isCls n := by
 rw [ByteArray.toList_eq, ByteArray.toList_eq]
 unfold nameOf
 cases h : isCls n with
 | false => rfl
 | true =>
  simp only [isCls, Bool.and_eq_true, decide_eq_true_eq] at h
  have key : ∀ k : Nat, k < 19 -> 1 <= k -> ((nms.getD k ⟨#[]⟩).data.toList == (⟨#[]⟩ : ByteArray).data.toList) = false := by decide
  exact key n.toNat (by omega) (by omega)
def newE (n : Int) : Err := bif isCls n then .cls n else .nil
def atE (n : Int) (e : Err) : Err := bif e.isNil then .nil else .plc n e
def inE (n : Int) (e : Err) : Err := bif e.isNil then .nil else .sec n e
end Go.Ab.T
namespace Go.Ab.T
open Go Go.Ab
theorem down_loop {α : Type} (l : List α) (Q : Nat -> Prop) (h0 : Q l.length) (hs : ∀ (i : Nat) (y : α), l[i]? = some y -> Q (i + 1) -> Q i) : ∀ i, i <= l.length -> Q i := by
 have key : ∀ n i, i + n = l.length -> Q i := by
  intro n
  induction n with
  | zero => intro i h; have : i = l.length := by omega
            subst this; exact h0
  | succ n ih =>
   intro i h
   have hlt : i < l.length := by omega
   exact hs i l[i] (List.getElem?_eq_getElem hlt) (ih (i + 1) (by omega))
 intro i hi
 exact key (l.length - i) i (by omega)
theorem downN (m : Nat) (Q : Nat -> Prop) (h0 : Q m) (hs : ∀ i, i < m -> Q (i + 1) -> Q i) : ∀ i, i <= m -> Q i := by
 have key : ∀ n i, i + n = m -> Q i := by
  intro n
  induction n with
  | zero => intro i h; have : i = m := by omega
            subst this; exact h0
  | succ n ih => intro i h; exact hs i (by omega) (ih (i + 1) (by omega))
 intro i hi
 exact key (m - i) i (by omega)
theorem drop_cons' {α : Type} {l : List α} {i : Nat} {y : α} (h : l[i]? = some y) : l.drop i = y :: l.drop (i + 1) := by
 obtain ⟨h1, h2⟩ := List.getElem?_eq_some_iff.1 h
 rw [<- h2]; exact List.drop_eq_getElem_cons h1
theorem lt_of_get {α : Type} {l : List α} {i : Nat} {y : α} (h : l[i]? = some y) : i < l.length := (List.getElem?_eq_some_iff.1 h).1
theorem ilt_true {a b : Nat} (h : a < b) : decide ((a : Int) < (b : Int)) = true := decide_eq_true (by omega)
theorem ilt_false {a b : Nat} (h : ¬ a < b) : decide ((a : Int) < (b : Int)) = false := decide_eq_false (by omega)
theorem get_at {α : Type} {l : List α} {i : Nat} {y : α} {p : α -> Prop} (hy : l[i]? = some y) (h : p y) : (0 <= (i : Int) /\ (i : Int) < (l.length : Int)) /\ ∀ z, l[(i : Int).toNat]? = some z -> p z := by
 have := lt_of_get hy
 refine ⟨⟨by omega, by omega⟩, fun z hz => ?_⟩
 rw [Int.toNat_natCast, hy] at hz
 cases hz; exact h
theorem get_at' {α : Type} {l : List α} {i : Nat} {x : Int} {y : α} {p : α -> Prop} (hx : x = (i : Int)) (hy : l[i]? = some y) (h : p y) : (0 <= x /\ x < (l.length : Int)) /\ ∀ z, l[x.toNat]? = some z -> p z := by
 subst hx; exact get_at hy h
theorem wrap_succ {i : Nat} (h : i < 4611686018427387904) : IntKind.i64.wrap ((i : Int) + 1) = ((i + 1 : Nat) : Int) := by
 rw [wrap_id _ (by omega) (by omega)]; omega
theorem wrap_nat {i : Nat} {x : Int} (hx : x = (i : Int)) (h : i < 4611686018427387904) : IntKind.i64.wrap x = (i : Int) := by
 subst hx; exact wrap_id _ (by omega) (by omega)
theorem mmI_max (a b : Int) : mmI true a b = max a b := by
 show (if b > a then b else a) = max a b
 split <;> omega
end Go.Ab.T
namespace Go.Ab.T
open Go Go.Ab Go.Deep Go.WideShapes Go.ChangeShapes
section
variable {P : Program} {I : Ids}
def NoM : Nat -> Prop := fun _ => False
structure Opens (P : Program) (I : Ids) (t : TypeId) {α : Type} (cells : α -> List PV) (good : α -> Prop) : Prop where
 get : ∀ {H : Type} (encH : TypeId × Value -> H) (w : World) (base : Nat) (spare : Nat -> Bool) (held : Bool) (fuel : Nat) (cs : List Value) (x : DataW H × List MemPlace),
  DataW.trod encH P w base spare held fuel t cs = some x -> (x.1.weights P t).all (· <= reachBytes) = true -> ∃ a, good a /\ RepF.go I NoM w (cells a) cs
structure OpensF (P : Program) (I : Ids) (fs : List (TypeId × Nat)) (o n : Nat) {α : Type} (cells : α -> List PV) (good : α -> Prop) : Prop where
 get : ∀ {H : Type} (encH : TypeId × Value -> H) (w : World) (base : Nat) (spare : Nat -> Bool) (held : Bool) (fuel : Nat) (cs : List Value), cs.length = n ->
  (∀ (j : Nat) (f : TypeId × Nat), fs[j]? = some f -> ∃ y, DataW.trod encH P w base spare held fuel f.1 ((cs.drop (f.2 - o)).take (P.cellsOf f.1)) = some y /\ (y.1.weights P f.1).all (· <= reachBytes) = true) -> ∃ a, good a /\ RepF.go I NoM w (cells a) cs
theorem all_mem {H : Type} {e : TypeId} : ∀ {l : List (DataW H)}, (DataW.weightsAll P e l).all (· <= reachBytes) = true -> ∀ d, d ∈ l -> (d.weights P e).all (· <= reachBytes) = true
 | [], _, d, hd => by cases hd
 | x :: r, h, d, hd => by
  simp only [DataW.weightsAll, List.all_append, Bool.and_eq_true] at h
  rcases List.mem_cons.1 hd with e | e
  ·rw [e]; exact h.1
  ·exact all_mem h.2 d e
theorem each_get {H : Type} : ∀ {ts : List TypeId} {l : List (DataW H)}, (DataW.weightsEach P ts l).all (· <= reachBytes) = true -> ∀ (j : Nat) t d, ts[j]? = some t -> l[j]? = some d -> (d.weights P t).all (· <= reachBytes) = true
 | [], _, _, j, t, d, h1, _ => by simp at h1
 | _ :: _, [], _, j, t, d, _, h2 => by simp at h2
 | u :: ts, x :: r, h, j, t, d, h1, h2 => by
  simp only [DataW.weightsEach, List.all_append, Bool.and_eq_true] at h
  cases j with
  | zero => simp at h1 h2; rw [<- h1, <- h2]; exact h.1
  | succ j => exact each_get h.2 j t d (by simpa using h1) (by simpa using h2)
theorem go_one {M : Nat -> Prop} {w : World} {x : PV} {v : Value} (hx : x.isAgg = false) (hv : v.oneCell' = true) (h : RepF I M w x [v]) : RepF.go I M w [x] [v] := ⟨v, [], rfl, ⟨hx, hv⟩, h, rfl⟩
theorem go_append {M : Nat -> Prop} {w : World} : ∀ {xs ys : List PV} {l m : List Value}, RepF.go I M w xs l -> RepF.go I M w ys m -> RepF.go I M w (xs ++ ys) (l ++ m)
 | [], _, l, m, h, h' => by simp only [RepF.go] at h; subst h; exact h'
 | x :: xs, ys, l, m, h, h' => by
  obtain ⟨v, r, rfl, h0, h1, h2⟩ := h
  exact ⟨v, r ++ m, rfl, h0, h1, go_append h2 h'⟩
theorem opens_int {t : TypeId} {k : IntKind} (ht : P.underlying t = some (.int k)) : Opens P I t (fun n : Int => [.int k n]) (fun n => (Lit.int k n).wf = true) := by
 refine ⟨?_⟩
 intro H encH w base spare held fuel cs x h hw0
 obtain ⟨n, rfl, _, hw⟩ := DataW.trod_int ht h
 exact ⟨n, hw, go_one rfl rfl rfl⟩
theorem opens_bool {t : TypeId} (ht : P.underlying t = some .bool) : Opens P I t (fun b : Bool => [.bool b]) (fun _ => True) := by
 refine ⟨?_⟩
 intro H encH w base spare held fuel cs x h hw0
 obtain ⟨b, rfl, _⟩ := DataW.trod_bool ht h
 exact ⟨b, trivial, go_one rfl rfl rfl⟩
theorem opens_str {t : TypeId} (ht : P.underlying t = some .string) : Opens P I t (fun s : ByteArray => [.str s]) (fun s => s.size <= reachBytes) := by
 refine ⟨?_⟩
 intro H encH w base spare held fuel cs x h hw0
 obtain ⟨s, rfl, rfl, hs⟩ := DataW.trod_string ht h
 simp only [DataW.weights, List.all_cons, Bool.and_eq_true, decide_eq_true_eq] at hw0
 have e : s.data.toList.length = s.size := by rw [Array.length_toList]; rfl
 exact ⟨s, by have := hw0.1; omega, go_one rfl rfl rfl⟩
theorem add_none {a : Addr} (h : a.spot = none) (n : Nat) : a.add n = ⟨a.block, a.off + n, none⟩ := by
 unfold Addr.add
 split
 ·rename_i h0; subst h0; cases a; simp_all
 ·rfl
theorem cell_some {w : World} {a : Addr} {v : Value} (h : w.cell? a = some v) : a.spot = none /\ ∃ cells t fr, w.heap[a.block]? = some (.cells cells t fr) /\ cells[a.off]? = some v := by
 unfold World.cell? at h
 split at h
 ·rename_i c t fr hh
  split at h
  ·cases h
  ·rename_i hs
   exact ⟨by simpa using hs, c, t, fr, hh, h⟩
 ·cases h
theorem opens_slice {t e : TypeId} {s : Nat} (ht : P.underlying t = some (.slice e)) (hC : P.cellsOf e = s) (hs : Nat.blt 0 s = true) {b : Nat} (hB : P.bytesOf e = b) {α : Type} {enc : α -> PV} {cells : α -> List PV} {good : α -> Prop}
 (henc : ∀ (w : World) a cs, RepF.go I NoM w (cells a) cs -> RepF I NoM w (enc a) cs) (ho : Opens P I e cells good) :
 Opens P I t (fun l : List α => [.sl α enc l]) (fun l => l.length <= maxLen /\ (∀ a, a ∈ l -> good a) /\ l.length * b <= reachBytes) := by
 refine ⟨?_⟩
 intro H encH w base spare held fuel cs x h hw0
 have hs : 0 < s := by rwa [Nat.blt_eq] at hs
 rcases open_slice ht h with ⟨rfl, _⟩ | ⟨a, len, cap, m, n, D, Pl, rfl, _, hlc, hcm, hm, rfl, hel⟩
 ·exact ⟨[], ⟨Nat.zero_le _, (fun a h => by cases h), by simp⟩, go_one rfl rfl ⟨none, 0, rfl, Nat.le_refl _, .inl rfl⟩⟩
 ·rw [hC] at hel
  simp only [DataW.weights, ht, List.all_cons, List.all_append, Bool.and_eq_true, decide_eq_true_eq, List.length_map, List.length_range] at hw0
  obtain ⟨hw1, hw2, _⟩ := hw0
  have hml : len <= m := by rw [hm]; split <;> omega
  have each : ∀ i, i < len -> ∃ (y : α) (cs' : List Value), good y /\ RepF.go I NoM w (cells y) cs' /\ cs'.length = s /\ ∀ j, j < s -> w.cell? ((a.add (i * s)).add j) = cs'[j]? := by
   intro i hi
   obtain ⟨cs', h1, h2⟩ := hel i (by omega)
   obtain ⟨_, h3, h4⟩ := World.cells?_some h1
   obtain ⟨y, hy, hr⟩ := ho.get encH w base spare held n cs' _ h2 (all_mem hw2 _ (List.mem_map.2 ⟨i, List.mem_range.2 hi, rfl⟩))
   exact ⟨y, cs', hy, hr, h3, h4⟩
  have mk : ∀ k, k <= len -> ∃ l : List α, l.length = k /\ (∀ i y, l[i]? = some y -> ∃ cs' : List Value, good y /\ RepF.go I NoM w (cells y) cs' /\ cs'.length = s /\ ∀ j, j < s -> w.cell? ((a.add (i * s)).add j) = cs'[j]?) := by
   intro k
   induction k with
   | zero => intro _; exact ⟨[], rfl, fun i y h => by simp at h⟩
   | succ k ih =>
    intro hk
    obtain ⟨l, hl, hall⟩ := ih (by omega)
    obtain ⟨y, cs', hy⟩ := each k (by omega)
    refine ⟨l ++ [y], by simp [hl], fun i z hz => ?_⟩
    rcases Nat.lt_or_ge i l.length with hi | hi
    ·rw [List.getElem?_append_left hi] at hz; exact hall i z hz
    ·rw [List.getElem?_append_right hi] at hz
     have : i - l.length = 0 := by
      rcases Nat.eq_zero_or_pos (i - l.length) with h | h
      ·exact h
      ·rw [List.getElem?_eq_none (by simp; omega)] at hz; cases hz
     rw [this] at hz
     simp at hz
     subst hz
     have : i = k := by omega
     subst this
     exact ⟨cs', hy⟩
  obtain ⟨l, hl, hall⟩ := mk len (Nat.le_refl _)
  refine ⟨l, ⟨by omega, fun y hy => ?_, ?_⟩, go_one rfl rfl ⟨some a, cap, by rw [hl], by omega, ?_⟩⟩
  rotate_left 1
  ·rw [hl, <- hB]; exact Nat.le_trans (Nat.mul_le_mul_right _ (Nat.le_add_right _ _)) hw1
  rotate_left 1
  ·obtain ⟨i, hi⟩ := List.mem_iff_getElem?.1 hy
   obtain ⟨_, h1, _⟩ := hall i y hi
   exact h1
  ·rcases Nat.eq_zero_or_pos len with h0 | h0
   ·left; exact List.eq_nil_of_length_eq_zero (by omega)
   ·right
    obtain ⟨y0, hy0⟩ : ∃ y, l[0]? = some y := ⟨l[0]'(by omega), List.getElem?_eq_getElem (by omega)⟩
    obtain ⟨cs0, _, _, hlen0, hc0⟩ := hall 0 y0 hy0
    have hc00 := hc0 0 hs
    rw [List.getElem?_eq_getElem (by omega)] at hc00
    have ha0 : (a.add (0 * s)).add 0 = a := by rw [Nat.zero_mul]; rfl
    rw [ha0] at hc00
    obtain ⟨hsp, cells0, t0, fr0, hh, _⟩ := cell_some hc00
    refine ⟨a.block, a.off, s, cells0, t0, fr0, by cases a; simp_all, hs, fun h => h, hh, fun i y hi => ?_⟩
    obtain ⟨cs', _, hr, hlen, hcell⟩ := hall i y hi
    refine ⟨cs', hlen, henc w y cs' hr, fun j v hj => ?_⟩
    have hjs : j < s := by rw [<- hlen]; exact (List.getElem?_eq_some_iff.1 hj).1
    have hc := hcell j hjs
    rw [hj, add_none hsp, add_none (by rfl)] at hc
    obtain ⟨_, c2, t2, fr2, hh2, hv2⟩ := cell_some hc
    simp only at hh2 hv2
    rw [hh] at hh2
    cases hh2
    exact hv2
theorem opensF_one {t : TypeId} {o n : Nat} {α : Type} {cells : α -> List PV} {good : α -> Prop} (hn : P.cellsOf t = n) (h : Opens P I t cells good) : OpensF P I [(t, o)] o n cells good := by
 refine ⟨?_⟩
 intro H encH w base spare held fuel cs hlen hall
 obtain ⟨y, hy, hz⟩ := hall 0 _ rfl
 simp only at hy
 rw [Nat.sub_self, List.drop_zero, hn, <- hlen, List.take_length] at hy
 exact h.get encH w base spare held fuel cs y hy hz
theorem opensF_cons {t : TypeId} {fs : List (TypeId × Nat)} {o c n : Nat} {α β : Type} {cells : α -> List PV} {good : α -> Prop} {cells2 : β -> List PV} {good2 : β -> Prop} (hc : P.cellsOf t = c)
 (h : Opens P I t cells good) (hoff : (fs.all fun g => Nat.ble (o + c) g.2) = true) (h2 : OpensF P I fs (o + c) n cells2 good2) :
 OpensF P I ((t, o) :: fs) o (c + n) (fun x : α × β => cells x.1 ++ cells2 x.2) (fun x => good x.1 /\ good2 x.2) := by
 refine ⟨?_⟩
 intro H encH w base spare held fuel cs hlen hall
 obtain ⟨y, hy, hz0⟩ := hall 0 _ rfl
 simp only at hy
 rw [Nat.sub_self, List.drop_zero, hc] at hy
 obtain ⟨a, ha, hra⟩ := h.get encH w base spare held fuel _ y hy hz0
 obtain ⟨b, hb, hrb⟩ := h2.get encH w base spare held fuel (cs.drop c) (by rw [List.length_drop, hlen]; omega) (fun j g hg => by
  obtain ⟨z, hz, hz1⟩ := hall (j + 1) g hg
  have hge : o + c <= g.2 := by
   have := List.all_eq_true.1 hoff g (List.mem_of_getElem? hg)
   exact Nat.le_of_ble_eq_true this
  refine ⟨z, ?_, hz1⟩
  rw [List.drop_drop, show c + (g.2 - (o + c)) = g.2 - o by omega]
  exact hz)
 refine ⟨(a, b), ⟨ha, hb⟩, ?_⟩
 have := go_append hra hrb
 rwa [List.take_append_drop] at this
theorem opens_struct {t : TypeId} {fs : Array Field} {ps : List (TypeId × Nat)} {n : Nat} (ht : P.underlying t = some (.struct fs)) (hps : fs.toList.map (fun f => (f.type, f.offset)) = ps) (hn : P.cellsOf t = n) {α : Type} {cells : α -> List PV} {good : α -> Prop}
 (h : OpensF P I ps 0 n cells good) : Opens P I t cells good := by
 refine ⟨?_⟩
 intro H encH w base spare held fuel cs x hx hw0
 obtain ⟨xs, m, _, rfl, hlen, hsz, hall⟩ := DataW.trod_struct ht hx
 simp only [DataW.weights, ht] at hw0
 refine h.get encH w base spare held m cs (by rw [hlen, hn]) (fun j f hj => ?_)
 rw [<- hps, List.getElem?_map] at hj
 obtain ⟨g, hg, rfl⟩ := Option.map_eq_some_iff.1 hj
 have hj' : fs[j]? = some g := by rw [<- Array.getElem?_toList]; exact hg
 have h1 := hall j g hj'
 have hjlt : j < xs.length := by rw [hsz]; exact (Array.getElem?_eq_some_iff.1 hj').1
 rw [List.getElem?_eq_getElem hjlt] at h1
 simp only [Nat.sub_zero]
 exact ⟨_, h1, each_get hw0 j g.type _ (by rw [List.getElem?_map, hg]; rfl) (by rw [List.getElem?_map, List.getElem?_eq_getElem hjlt]; rfl)⟩
theorem Opens.arg {t : TypeId} {α : Type} {enc : α -> PV} {cells : α -> List PV} {good : α -> Prop} (ho : Opens P I t cells good) (hagg : ∀ a, (enc a).isAgg = (match P.underlying t with | some (.struct _) | some (.array _ _) => true | _ => false))
 (henc : ∀ (w : World) a cs, RepF.go I NoM w (cells a) cs -> RepF I NoM w (enc a) cs) {H : Type} {encH : TypeId × Value -> H} {w W : World} {base : Nat} {spare : Nat -> Bool} {held : Bool} {r : Reach} {b0 : Nat} {v : Value} {d : DataW H} {ps : List MemPlace}
 (hv : Value.okWide P W r b0 t v) (h : DataW.Trod encH P w base spare held t v d ps) (hw0 : (d.weights P t).all (· <= reachBytes) = true) : ∃ a, good a /\ RepF I NoM w (enc a) v.cells.toList /\ isAggV v = (enc a).isAgg := by
 obtain ⟨fuel, h⟩ := h
 obtain ⟨a, ha, hr⟩ := ho.get encH w base spare held fuel _ _ h hw0
 refine ⟨a, ha, henc w a _ hr, ?_⟩
 rw [hagg]
 cases hu : P.underlying t with
 | none =>
  cases fuel with
  | zero => simp [DataW.trod] at h
  | succ n => simp [DataW.trod, hu] at h
 | some td =>
  have notag : ∀ {v : Value}, Value.okWide P W r b0 t v -> (match some td with | some (.struct _) | some (.array _ _) => true | _ => false) = false -> isAggV v = false := by
   intro v hv hq
   cases v with
   | agg cs =>
    exfalso
    unfold Value.okWide at hv
    rw [hu] at hv
    cases td <;> simp [Cell.okWide, hu, Cell.ok] at hv hq
   | _ => rfl
  cases td with
  | struct fs => obtain ⟨cs, rfl, _⟩ := okWide_struct hu hv; rfl
  | array n e =>
   unfold Value.okWide at hv
   rw [hu] at hv
   obtain ⟨cs, rfl, _⟩ := hv; rfl
  | _ => exact notag hv rfl
end
end Go.Ab.T
namespace Go.Ab.T
open Go
def stepN (v : Nat) : Nat := if v % 2 = 1 then (v / 2) ^^^ 3988292384 else v / 2
def step8 (v : Nat) : Nat := stepN (stepN (stepN (stepN (stepN (stepN (stepN (stepN v)))))))
def stepIt : Nat -> Nat -> Nat
 | 0, v => v
 | n + 1, v => stepIt n (stepN v)
theorem stepN_xor (a b : Nat) : stepN (a ^^^ b) = stepN a ^^^ stepN b := by
 unfold stepN
 have h := Nat.xor_mod_two_eq_one (a := a) (b := b)
 have hd : (a ^^^ b) / 2 = a / 2 ^^^ b / 2 := Nat.xor_div_two
 by_cases ha : a % 2 = 1 <;> by_cases hb : b % 2 = 1
 ·rw [if_neg (by rw [h]; simp [ha, hb]), if_pos ha, if_pos hb, hd]
  rw [Nat.xor_assoc, <- Nat.xor_assoc 3988292384, Nat.xor_comm 3988292384 (b / 2), Nat.xor_assoc (b / 2), Nat.xor_self, Nat.xor_zero]
 ·rw [if_pos (by rw [h]; simp [ha, hb]), if_pos ha, if_neg hb, hd]
  rw [Nat.xor_assoc, Nat.xor_comm (b / 2), <- Nat.xor_assoc]
 ·rw [if_pos (by rw [h]; simp [ha, hb]), if_neg ha, if_pos hb, hd, Nat.xor_assoc]
 ·rw [if_neg (by rw [h]; simp [ha, hb]), if_neg ha, if_neg hb, hd]
theorem step8_xor (a b : Nat) : step8 (a ^^^ b) = step8 a ^^^ step8 b := by
 unfold step8
 simp only [stepN_xor]
theorem stepN_even (k : Nat) : stepN (2 * k) = k := by
 unfold stepN
 rw [if_neg (by omega)]; omega
theorem step8_high (h : Nat) : step8 (256 * h) = h := by
 unfold step8
 rw [show 256 * h = 2 * (2 * (2 * (2 * (2 * (2 * (2 * (2 * h))))))) by omega]
 simp only [stepN_even]
theorem stepN_lt {v : Nat} (h : v < 4294967296) : stepN v < 4294967296 := by
 unfold stepN
 split
 ·exact Nat.xor_lt_two_pow (n := 32) (by omega) (by decide)
 ·omega
theorem step8_lt {v : Nat} (h : v < 4294967296) : step8 v < 4294967296 :=
 stepN_lt (stepN_lt (stepN_lt (stepN_lt (stepN_lt (stepN_lt (stepN_lt (stepN_lt h)))))))
theorem split256 (v : Nat) : v = (v % 256) ^^^ (256 * (v / 256)) := by
 have h1 : (v % 256 ^^^ 256 * (v / 256)) % 256 = v % 256 := by
  have := Nat.xor_mod_two_pow (a := v % 256) (b := 256 * (v / 256)) (n := 8)
  rw [show (2 : Nat) ^ 8 = 256 from rfl] at this
  rw [this, Nat.mod_mod, Nat.mul_mod_right, Nat.xor_zero]
 have h2 : (v % 256 ^^^ 256 * (v / 256)) / 256 = v / 256 := by
  have := Nat.xor_div_two_pow (a := v % 256) (b := 256 * (v / 256)) (n := 8)
  rw [show (2 : Nat) ^ 8 = 256 from rfl] at this
  rw [this, Nat.mul_div_cancel_left _ (by decide), Nat.div_eq_of_lt (Nat.mod_lt _ (by decide)), Nat.zero_xor]
 omega
theorem step8_tab (v b : Nat) : step8 (v ^^^ b) = step8 ((v % 256) ^^^ b) ^^^ (v / 256) := by
 have e : v ^^^ b = ((v % 256) ^^^ b) ^^^ (256 * (v / 256)) := by
  conv => lhs; rw [split256 v]
  rw [Nat.xor_assoc, Nat.xor_comm (256 * (v / 256)) b, <- Nat.xor_assoc]
 rw [e, step8_xor, step8_high]
def crcV (v : Nat) (l : List UInt8) : Nat := l.foldl (fun v b => step8 (v ^^^ b.toNat)) v
def crcN (l : List UInt8) : Nat := 4294967295 - crcV 4294967295 l
theorem u8_lt (b : UInt8) : b.toNat < 4294967296 := by have := b.toNat_lt; omega
theorem upd_lt {v : Nat} (h : v < 4294967296) (b : UInt8) : step8 (v ^^^ b.toNat) < 4294967296 := step8_lt (Nat.xor_lt_two_pow (n := 32) h (u8_lt b))
theorem crcV_lt : ∀ (l : List UInt8) (v : Nat), v < 4294967296 -> crcV v l < 4294967296
 | [], _, h => h
 | b :: l, v, h => crcV_lt l _ (upd_lt h b)
end Go.Ab.T
namespace Go.Ab.T
open Go Go.Ab
def sizeOk (n : Int) : Bool := n == 1 || n == 2 || n == 4 || n == 8
def sizeB (n : Int) : Int := bif sizeOk n then 8 * n else 0
def byteAt (s : ByteArray) (i : Nat) : Nat := (s.data.toList.getD i 0).toNat
def beV (s : ByteArray) (at_ : Nat) : Nat -> Nat
 | 0 => 0
 | n + 1 => 256 * beV s at_ n + byteAt s (at_ + n)
theorem byteAt_lt (s : ByteArray) (i : Nat) : byteAt s i < 256 := by unfold byteAt; exact UInt8.toNat_lt _
theorem beV_lt (s : ByteArray) (a : Nat) : ∀ n, beV s a n < 256 ^ n
 | 0 => by simp [beV]
 | n + 1 => by
  have h1 := beV_lt s a n
  have h2 := byteAt_lt s (a + n)
  rw [beV, Nat.pow_succ]
  omega
theorem byteAt_of {s : ByteArray} {i : Nat} {b : UInt8} (h : s[i]? = some b) : byteAt s i = b.toNat := by
 have hlt : i < s.size := by
  rcases Nat.lt_or_ge i s.size with h1 | h1
  ·exact h1
  ·rw [ByteArray.getElem?_ge' s i (by omega)] at h; cases h
 rw [ByteArray.getElem?_lt' s i hlt] at h
 cases h
 unfold byteAt
 have : i < s.data.toList.length := by simpa using hlt
 rw [List.getD_eq_getElem?_getD, List.getElem?_eq_getElem this]
 simp [ByteArray.getElem_eq_getElem_data]
theorem sget {s : ByteArray} {i : Nat} {p : UInt8 -> Prop} (hi : i < s.size) (h : ∀ b, s[i]? = some b -> p b) : (0 <= (i : Int) /\ (i : Int) < (s.size : Int)) /\ ∀ z, s[(i : Int).toNat]? = some z -> p z := by
 refine ⟨⟨by omega, by omega⟩, fun z hz => h z ?_⟩
 simpa using hz
theorem pow256 (n : Nat) (h : n <= 8) : 256 ^ n <= 18446744073709551616 := by
 have : 256 ^ n <= 256 ^ 8 := Nat.pow_le_pow_right (by omega) h
 have h8 : (256 : Nat) ^ 8 = 18446744073709551616 := by decide
 omega
theorem u64_id (n : Int) (h0 : 0 <= n) (h1 : n < 18446744073709551616) : IntKind.u64.wrap n = n := by
 unfold IntKind.wrap
 have e1 : ((2 : Int) ^ IntKind.u64.bits) = 18446744073709551616 := by decide
 have e2 : IntKind.u64.signed = false := rfl
 rw [e1, e2]
 simp only [Bool.false_and, Bool.false_eq_true, if_false]
 omega
theorem or_u64 (x y : Nat) (hx : x < 18446744073709551616) (hy : y < 18446744073709551616) : Go.bits .or .u64 (x : Int) (y : Int) = ((x ||| y : Nat) : Int) := by
 unfold Go.bits
 show IntKind.u64.wrap (((BitVec.ofInt 64 (x : Int)) ||| (BitVec.ofInt 64 (y : Int))).toNat : Int) = _
 rw [BitVec.ofInt_natCast, BitVec.ofInt_natCast, BitVec.toNat_or, BitVec.toNat_ofNat, BitVec.toNat_ofNat]
 have e : (2 : Nat) ^ 64 = 18446744073709551616 := by decide
 rw [e, Nat.mod_eq_of_lt hx, Nat.mod_eq_of_lt hy]
 have hlt : x ||| y < 2 ^ 64 := Nat.or_lt_two_pow (by omega) (by omega)
 exact u64_id _ (by omega) (by omega)
theorem or_byte (v b : Nat) (hv : v * 256 < 18446744073709551616) (hb : b < 256) : Go.bits .or .u64 (IntKind.u64.wrap ((v : Int) * 2 ^ min (8 : Int).toNat IntKind.u64.bits)) (b : Int) = ((256 * v + b : Nat) : Int) := by
 have h1 : (2 : Int) ^ min (8 : Int).toNat IntKind.u64.bits = 256 := by decide
 rw [h1, u64_id _ (by omega) (by omega)]
 have e1 : ((v : Int) * 256) = ((v * 256 : Nat) : Int) := by omega
 rw [e1]
 have h3 : (v * 256) ||| b = 256 * v + b := by
  have := Nat.shiftLeft_add_eq_or_of_lt (i := 8) (b := b) (by omega) v
  rw [Nat.shiftLeft_eq] at this
  have e2 : (2 : Nat) ^ 8 = 256 := by decide
  rw [e2] at this
  omega
 rw [or_u64 _ _ (by omega) (by omega), h3]
def failR (e : Err) (sec k a : Int) : Err := bif e.isNil then inE sec (atE a (newE k)) else e
def needE (e : Err) (ok : Bool) (sec k a : Int) : Err := bif ok then e else failR e sec k a
theorem failR2_not (e : Err) (sec a : Int) : (failR e sec 2 a).isNil = false := by
 unfold failR
 cases h : e.isNil with
 | true => rfl
 | false => exact h
def rdOk (s : ByteArray) (a n : Int) (e : Err) : Bool := decide (n <= (s.size : Int) - a) && e.isNil
def rdE (s : ByteArray) (a n sec : Int) (e : Err) : Err := needE e (decide (n <= (s.size : Int) - a)) sec 2 a
theorem rdE_nil (s : ByteArray) (a n sec : Int) (e : Err) : (rdE s a n sec e).isNil = rdOk s a n e := by
 unfold rdE rdOk needE
 cases decide (n <= (s.size : Int) - a) with
 | true => rfl
 | false => exact failR2_not e sec a
def rdV (s : ByteArray) (a n : Int) (e : Err) : Int := bif rdOk s a n e then (beV s a.toNat n.toNat : Int) else 0
def rdAt (s : ByteArray) (a n : Int) (e : Err) : Int := bif rdOk s a n e then a + n else a
def rdT (s : ByteArray) (a n : Int) (e : Err) : ByteArray := bif rdOk s a n e then s.extract a.toNat (a + n).toNat else ⟨#[]⟩
theorem sizeOk_cases {n : Int} (h : sizeOk n = true) : n = 1 \/ n = 2 \/ n = 4 \/ n = 8 := by
 simp only [sizeOk, Bool.or_eq_true, beq_iff_eq] at h
 omega
theorem rdV_lt (s : ByteArray) (a : Int) (n : Nat) (e : Err) : 0 <= rdV s a n e /\ rdV s a n e < ((256 ^ n : Nat) : Int) := by
 unfold rdV
 have h1 := beV_lt s a.toNat n
 cases rdOk s a n e with
 | false =>
  show (0 : Int) <= 0 /\ (0 : Int) < ((256 ^ n : Nat) : Int)
  omega
 | true =>
  show 0 <= (beV s a.toNat (n : Int).toNat : Int) /\ (beV s a.toNat (n : Int).toNat : Int) < ((256 ^ n : Nat) : Int)
  rw [Int.toNat_natCast]
  omega
theorem u32_id (n : Int) (h0 : 0 <= n) (h1 : n < 4294967296) : IntKind.u32.wrap n = n := by
 unfold IntKind.wrap
 have e1 : ((2 : Int) ^ IntKind.u32.bits) = 4294967296 := by decide
 have e2 : IntKind.u32.signed = false := rfl
 rw [e1, e2]
 simp only [Bool.false_and, Bool.false_eq_true, if_false]
 omega
def beL : Nat -> Nat -> List UInt8
 | 0, _ => []
 | n + 1, v => UInt8.ofNat (v / 256 ^ n % 256) :: beL n v
theorem beL_len (v : Nat) : ∀ n, (beL n v).length = n
 | 0 => rfl
 | n + 1 => by rw [beL, List.length_cons, beL_len v n]
theorem u8_id (n : Int) (h0 : 0 <= n) (h1 : n < 256) : IntKind.u8.wrap n = n := by
 unfold IntKind.wrap
 have e1 : ((2 : Int) ^ IntKind.u8.bits) = 256 := by decide
 have e2 : IntKind.u8.signed = false := rfl
 rw [e1, e2]
 simp only [Bool.false_and, Bool.false_eq_true, if_false]
 omega
def getOk (s : ByteArray) (a n : Int) : Bool := sizeOk n && decide (0 <= a) && decide (a <= s.size) && decide (n <= (s.size : Int) - a)
def getV (s : ByteArray) (a n : Int) : Int := bif getOk s a n then (beV s a.toNat n.toNat : Int) else 0
end Go.Ab.T
namespace Go.Ab.T
open Go Go.Ab
abbrev F3 := Int × Int × Int
def rFail (f : F3) (sec k a : Int) : F3 := bif (f.1 == 0) && isCls k then (k, sec, a) else f
def nOk (s : ByteArray) (a n : Int) (f : F3) : Bool := (f.1 == 0) && getOk s a n
def nV (s : ByteArray) (a n : Int) (f : F3) : Int := bif nOk s a n f then (beV s a.toNat n.toNat : Int) else 0
def nAt (s : ByteArray) (a n : Int) (f : F3) : Int := bif nOk s a n f then a + n else a
def nF (s : ByteArray) (a n sec : Int) (f : F3) : F3 := bif getOk s a n then f else rFail f sec 2 a
theorem rFail_bad {f : F3} (h : (f.1 == 0) = false) (sec k a : Int) : rFail f sec k a = f := by
 unfold rFail; rw [h]; rfl
inductive GoodE : Err -> Prop where
 | nil : GoodE .nil
 | spc (s a k : Int) (h : isCls k = true) : GoodE (.sec s (.plc a (.cls k)))
theorem GoodE.cases {e : Err} (h : GoodE e) : e = .nil \/ ∃ s a k, isCls k = true /\ e = .sec s (.plc a (.cls k)) := by
 cases h with
 | nil => exact .inl rfl
 | spc s a k h => exact .inr ⟨s, a, k, h, rfl⟩
theorem ofE_spc (s a k : Int) : ofE (.sec s (.plc a (.cls k))) = (k, s, a) := rfl
theorem isCls_ne {k : Int} (h : isCls k = true) : (k == 0) = false := by
 simp only [isCls, Bool.and_eq_true, decide_eq_true_eq] at h
 simp; omega
theorem GoodE.nil_iff {e : Err} (h : GoodE e) : ((ofE e).1 == 0) = e.isNil := by
 rcases h.cases with rfl | ⟨s, a, k, hk, rfl⟩
 ·rfl
 ·rw [ofE_spc]; exact isCls_ne hk
theorem GoodE.fail {e : Err} (h : GoodE e) (sec k a : Int) : GoodE (failR e sec k a) := by
 unfold failR
 cases hn : e.isNil with
 | false => exact h
 | true =>
  show GoodE (inE sec (atE a (newE k)))
  unfold newE
  cases hk : isCls k with
  | false => exact .nil
  | true => exact .spc sec a k hk
theorem GoodE.ofE_fail {e : Err} (h : GoodE e) (sec k a : Int) : ofE (failR e sec k a) = rFail (ofE e) sec k a := by
 unfold failR rFail
 rw [h.nil_iff]
 cases hn : e.isNil with
 | false => rfl
 | true =>
  show ofE (inE sec (atE a (newE k))) = _
  unfold newE
  cases hk : isCls k with
  | true => rfl
  | false =>
   rcases h.cases with rfl | ⟨s, a, k, hk, rfl⟩
   ·rfl
   ·cases hn
theorem GoodE.need {e : Err} (h : GoodE e) (t : Bool) (sec k a : Int) : GoodE (needE e t sec k a) := by
 unfold needE; cases t
 ·exact h.fail sec k a
 ·exact h
theorem GoodE.ofE_need {e : Err} (h : GoodE e) (t : Bool) (sec k a : Int) : ofE (needE e t sec k a) = bif t then ofE e else rFail (ofE e) sec k a := by
 unfold needE; cases t
 ·exact h.ofE_fail sec k a
 ·rfl
theorem GoodE.rd {e : Err} (h : GoodE e) (s : ByteArray) (a n sec : Int) : GoodE (rdE s a n sec e) := h.need _ _ _ _
section
variable {e : Err} (h : GoodE e) {s : ByteArray} {a n : Int}
include h
theorem GoodE.nOk (h0 : 0 <= a) (h1 : a <= s.size) (hn : sizeOk n = true) : nOk s a n (ofE e) = rdOk s a n e := by
 unfold Go.Ab.T.nOk rdOk getOk
 rw [h.nil_iff, hn]
 simp only [h0, h1, decide_true, Bool.true_and]
 exact Bool.and_comm _ _
theorem GoodE.nV (h0 : 0 <= a) (h1 : a <= s.size) (hn : sizeOk n = true) : nV s a n (ofE e) = rdV s a n e := by
 unfold Go.Ab.T.nV rdV; rw [h.nOk h0 h1 hn]
theorem GoodE.nAt (h0 : 0 <= a) (h1 : a <= s.size) (hn : sizeOk n = true) : nAt s a n (ofE e) = rdAt s a n e := by
 unfold Go.Ab.T.nAt rdAt; rw [h.nOk h0 h1 hn]
theorem GoodE.nF (sec : Int) (h0 : 0 <= a) (h1 : a <= s.size) (hn : sizeOk n = true) : nF s a n sec (ofE e) = ofE (rdE s a n sec e) := by
 unfold Go.Ab.T.nF rdE
 rw [h.ofE_need]
 have : getOk s a n = decide (n <= (s.size : Int) - a) := by
  unfold getOk; rw [hn]; simp only [h0, h1, decide_true, Bool.true_and]
 rw [this]
end
theorem rdAt_le {s : ByteArray} {a n : Int} {e : Err} (h0 : 0 <= a) (h1 : a <= s.size) (hn : 0 <= n) : 0 <= rdAt s a n e /\ rdAt s a n e <= s.size := by
 unfold rdAt
 cases h : rdOk s a n e with
 | false => exact ⟨h0, h1⟩
 | true =>
  simp only [rdOk, Bool.and_eq_true, decide_eq_true_eq] at h
  show 0 <= a + n /\ a + n <= (s.size : Int)
  omega
theorem rd_fits (s : ByteArray) (a n sec : Int) (h : n <= (s.size : Int) - a) : rdV s a n .nil = (beV s a.toNat n.toNat : Int) /\ rdAt s a n .nil = a + n /\ rdT s a n .nil = s.extract a.toNat (a + n).toNat /\ rdE s a n sec .nil = .nil := by
 have h0 : decide (n <= (s.size : Int) - a) = true := decide_eq_true h
 have h1 : rdOk s a n .nil = true := by unfold rdOk; rw [h0]; rfl
 refine ⟨by rw [rdV, h1]; rfl, by rw [rdAt, h1]; rfl, by rw [rdT, h1]; rfl, ?_⟩
 unfold rdE; rw [h0]; rfl
section
variable {e : Err} (h : GoodE e) {s : ByteArray} {a n : Int}
include h
end
end Go.Ab.T
namespace Go.Ab.T
open Go Go.Ab
def letZ (b : Int) : Bool := decide (b >= 65) && decide (b <= 90)
def digZ (b : Int) : Bool := b == 95 || (decide (b >= 48) && decide (b <= 57))
def mayZ (b i : Int) : Bool := bif digZ b then !(i == 0) else letZ b
def rightFrom : List UInt8 -> Nat -> Bool
 | [], _ => true
 | b :: r, i => mayZ b.toNat i && rightFrom r (i + 1)
def rightN (s : ByteArray) : Bool := decide (1 <= (s.size : Int)) && (decide ((s.size : Int) <= 16) && rightFrom s.data.toList 0)
def allR : List UInt8 -> Bool
 | [] => true
 | b :: r => (letZ b.toNat || digZ b.toNat) && allR r
theorem bget (s : ByteArray) (i : Nat) : s[i]? = s.data.toList[i]? := by
 rcases Nat.lt_or_ge i s.size with h | h
 ·rw [ByteArray.getElem?_lt' s i h]
  have : i < s.data.toList.length := by simpa using h
  rw [List.getElem?_eq_getElem this]
  simp [ByteArray.getElem_eq_getElem_data]
 ·rw [ByteArray.getElem?_ge' s i (by omega)]
  rw [List.getElem?_eq_none (by simpa using h)]
theorem blen (s : ByteArray) : s.data.toList.length = s.size := by simp
theorem let_dig (b : Int) : (letZ b && digZ b) = false := by
 cases h : digZ b with
 | false => simp
 | true =>
  have h2 : letZ b = false := by
   simp only [digZ, Bool.or_eq_true, beq_iff_eq, Bool.and_eq_true, decide_eq_true_eq] at h
   simp only [letZ, Bool.and_eq_false_iff, decide_eq_false_iff_not]
   omega
  simp [h2]
theorem mayZ_zero (b : Int) : mayZ b 0 = letZ b := by
 have := let_dig b
 unfold mayZ
 cases h : digZ b with
 | false => rfl
 | true => rw [h, Bool.and_true] at this; rw [this]; rfl
theorem mayZ_succ (b : Int) (i : Nat) : mayZ b ((i + 1 : Nat) : Int) = (letZ b || digZ b) := by
 unfold mayZ
 have h0 : (((i + 1 : Nat) : Int) == 0) = false := beq_false_of_ne (by omega)
 rw [h0]
 cases digZ b <;> simp
theorem rightFrom_succ : ∀ (l : List UInt8) (i : Nat), rightFrom l (i + 1) = allR l
 | [], _ => rfl
 | b :: r, i => by rw [rightFrom, allR, mayZ_succ, rightFrom_succ r (i + 1)]
theorem rightN_ref (s : ByteArray) : rightN s = (!(s.toList == ByteArray.toList ⟨#[]⟩) && (decide ((s.size : Int) <= 16) && (letZ (byteAt s 0) && allR s.data.toList))) := by
 rw [ByteArray.toList_eq, ByteArray.toList_eq]
 unfold rightN byteAt
 have hl := blen s
 cases hs : s.data.toList with
 | nil =>
  rw [hs] at hl
  have : decide (1 <= (s.size : Int)) = false := decide_eq_false (by simp at hl; omega)
  rw [this]; rfl
 | cons b r =>
  rw [hs] at hl
  have : decide (1 <= (s.size : Int)) = true := decide_eq_true (by simp at hl; omega)
  have e0 : (((0 : Nat)) : Int) = 0 := rfl
  rw [this, rightFrom, rightFrom_succ, e0, mayZ_zero, allR]
  show (true && _) = (true && _)
  simp only [Bool.true_and, List.getD_cons_zero]
  cases letZ (b.toNat : Int) <;> simp
def nmK (s : ByteArray) (a sec : Int) (e : Err) : Err := needE (rdE s a 1 sec e) (decide (rdV s a 1 e >= 1) && decide (rdV s a 1 e <= 16)) sec 7 a
def nmE (s : ByteArray) (a sec : Int) (e : Err) : Err := bif (nmK s a sec e).isNil then needE (rdE s (rdAt s a 1 e) (max (rdV s a 1 e) 0) sec (nmK s a sec e)) (rightN (rdT s (rdAt s a 1 e) (max (rdV s a 1 e) 0) (nmK s a sec e))) sec 7 a else nmK s a sec e
def nmAt (s : ByteArray) (a sec : Int) (e : Err) : Int := bif (nmK s a sec e).isNil then rdAt s (rdAt s a 1 e) (max (rdV s a 1 e) 0) (nmK s a sec e) else rdAt s a 1 e
def nmT (s : ByteArray) (a sec : Int) (e : Err) : ByteArray := bif (nmE s a sec e).isNil then rdT s (rdAt s a 1 e) (max (rdV s a 1 e) 0) (nmK s a sec e) else ⟨#[]⟩
inductive GoodF : F3 -> Prop where
 | mk {e : Err} (h : GoodE e) : GoodF (ofE e)
theorem GoodF.ex {f : F3} (h : GoodF f) : ∃ e, GoodE e /\ f = ofE e := by cases h with | mk h => exact ⟨_, h, rfl⟩
theorem failR_bad {e : Err} (h : e.isNil = false) (sec k a : Int) : failR e sec k a = e := by unfold failR; rw [h]; rfl
theorem needE_bad {e : Err} (h : e.isNil = false) (t : Bool) (sec k a : Int) : needE e t sec k a = e := by
 unfold needE; rw [failR_bad h]; cases t <;> rfl
theorem isNil_eq {e : Err} (h : e.isNil = true) : e = .nil := by cases e <;> first | rfl | cases h
theorem nmAt_le {s : ByteArray} {a : Int} {e : Err} (sec : Int) (h0 : 0 <= a) (h1 : a <= s.size) : 0 <= nmAt s a sec e /\ nmAt s a sec e <= s.size := by
 obtain ⟨q0, q1⟩ := rdAt_le (e := e) (n := 1) h0 h1 (by omega)
 unfold nmAt
 cases (nmK s a sec e).isNil with
 | false => exact ⟨q0, q1⟩
 | true => exact rdAt_le q0 q1 (by omega)
end Go.Ab.T
namespace Go.Ab.T
open Go Go.Ab
abbrev RS := Int × Err
def hM (s : ByteArray) (c : Int) (x : RS) : RS := (rdAt s x.1 1 x.2, needE (rdE s x.1 1 1 x.2) (rdV s x.1 1 x.2 == c) 1 3 x.1)
def hR (s : ByteArray) (n : Int) (x : RS) : RS := (rdAt s x.1 n x.2, rdE s x.1 n 1 x.2)
def hN (s : ByteArray) (n lo hi : Int) (x : RS) : RS := (rdAt s x.1 n x.2, needE (rdE s x.1 n 1 x.2) (decide (rdV s x.1 n x.2 >= lo) && decide (rdV s x.1 n x.2 <= hi)) 1 8 x.1)
def hx4 (s : ByteArray) (x : RS) : RS := hM s 49 (hM s 77 (hM s 87 (hM s 67 x)))
def hx5 (s : ByteArray) (x : RS) : RS := hR s 4 (hx4 s x)
def hx6 (s : ByteArray) (x : RS) : RS := hR s 8 (hx5 s x)
def hx7 (s : ByteArray) (x : RS) : RS := hR s 1 (hx6 s x)
def hx8 (s : ByteArray) (x : RS) : RS := hN s 1 1 32 (hx7 s x)
def hx9 (s : ByteArray) (x : RS) : RS := hN s 1 1 16 (hx8 s x)
def hx10 (s : ByteArray) (x : RS) : RS := hN s 2 0 240 (hx9 s x)
def hx11 (s : ByteArray) (x : RS) : RS := hN s 2 0 512 (hx10 s x)
def hIn (s : ByteArray) (x : RS) : Prop := 0 <= x.1 /\ x.1 <= (s.size : Int)
def hV (s : ByteArray) (n : Int) (x y : RS) : Int := bif x.2.isNil then rdV s y.1 n y.2 else 0
theorem hIn.m {s : ByteArray} {x : RS} (c : Int) (h : hIn s x) : hIn s (hM s c x) := rdAt_le h.1 h.2 (by omega)
theorem hIn.r {s : ByteArray} {x : RS} {n : Int} (hn : 0 <= n) (h : hIn s x) : hIn s (hR s n x) := rdAt_le h.1 h.2 hn
theorem hIn.n {s : ByteArray} {x : RS} {n lo hi : Int} (hn : 0 <= n) (h : hIn s x) : hIn s (hN s n lo hi x) := rdAt_le h.1 h.2 hn
end Go.Ab.T
namespace Go.Ab.T
open Go Go.Ab
theorem beL_get (v : Nat) : ∀ (n i : Nat), i < n -> (beL n v)[i]? = some (UInt8.ofNat (v / 256 ^ (n - 1 - i) % 256))
 | 0, i, h => absurd h (Nat.not_lt_zero _)
 | n + 1, 0, _ => by rw [beL]; simp
 | n + 1, i + 1, h => by
  have e : n + 1 - 1 - (i + 1) = n - 1 - i := by omega
  rw [beL, e, List.getElem?_cons_succ, beL_get v n i (by omega)]
theorem beV_step (u m : Nat) : 256 * (u / 256 % 256 ^ m) + u % 256 = u % 256 ^ (m + 1) := by
 have := Nat.mod_mul (x := u) (a := 256) (b := 256 ^ m)
 rw [Nat.pow_succ, Nat.mul_comm (256 ^ m) 256, this]; omega
theorem ofNat_toNat (x : Nat) : (UInt8.ofNat (x % 256)).toNat = x % 256 := by rw [UInt8.toNat_ofNat']; omega
theorem beV_of {S : ByteArray} {a n v : Nat} (h : ∀ i, i < n -> byteAt S (a + i) = v / 256 ^ (n - 1 - i) % 256) : ∀ m, m <= n -> beV S a m = v / 256 ^ (n - m) % 256 ^ m
 | 0, _ => by rw [beV]; simp [Nat.mod_one]
 | m + 1, hm => by
  rw [beV, beV_of h m (by omega), h m (by omega)]
  have e1 : n - m = (n - 1 - m) + 1 := by omega
  have e2 : n - (m + 1) = n - 1 - m := by omega
  rw [e1, e2, Nat.pow_succ, <- Nat.div_div_eq_div_mul]
  exact beV_step _ m
theorem beSize (n w : Nat) : (ByteArray.mk (beL n w).toArray).size = n := by
 show (beL n w).toArray.size = n; rw [List.size_toArray, beL_len]
end Go.Ab.T
namespace Go.Ab.T
open Go Go.Ab
theorem push_fold (l : List UInt8) : ∀ r : ByteArray, (l.map e_uint8).foldl (fun r x => r.push (UInt8.ofNat (pvNat x))) r = r ++ ⟨l.toArray⟩ := by
 induction l with
 | nil => intro r; apply ByteArray.ext; simp
 | cons b l ih =>
  intro r
  rw [List.map_cons, List.foldl_cons, ih]
  have h1 : UInt8.ofNat (pvNat (e_uint8 b)) = b := by
   show UInt8.ofNat ((b.toNat : Int).toNat) = b
   rw [Int.toNat_natCast, UInt8.ofNat_toNat]
  rw [h1]
  apply ByteArray.ext
  simp
theorem strPV_e (l : List UInt8) : strPV (l.map e_uint8) = ⟨l.toArray⟩ := by
 rw [strPV, push_fold]; apply ByteArray.ext; simp
theorem mk_size (l : List UInt8) : (ByteArray.mk l.toArray).size = l.length := by
 show l.toArray.size = _; simp
end Go.Ab.T
namespace Go.Ab.T
open Go Go.Ab
def fitsV (v n : Int) : Bool := sizeOk n && decide (v < ((256 ^ n.toNat : Nat) : Int))
def putV (l : List UInt8) (v n : Int) : List UInt8 := bif fitsV v n then l ++ beL n.toNat v.toNat else l
theorem fitsV_bad {v n : Int} (h : sizeOk n = false) : fitsV v n = false := by unfold fitsV; rw [h]; rfl
theorem fitsV_size {v n : Int} (h : fitsV v n = true) : sizeOk n = true := by
 unfold fitsV at h; simp only [Bool.and_eq_true] at h; exact h.1
theorem fdiv_beq_zero (v : Int) (p : Int) (hv : 0 <= v) (hp : 0 < p) : (v.fdiv p == 0) = decide (v < p) := by
 rw [Int.fdiv_eq_ediv_of_nonneg v (by omega)]
 have h : v / p = 0 ↔ v < p := by
  constructor
  ·intro h
   have := Int.lt_ediv_add_one_mul_self v hp
   rw [h] at this; omega
  ·intro h; exact Int.ediv_eq_zero_of_lt hv h
 rw [Bool.eq_iff_iff, beq_iff_eq, decide_eq_true_eq]; exact h
theorem fitsV_ok {v n : Int} (hs : sizeOk n = true) (h0 : 0 <= v) (h1 : v < 18446744073709551616) :
 (0 <= sizeB n /\ (v.fdiv (2 ^ min (sizeB n).toNat IntKind.u64.bits) == 0) = fitsV v n) /\ ((sizeB n == 64) = true -> fitsV v n = true) := by
 have hz : sizeB n = 8 * n := by unfold sizeB; rw [hs]; rfl
 have hp : ∀ p : Nat, ((2 : Int) ^ p) = ((2 ^ p : Nat) : Int) := fun p => by simp
 have hf : fitsV v n = decide (v < ((256 ^ n.toNat : Nat) : Int)) := by unfold fitsV; rw [hs]; rfl
 rw [hf, hz]
 rcases sizeOk_cases hs with rfl | rfl | rfl | rfl
 all_goals
  refine ⟨⟨by decide, ?_⟩, ?_⟩
  ·rw [fdiv_beq_zero v _ h0 (by decide)]; rfl
 ·intro h; exact absurd h (by decide)
 ·intro h; exact absurd h (by decide)
 ·intro h; exact absurd h (by decide)
 ·intro _; exact decide_eq_true (by show v < ((256 ^ 8 : Nat) : Int); have : ((256 ^ 8 : Nat) : Int) = 18446744073709551616 := by decide
                                    omega)
theorem u8_wrap (n : Nat) : IntKind.u8.wrap (n : Int) = ((n % 256 : Nat) : Int) := by
 unfold IntKind.wrap
 have e1 : ((2 : Int) ^ IntKind.u8.bits) = 256 := by decide
 have e2 : IntKind.u8.signed = false := rfl
 rw [e1, e2]
 simp only [Bool.false_and, Bool.false_eq_true, if_false]
 omega
theorem shr_byte (v m : Nat) (hm : m < 8) : ((v : Int).fdiv (2 ^ min (IntKind.i64.wrap ((8 : Int) * (m : Int))).toNat IntKind.u64.bits)) = ((v / 256 ^ m : Nat) : Int) := by
 rw [wrap_id _ (by omega) (by omega)]
 have e : (8 * (m : Int)).toNat = 8 * m := by omega
 have e2 : min (8 * m) IntKind.u64.bits = 8 * m := by show min (8 * m) 64 = _; omega
 have e3 : ((2 : Int) ^ (8 * m)) = ((256 ^ m : Nat) : Int) := by
  rw [Int.pow_mul]; simp
 rw [e, e2, e3, Int.fdiv_eq_ediv_of_nonneg _ (Int.natCast_nonneg _)]
 simp
end Go.Ab.T
namespace Go.Ab.T
open Go Go.Ab
def mostQ (i : Int) : Int := bif i == 1 then 32 else bif i == 2 then 16 else bif i == 3 then 240 else bif i == 4 then 512 else 0
def fineQ (i n : Int) : Bool := decide (n <= mostQ i) && (decide (n >= 1) || (decide (i >= 3) && (n == 0)))
theorem mostQ_get {i y : Int} (h0 : 0 <= i) (h1 : i < 5) (hy : ([0, 32, 16, 240, 512] : List Int)[i.toNat]? = some y) : y = mostQ i := by
 have : i = 0 \/ i = 1 \/ i = 2 \/ i = 3 \/ i = 4 := by omega
 rcases this with rfl | rfl | rfl | rfl | rfl <;> exact (Option.some.inj hy).symm
end Go.Ab.T
namespace Go.Ab.T
open Go Go.Ab
def Has (S : ByteArray) (a : Nat) (l : List UInt8) : Prop := ∃ pre post, S.data.toList = pre ++ (l ++ post) /\ pre.length = a
theorem Has.whole (l : List UInt8) : Has ⟨l.toArray⟩ 0 l := ⟨[], [], by simp, rfl⟩
theorem Has.left {S : ByteArray} {a : Nat} {l m : List UInt8} (h : Has S a (l ++ m)) : Has S a l := by
 obtain ⟨p, q, h1, h2⟩ := h
 exact ⟨p, m ++ q, by rw [h1, List.append_assoc], h2⟩
theorem Has.right {S : ByteArray} {a : Nat} {l m : List UInt8} (h : Has S a (l ++ m)) : Has S (a + l.length) m := by
 obtain ⟨p, q, h1, h2⟩ := h
 exact ⟨p ++ l, q, by rw [h1]; simp, by rw [List.length_append, h2]⟩
theorem Has.right' {S : ByteArray} {a b : Nat} {l m : List UInt8} (h : Has S a (l ++ m)) (hb : b = a + l.length) : Has S b m := hb ▸ h.right
theorem Has.size {S : ByteArray} {a : Nat} {l : List UInt8} (h : Has S a l) : a + l.length <= S.size := by
 obtain ⟨p, q, h1, h2⟩ := h
 have h3 : S.data.toList.length = S.size := by simp
 rw [<- h3, h1]; simp; omega
theorem Has.byte {S : ByteArray} {a : Nat} {l : List UInt8} (h : Has S a l) {i : Nat} {b : UInt8} (hi : l[i]? = some b) : byteAt S (a + i) = b.toNat := by
 obtain ⟨p, q, h1, h2⟩ := h
 unfold byteAt
 rw [h1, List.getD_eq_getElem?_getD, List.getElem?_append_right (by omega), List.getElem?_append_left (by
  have := (List.getElem?_eq_some_iff.1 hi).1; omega)]
 have e : a + i - p.length = i := by omega
 rw [e, hi]; rfl
theorem Has.num {S : ByteArray} {a n v : Nat} (h : Has S a (beL n v)) (hv : v < 256 ^ n) : beV S a n = v := by
 have := beV_of (S := S) (a := a) (n := n) (v := v) (fun i hi => by
  rw [h.byte (beL_get v n i hi)]; exact ofNat_toNat _) n (Nat.le_refl _)
 rw [this, Nat.sub_self, Nat.pow_zero, Nat.div_one, Nat.mod_eq_of_lt hv]
theorem Has.rd {S : ByteArray} {a n v : Nat} (h : Has S a (beL n v)) (hv : v < 256 ^ n) {x y : Int} (hx : x = (a : Int)) (hy : y = (n : Int)) :
 rdV S x y .nil = (v : Int) /\ rdAt S x y .nil = ((a + n : Nat) : Int) /\ ∀ sec, rdE S x y sec .nil = .nil := by
 subst hx hy
 have hs := h.size
 rw [beL_len] at hs
 refine ⟨?_, ?_, fun sec => ?_⟩
 ·obtain ⟨g1, _⟩ := rd_fits S (a : Int) (n : Int) 0 (by omega)
  rw [g1, Int.toNat_natCast, Int.toNat_natCast, h.num hv]
 ·obtain ⟨_, g2, _⟩ := rd_fits S (a : Int) (n : Int) 0 (by omega)
  rw [g2]; omega
 ·exact (rd_fits S (a : Int) (n : Int) sec (by omega)).2.2.2
theorem beL_beV (S : ByteArray) (a : Nat) : ∀ n, a + n <= S.size -> beL n (beV S a n) = (S.data.toList.drop a).take n := by
 have gen : ∀ n, a + n <= S.size -> ∀ i, i < n -> (beL n (beV S a n))[i]? = S.data.toList[a + i]? := by
  intro n
  induction n with
  | zero => intro _ i hi; omega
  | succ n ih =>
   intro hn i hi
   have hlen : S.data.toList.length = S.size := by simp
   have hget : S.data.toList[a + i]? = some (UInt8.ofNat (byteAt S (a + i))) := by
    unfold byteAt
    have hlt : a + i < S.data.toList.length := by omega
    rw [List.getD_eq_getElem?_getD, List.getElem?_eq_getElem hlt]
    simp
   rw [hget, beL_get _ _ _ hi]
   congr 1
   have hb := byteAt_lt S (a + n)
   rcases Nat.lt_or_ge i n with h | h
   ·have e := ih (by omega) i h
    rw [hget, beL_get _ _ _ h] at e
    have e2 : n + 1 - 1 - i = (n - 1 - i) + 1 := by omega
    have e3 : beV S a (n + 1) / 256 ^ (n - 1 - i + 1) = beV S a n / 256 ^ (n - 1 - i) := by
     rw [Nat.pow_succ, Nat.mul_comm, <- Nat.div_div_eq_div_mul, beV]
     congr 1; omega
    rw [e2, e3]
    exact Option.some.inj e
   ·have : i = n := by omega
    subst this
    rw [Nat.add_sub_cancel, Nat.sub_self, Nat.pow_zero, Nat.div_one, beV]
    congr 1; omega
 intro n hn
 apply List.ext_getElem?
 intro i
 rcases Nat.lt_or_ge i n with h | h
 ·rw [gen n hn i h, List.getElem?_take, if_pos h, List.getElem?_drop]
 ·rw [List.getElem?_eq_none (by rw [beL_len]; exact h), List.getElem?_eq_none (by simp; omega)]
end Go.Ab.T
namespace Go.Ab.T
open Go Go.Ab
theorem fineQ_1' {v : Int} : fineQ 1 v = (decide (v >= 1) && decide (v <= 32)) := by
 have e : mostQ 1 = 32 := rfl
 have e2 : decide ((1 : Int) >= 3) = false := rfl
 unfold fineQ; rw [e, e2, Bool.false_and, Bool.or_false, Bool.and_comm]
theorem fineQ_2' {v : Int} : fineQ 2 v = (decide (v >= 1) && decide (v <= 16)) := by
 have e : mostQ 2 = 16 := rfl
 have e2 : decide ((2 : Int) >= 3) = false := rfl
 unfold fineQ; rw [e, e2, Bool.false_and, Bool.or_false, Bool.and_comm]
theorem fineQ_hi' {i v m : Int} (hi : decide (i >= 3) = true) (e : mostQ i = m) : fineQ i v = (decide (v >= 0) && decide (v <= m)) := by
 unfold fineQ; rw [e, hi, Bool.true_and]
 have h1 : (decide (v >= 1) || v == 0) = decide (v >= 0) := by
  rw [Bool.eq_iff_iff, Bool.or_eq_true, decide_eq_true_eq, beq_iff_eq, decide_eq_true_eq]; omega
 rw [h1, Bool.and_comm]
theorem fineQ_3' {v : Int} : fineQ 3 v = (decide (v >= 0) && decide (v <= 240)) := fineQ_hi' rfl rfl
theorem fineQ_4' {v : Int} : fineQ 4 v = (decide (v >= 0) && decide (v <= 512)) := fineQ_hi' rfl rfl
def hdrE (f p s r a : Int) : Err :=
 bif decide (f < 0) || decide (f > 255) then .sec 1 (.plc 0 (.cls 18)) else
 bif !fineQ 1 p then .sec 1 (.plc 1 (.cls 8)) else bif !fineQ 2 s then .sec 1 (.plc 2 (.cls 8)) else
 bif !fineQ 3 r then .sec 1 (.plc 3 (.cls 8)) else bif !fineQ 4 a then .sec 1 (.plc 4 (.cls 8)) else .nil
def hdrOk (h0 h1 h2 h3 h4 h5 h6 : Int) : Prop := (0 <= h0 /\ h0 < 4294967296 /\ 0 <= h1 /\ h1 < 18446744073709551616) /\ (hdrE h2 h3 h4 h5 h6).isNil = true
def hdrL (h0 h1 h2 h3 h4 h5 h6 : Int) : List UInt8 := [67, 87, 77, 49] ++ (beL 4 h0.toNat ++ (beL 8 h1.toNat ++ (beL 1 h2.toNat ++ (beL 1 h3.toNat ++ (beL 1 h4.toNat ++ (beL 2 h5.toNat ++ beL 2 h6.toNat))))))
theorem hdrE_good (f p s r a : Int) : GoodE (hdrE f p s r a) := by
 unfold hdrE
 cases decide (f < 0) || decide (f > 255) <;> cases fineQ 1 p <;> cases fineQ 2 s <;> cases fineQ 3 r <;> cases fineQ 4 a <;> first | exact .nil | exact .spc _ _ _ rfl
theorem hdrE_ok {f p s r a : Int} (h : (hdrE f p s r a).isNil = true) : (decide (f < 0) || decide (f > 255)) = false /\ fineQ 1 p = true /\ fineQ 2 s = true /\ fineQ 3 r = true /\ fineQ 4 a = true := by
 unfold hdrE at h
 cases c1 : decide (f < 0) || decide (f > 255) <;> cases c2 : fineQ 1 p <;> cases c3 : fineQ 2 s <;> cases c4 : fineQ 3 r <;> cases c5 : fineQ 4 a <;> simp only [c1, c2, c3, c4, c5] at h <;> first | exact ⟨rfl, rfl, rfl, rfl, rfl⟩ | cases h
theorem hdrOk_bounds {h0 h1 h2 h3 h4 h5 h6 : Int} (h : hdrOk h0 h1 h2 h3 h4 h5 h6) : (0 <= h0 /\ h0 < 4294967296 /\ 0 <= h1 /\ h1 < 18446744073709551616) /\ (0 <= h2 /\ h2 < 256) /\ (0 <= h3 /\ h3 < 256) /\ (0 <= h4 /\ h4 < 256) /\ (0 <= h5 /\ h5 < 65536) /\ 0 <= h6 /\ h6 < 65536 := by
 obtain ⟨h, hn⟩ := h
 obtain ⟨c1, c2, c3, c4, c5⟩ := hdrE_ok hn
 rw [fineQ_1'] at c2
 rw [fineQ_2'] at c3
 rw [fineQ_3'] at c4
 rw [fineQ_4'] at c5
 simp only [Bool.or_eq_false_iff, Bool.and_eq_true, decide_eq_true_eq, decide_eq_false_iff_not] at c1 c2 c3 c4 c5
 exact ⟨h, by omega, by omega, by omega, by omega, by omega⟩
theorem hdr_text (h0 h1 h2 h3 h4 h5 h6 : Int) : (ByteArray.mk #[67, 87, 77, 49] ++ ByteArray.mk (beL 4 h0.toNat).toArray ++ ByteArray.mk (beL 8 h1.toNat).toArray ++ ByteArray.mk (beL 1 h2.toNat).toArray ++ ByteArray.mk (beL 1 h3.toNat).toArray ++ ByteArray.mk (beL 1 h4.toNat).toArray ++ ByteArray.mk (beL 2 h5.toNat).toArray ++ ByteArray.mk (beL 2 h6.toNat).toArray) = ByteArray.mk (hdrL h0 h1 h2 h3 h4 h5 h6).toArray := by
 apply ByteArray.ext; apply Array.ext'
 simp [hdrL]
def putAll (l : List UInt8) (zs : List (Int × Int)) : List UInt8 := zs.foldl (fun l y => putV l y.1 y.2) l
theorem putV_len (l : List UInt8) (v n : Int) : (putV l v n).length <= l.length + 8 := by
 unfold putV
 cases h : fitsV v n with
 | false => show l.length <= _; omega
 | true =>
  show (l ++ beL n.toNat v.toNat).length <= _
  rw [List.length_append, beL_len]
  rcases sizeOk_cases (fitsV_size h) with h | h | h | h <;> omega
theorem putV_ok (l : List UInt8) {v n : Int} (hn : sizeOk n = true) (hv : v < ((256 ^ n.toNat : Nat) : Int)) : putV l v n = l ++ beL n.toNat v.toNat := by
 unfold putV fitsV; rw [hn, decide_eq_true hv]; rfl
theorem putAll_hdr {l : List UInt8} {h0 h1 h2 h3 h4 h5 h6 : Int} (a0 : 0 <= h0) (a1 : h0 < 4294967296) (a2 : 0 <= h1) (a3 : h1 < 18446744073709551616) (b2 : 0 <= h2 /\ h2 < 256) (b3 : 0 <= h3 /\ h3 < 256) (b4 : 0 <= h4 /\ h4 < 256) (b5 : 0 <= h5 /\ h5 < 65536) (b6 : 0 <= h6 /\ h6 < 65536) :
 putAll (l ++ [67, 87, 77, 49]) [(h0, 4), (h1, 8), (h2, 1), (h3, 1), (h4, 1), (h5, 2), (h6, 2)] = l ++ hdrL h0 h1 h2 h3 h4 h5 h6 := by
 have p1 : ((256 ^ Int.toNat 1 : Nat) : Int) = 256 := by decide
 have p2 : ((256 ^ Int.toNat 2 : Nat) : Int) = 65536 := by decide
 have p4 : ((256 ^ Int.toNat 4 : Nat) : Int) = 4294967296 := by decide
 have p8 : ((256 ^ Int.toNat 8 : Nat) : Int) = 18446744073709551616 := by decide
 unfold putAll
 simp only [List.foldl_cons, List.foldl_nil]
 rw [putV_ok _ rfl (by rw [p2]; omega), putV_ok _ rfl (by rw [p2]; omega), putV_ok _ rfl (by rw [p1]; omega), putV_ok _ rfl (by rw [p1]; omega), putV_ok _ rfl (by rw [p1]; omega), putV_ok _ rfl (by rw [p8]; omega), putV_ok _ rfl (by rw [p4]; omega)]
 unfold hdrL
 have e1 : Int.toNat 1 = 1 := rfl
 have e2 : Int.toNat 2 = 2 := rfl
 have e4 : Int.toNat 4 = 4 := rfl
 have e8 : Int.toNat 8 = 8 := rfl
 rw [e1, e2, e4, e8]
 simp only [List.append_assoc]
end Go.Ab.T
namespace Go.Ab.T
open Go Go.Ab
end Go.Ab.T
namespace Go.Ab.T
open Go Go.Ab
abbrev Cl := Int × Bool
abbrev Prt := Int × ByteArray × Bool × List Cl
def bitN (b : Bool) : Nat := bif b then 1 else 0
def cellB (c : Cl) : List UInt8 := beL 1 (bitN c.2) ++ beL 4 c.1.toNat
def cellsB : List Cl -> List UInt8
 | [] => []
 | c :: r => cellB c ++ cellsB r
def nameB (s : ByteArray) : List UInt8 := UInt8.ofNat s.size :: s.data.toList
def prtB (p : Prt) : List UInt8 := beL 1 p.1.toNat ++ (beL 1 (bitN p.2.2.1) ++ (nameB p.2.1 ++ (beL 1 p.2.2.2.length ++ cellsB p.2.2.2)))
def prtsB : List Prt -> List UInt8
 | [] => []
 | p :: r => prtB p ++ prtsB r
def prtR (p : Prt) : Int := bif decide (p.1 < 0) then 18 else bif decide (p.1 > 255) then 18 else bif !rightN p.2.1 then 7 else bif decide ((p.2.2.2.length : Int) > 16) then 8 else 0
def wE1 (p : Option Int) (id r : Int) : Int := bif r == 0 && (match p with | some i => decide (id <= i) | none => false) then 9 else r
def wE (sec : Int) : Option Int -> Nat -> List (Int × Int) -> Err
 | _, _, [] => .nil
 | p, i, x :: r => bif wE1 p x.1 x.2 == 0 then wE sec (some x.1) (i + 1) r else .sec sec (.plc (i : Int) (.cls (wE1 p x.1 x.2)))
def prtsE (p : Option Int) (i : Nat) (l : List Prt) : Err := wE 2 p i (l.map fun x => (x.1, prtR x))
theorem cellB_len (c : Cl) : (cellB c).length = 5 := by unfold cellB; simp only [List.length_append, beL_len]
theorem cellsB_len : ∀ l : List Cl, (cellsB l).length = 5 * l.length
 | [] => rfl
 | c :: l => by rw [cellsB, List.length_append, cellB_len, cellsB_len l, List.length_cons]; omega
theorem nameB_len (s : ByteArray) : (nameB s).length = s.size + 1 := by unfold nameB; rw [List.length_cons, blen]
theorem prtB_len (p : Prt) : (prtB p).length = 4 + p.2.1.size + 5 * p.2.2.2.length := by
 unfold prtB; simp only [List.length_append, beL_len, nameB_len, cellsB_len]; omega
def OkC (c : Cl) : Prop := 0 <= c.1 /\ c.1 < 4294967296
def OkP (p : Prt) : Prop := (0 <= p.1 /\ p.1 <= 255) /\ rightN p.2.1 = true /\ p.2.2.2.length <= 16
theorem prtR_cases (p : Prt) : prtR p = 0 \/ prtR p = 7 \/ prtR p = 8 \/ prtR p = 18 := by
 unfold prtR
 cases decide (p.1 < 0) <;> cases decide (p.1 > 255) <;> cases rightN p.2.1 <;> cases decide ((p.2.2.2.length : Int) > 16) <;> simp
theorem prtR_ok {p : Prt} (h : prtR p = 0) : OkP p := by
 unfold prtR at h
 cases c1 : decide (p.1 < 0) <;> cases c2 : decide (p.1 > 255) <;> cases c3 : rightN p.2.1 <;> cases c4 : decide ((p.2.2.2.length : Int) > 16) <;>
  simp only [c1, c2, c3, c4, Bool.not_true, Bool.not_false, cond_true, cond_false] at h <;> first | (exfalso; omega) | skip
 rw [decide_eq_false_iff_not] at c1 c2 c4
 exact ⟨by omega, c3, by omega⟩
theorem right_len {s : ByteArray} (h : rightN s = true) : 1 <= s.size /\ s.size <= 16 := by
 simp only [rightN, Bool.and_eq_true, decide_eq_true_eq] at h
 omega
theorem wE1_bad {p : Option Int} {id r : Int} (h : (r == 0) = false) : wE1 p id r = r := by unfold wE1; rw [h]; rfl
theorem wE1_none {id r : Int} (h : (r == 0) = true) : wE1 none id r = 0 := by unfold wE1; rw [h, eq_of_beq h]; rfl
theorem wE1_some {id r i : Int} (h : (r == 0) = true) : wE1 (some i) id r = bif decide (id <= i) then 9 else 0 := by
 unfold wE1; rw [h, eq_of_beq h, Bool.true_and]
theorem wE1_zero {p : Option Int} {id r : Int} (h : wE1 p id r = 0) : r = 0 /\ ∀ i, p = some i -> i < id := by
 unfold wE1 at h
 cases c1 : r == 0 with
 | false => rw [c1] at h; rw [beq_eq_false_iff_ne] at c1; exact absurd h c1
 | true =>
  refine ⟨eq_of_beq c1, ?_⟩
  rintro i rfl
  rw [c1] at h
  cases c2 : decide (id <= i) with
  | true => simp only [c2] at h; exact absurd (show (9 : Int) = 0 from h) (by decide)
  | false => rw [decide_eq_false_iff_not] at c2; omega
theorem wE1_or (p : Option Int) (id r : Int) : wE1 p id r = r \/ wE1 p id r = 9 := by
 cases p with
 | none => left; show (bif r == 0 && false then 9 else r) = r; rw [Bool.and_false]; rfl
 | some i =>
  show (bif r == 0 && decide (id <= i) then 9 else r) = r \/ (bif r == 0 && decide (id <= i) then 9 else r) = 9
  cases (r == 0 && decide (id <= i)) with
  | true => exact .inr rfl
  | false => exact .inl rfl
theorem wE_good (sec : Int) : ∀ (l : List (Int × Int)) (p : Option Int) (i : Nat), (∀ x, x ∈ l -> x.2 = 0 \/ isCls x.2 = true) -> GoodE (wE sec p i l)
 | [], _, _, _ => .nil
 | x :: r, p, i, h => by
  unfold wE
  cases c : wE1 p x.1 x.2 == 0 with
  | true => exact wE_good sec r _ _ (fun y hy => h y (List.mem_cons_of_mem _ hy))
  | false =>
   refine .spc _ _ _ ?_
   rw [beq_eq_false_iff_ne] at c
   rcases wE1_or p x.1 x.2 with h2 | h2
   ·rw [h2] at c ⊢
    rcases h x List.mem_cons_self with h | h
    ·exact absurd h c
    ·exact h
   ·rw [h2]; rfl
theorem prtsE_good (l : List Prt) (p : Option Int) (i : Nat) : GoodE (prtsE p i l) := by
 refine wE_good 2 _ p i fun x hx => ?_
 obtain ⟨y, _, rfl⟩ := List.mem_map.1 hx
 rcases prtR_cases y with h | h | h | h
 ·exact .inl h
 ·right; show isCls (prtR y) = true; rw [h]; rfl
 ·right; show isCls (prtR y) = true; rw [h]; rfl
 ·right; show isCls (prtR y) = true; rw [h]; rfl
theorem prtsE_cons (p : Option Int) (i : Nat) (x : Prt) (r : List Prt) : prtsE p i (x :: r) = bif wE1 p x.1 (prtR x) == 0 then prtsE (some x.1) (i + 1) r else .sec 2 (.plc (i : Int) (.cls (wE1 p x.1 (prtR x)))) := rfl
theorem prtsE_ok : ∀ (l : List Prt) (p : Option Int) (i : Nat), (prtsE p i l).isNil = true -> ∀ x, x ∈ l -> OkP x
 | [], _, _, _, x, hx => by cases hx
 | y :: r, p, i, h, x, hx => by
  rw [prtsE_cons] at h
  cases c : wE1 p y.1 (prtR y) == 0 with
  | false => rw [c] at h; cases h
  | true =>
   rw [c] at h
   rcases List.mem_cons.1 hx with rfl | hx
   ·exact prtR_ok (wE1_zero (eq_of_beq c)).1
   ·exact prtsE_ok r _ _ h x hx
def prevP (l : List Prt) : Nat -> Option Int
 | 0 => none
 | i + 1 => (l[i]?).map (·.1)
def nPutV (l : List UInt8) (s : ByteArray) : List UInt8 := bif rightN s then l ++ nameB s else l
theorem beL_one {v : Nat} (h : v < 256) : beL (Int.toNat 1) v = [UInt8.ofNat v] := by
 show [UInt8.ofNat (v / 256 ^ 0 % 256)] = _
 rw [Nat.pow_zero, Nat.div_one, Nat.mod_eq_of_lt h]
def addC (l : List UInt8) (cs : List Cl) : List UInt8 := l ++ cellsB cs
def addP (l : List UInt8) (p : Prt) : List UInt8 := l ++ prtB p
def outP (b : List UInt8) (e : Err) (out rest : List UInt8) : List UInt8 := bif e.isNil then out ++ rest else b
end Go.Ab.T
namespace Go.Ab.T
open Go Go.Ab
section
variable {S : ByteArray} {sec : Int}
theorem q256_1 : 256 ^ 1 = 256 := by decide
theorem q256_4 : 256 ^ 4 = 4294967296 := by decide
theorem bitN_lt (b : Bool) : bitN b < 256 /\ bitN b <= 1 /\ ((bitN b : Int) == 1) = b := by cases b <;> exact ⟨by decide, by decide, by decide⟩
theorem name_back {a : Nat} {s : ByteArray} (h : Has S a (nameB s)) (hr : rightN s = true) {x : Int} (hx : x = (a : Int)) :
 nmT S x sec .nil = s /\ nmE S x sec .nil = .nil /\ nmAt S x sec .nil = ((a + (s.size + 1) : Nat) : Int) := by
 obtain ⟨l1, l2⟩ := right_len hr
 have hl := blen s
 have hs := h.size
 rw [nameB_len] at hs
 have h' : Has S a (beL 1 s.size ++ s.data.toList) := by
  have : beL 1 s.size ++ s.data.toList = nameB s := by
   have e : beL 1 s.size = [UInt8.ofNat s.size] := beL_one (by omega)
   rw [e]; rfl
  rw [this]; exact h
 obtain ⟨r, r', r''⟩ := h'.left.rd (by rw [q256_1]; omega) (x := x) (y := 1) hx rfl
 have d1 : decide (((s.size : Nat) : Int) >= 1) = true := decide_eq_true (by omega)
 have d2 : decide (((s.size : Nat) : Int) <= 16) = true := decide_eq_true (by omega)
 have hK : nmK S x sec .nil = .nil := by unfold nmK; rw [r, r'', d1, d2]; rfl
 have hm : max ((s.size : Nat) : Int) 0 = s.size := by omega
 have h2 := h'.right' (b := a + 1) (by rw [beL_len])
 obtain ⟨_, k2, k3, k4⟩ := rd_fits S ((a + 1 : Nat) : Int) (s.size : Int) sec (by omega)
 have hx2 : S.extract ((a + 1 : Nat) : Int).toNat (((a + 1 : Nat) : Int) + (s.size : Int)).toNat = s := by
  obtain ⟨p, q, e1, e2⟩ := h2
  have e3 : (((a + 1 : Nat) : Int) + (s.size : Int)).toNat = a + 1 + s.size := by omega
  rw [e3, Int.toNat_natCast]
  apply ByteArray.ext; apply Array.ext'
  rw [ByteArray.data_extract, Array.toList_extract, List.extract_eq_take_drop, e1]
  have e4 : List.drop (a + 1) (p ++ (s.data.toList ++ q)) = s.data.toList ++ q := by rw [<- e2, List.drop_left]
  rw [e4]
  have e5 : a + 1 + s.size - (a + 1) = s.data.toList.length := by omega
  rw [e5, List.take_left]
 have hE : nmE S x sec .nil = .nil := by
  unfold nmE; rw [hK, r, r', hm, k3, k4, hx2, hr]; rfl
 refine ⟨?_, hE, ?_⟩
 ·unfold nmT; rw [hE, hK, r, r', hm, k3, hx2]; rfl
 ·unfold nmAt; rw [hK, r, r', hm, k2]
  show ((a + 1 : Nat) : Int) + (s.size : Int) = _
  omega
theorem prt_bytes (out : List UInt8) (y : Prt) (r : List UInt8) (b : List UInt8) (e : Err) : outP b e (addP out y) r = outP b e out (prtB y ++ r) := by
 unfold outP addP; simp only [List.append_assoc]
theorem prt_err {e : Int} (h : e = 0 \/ e = 7 \/ e = 8 \/ e = 18) (h0 : (e == 0) = false) (i : Int) : inE 2 (atE i (newE e)) = .sec 2 (.plc i (.cls e)) := by
 rcases h with rfl | rfl | rfl | rfl
 ·cases h0
 ·rfl
 ·rfl
 ·rfl
def addCl (l m : List Cl) : List Cl := l ++ m
def addPr (l m : List Prt) : List Prt := l ++ m
theorem prtsB_len : ∀ (l : List Prt), (∀ x, x ∈ l -> OkP x) -> (prtsB l).length <= 1000 * l.length
 | [], _ => Nat.le_refl _
 | y :: r, h => by
  obtain ⟨_, o2, o3⟩ := h y List.mem_cons_self
  have := right_len o2
  have := prtsB_len r (fun x hx => h x (List.mem_cons_of_mem _ hx))
  rw [prtsB, List.length_append, prtB_len, List.length_cons]; omega
end
end Go.Ab.T
namespace Go.Ab.T
open Go Go.Ab
abbrev W3 := Int × Int × Int
abbrev Sch := Int × Int × List W3 × List W3
def wiV (v a b : Int) : Bool := decide (v >= a) && decide (v <= b)
theorem wiV_iff {v a b : Int} : wiV v a b = true ↔ a <= v /\ v <= b := by
 unfold wiV; rw [Bool.and_eq_true, decide_eq_true_eq, decide_eq_true_eq]
def okW (w : W3) : Bool := wiV w.1 0 255 && (wiV w.2.1 0 1048576 && wiV w.2.2 0 1048576)
def rowsR (l : List W3) : Bool := l.all okW
def schR (x : Sch) : Int :=
 bif !wiV x.1 0 255 then 18 else bif !wiV x.2.1 1 1048576 then 18 else bif decide ((x.2.2.1.length : Int) > 256) then 8 else bif !rowsR x.2.2.1 then 18 else
 bif decide ((x.2.2.2.length : Int) > 32) then 8 else bif !rowsR x.2.2.2 then 18 else 0
def rowB (w : W3) : List UInt8 := beL 1 w.1.toNat ++ (beL 4 w.2.1.toNat ++ beL 4 w.2.2.toNat)
def rowsB : List W3 -> List UInt8
 | [] => []
 | w :: r => rowB w ++ rowsB r
def addN (l : List UInt8) (v n : Int) : List UInt8 := l ++ beL n.toNat v.toNat
def addR (l : List UInt8) (ws : List W3) : List UInt8 := l ++ rowsB ws
def schB (x : Sch) : List UInt8 := beL 1 x.1.toNat ++ (beL 4 x.2.1.toNat ++ (beL 2 x.2.2.1.length ++ (rowsB x.2.2.1 ++ (beL 1 x.2.2.2.length ++ rowsB x.2.2.2))))
def schsB : List Sch -> List UInt8
 | [] => []
 | x :: r => schB x ++ schsB r
theorem rowB_len (w : W3) : (rowB w).length = 9 := by unfold rowB; simp only [List.length_append, beL_len]
theorem rowsB_len : ∀ l : List W3, (rowsB l).length = 9 * l.length
 | [] => rfl
 | w :: l => by rw [rowsB, List.length_append, rowB_len, rowsB_len l, List.length_cons]; omega
def schE1 (p : Option Int) (x : Sch) : Int := bif schR x == 0 && (match p with | some i => decide (x.1 <= i) | none => false) then 9 else schR x
def schsE : Option Int -> Nat -> List Sch -> Err
 | _, _, [] => .nil
 | p, i, x :: r => bif schE1 p x == 0 then schsE (some x.1) (i + 1) r else .sec 3 (.plc (i : Int) (.cls (schE1 p x)))
theorem schR_cases (x : Sch) : schR x = 0 \/ schR x = 8 \/ schR x = 18 := by
 unfold schR
 cases wiV x.1 0 255 <;> cases wiV x.2.1 1 1048576 <;> cases decide ((x.2.2.1.length : Int) > 256) <;> cases rowsR x.2.2.1 <;> cases decide ((x.2.2.2.length : Int) > 32) <;> cases rowsR x.2.2.2 <;> simp
theorem schE1_cases (p : Option Int) (x : Sch) : schE1 p x = 0 \/ schE1 p x = 8 \/ schE1 p x = 18 \/ schE1 p x = 9 := by
 unfold schE1
 have := schR_cases x
 cases (schR x == 0 && (match p with | some i => decide (x.1 <= i) | none => false))
 ·rcases this with h | h | h <;> simp [h]
 ·simp
theorem schsE_good : ∀ (l : List Sch) (p : Option Int) (i : Nat), GoodE (schsE p i l)
 | [], _, _ => .nil
 | x :: r, p, i => by
  unfold schsE
  cases h : schE1 p x == 0 with
  | true => exact schsE_good r _ _
  | false =>
   refine .spc _ _ _ ?_
   have := schE1_cases p x
   rw [beq_eq_false_iff_ne] at h
   rcases this with h2 | h2 | h2 | h2
   ·exact absurd h2 h
   ·rw [h2]; rfl
   ·rw [h2]; rfl
   ·rw [h2]; rfl
def OkS (x : Sch) : Prop := (0 <= x.1 /\ x.1 <= 255) /\ (1 <= x.2.1 /\ x.2.1 <= 1048576) /\ x.2.2.1.length <= 256 /\ (∀ w, w ∈ x.2.2.1 -> okW w = true) /\ x.2.2.2.length <= 32 /\ ∀ w, w ∈ x.2.2.2 -> okW w = true
theorem schR_ok {x : Sch} (h : schR x = 0) : OkS x := by
 unfold schR at h
 cases c1 : wiV x.1 0 255 <;> cases c2 : wiV x.2.1 1 1048576 <;> cases c3 : decide ((x.2.2.1.length : Int) > 256) <;> cases c4 : rowsR x.2.2.1 <;> cases c5 : decide ((x.2.2.2.length : Int) > 32) <;> cases c6 : rowsR x.2.2.2 <;>
  simp only [c1, c2, c3, c4, c5, c6, Bool.not_true, Bool.not_false, cond_true, cond_false] at h <;> first | (exfalso; omega) | skip
 rw [decide_eq_false_iff_not] at c3 c5
 rw [wiV_iff] at c1 c2
 exact ⟨by omega, by omega, by omega, List.all_eq_true.1 c4, by omega, List.all_eq_true.1 c6⟩
theorem schE1_zero {p : Option Int} {x : Sch} (h : schE1 p x = 0) : schR x = 0 /\ ∀ i, p = some i -> i < x.1 := by
 unfold schE1 at h
 cases c1 : schR x == 0 with
 | false => rw [c1] at h; rw [beq_eq_false_iff_ne] at c1; exact absurd h c1
 | true =>
  refine ⟨eq_of_beq c1, ?_⟩
  rintro i rfl
  rw [c1] at h
  cases c2 : decide (x.1 <= i) with
  | true => simp only [c2] at h; exact absurd (show (9 : Int) = 0 from h) (by decide)
  | false => rw [decide_eq_false_iff_not] at c2; omega
theorem okW_b {w : W3} (h : okW w = true) : (0 <= w.1 /\ w.1 <= 255) /\ (0 <= w.2.1 /\ w.2.1 <= 1048576) /\ 0 <= w.2.2 /\ w.2.2 <= 1048576 := by
 unfold okW at h
 simp only [Bool.and_eq_true, wiV_iff] at h
 exact ⟨h.1, h.2.1, h.2.2⟩
theorem addN_1 (l : List UInt8) (v : Int) : (addN l v 1).length = l.length + 1 := by unfold addN; rw [List.length_append, beL_len]; rfl
theorem addN_2 (l : List UInt8) (v : Int) : (addN l v 2).length = l.length + 2 := by unfold addN; rw [List.length_append, beL_len]; rfl
theorem addN_4 (l : List UInt8) (v : Int) : (addN l v 4).length = l.length + 4 := by unfold addN; rw [List.length_append, beL_len]; rfl
theorem addR_len (l : List UInt8) (ws : List W3) : (addR l ws).length = l.length + 9 * ws.length := by unfold addR; rw [List.length_append, rowsB_len]
def outS (b : List UInt8) (e : Err) (out rest : List UInt8) : List UInt8 := bif e.isNil then out ++ rest else b
def prevS (l : List Sch) : Nat -> Option Int
 | 0 => none
 | i + 1 => (l[i]?).map (·.1)
theorem sch_bytes (out : List UInt8) (y : Sch) (r : List UInt8) (b : List UInt8) (e : Err) :
 outS b e (addR (addN (addR (addN (addN (addN out y.1 1) y.2.1 4) (y.2.2.1.length : Int) 2) y.2.2.1) (y.2.2.2.length : Int) 1) y.2.2.2) r = outS b e out (schB y ++ r) := by
 unfold outS addR addN schB
 have e1 : Int.toNat 1 = 1 := rfl
 have e2 : Int.toNat 2 = 2 := rfl
 have e4 : Int.toNat 4 = 4 := rfl
 simp only [List.append_assoc, Int.toNat_natCast, e1, e2, e4]
theorem sch_err {e : Int} (h : e = 0 \/ e = 8 \/ e = 18 \/ e = 9) (h0 : (e == 0) = false) (i : Int) : inE 3 (atE i (newE e)) = .sec 3 (.plc i (.cls e)) := by
 rcases h with rfl | rfl | rfl | rfl
 ·cases h0
 ·rfl
 ·rfl
 ·rfl
theorem schE1_bad {p : Option Int} {x : Sch} (h : (schR x == 0) = false) : schE1 p x = schR x := by unfold schE1; rw [h]; rfl
theorem schE1_none {x : Sch} (h : (schR x == 0) = true) : schE1 none x = 0 := by unfold schE1; rw [h, eq_of_beq h]; rfl
theorem schE1_some {x : Sch} {i : Int} (h : (schR x == 0) = true) : schE1 (some i) x = bif decide (x.1 <= i) then 9 else 0 := by
 unfold schE1; rw [h, eq_of_beq h, Bool.true_and]
theorem schsE_cons (p : Option Int) (i : Nat) (x : Sch) (r : List Sch) : schsE p i (x :: r) = bif schE1 p x == 0 then schsE (some x.1) (i + 1) r else .sec 3 (.plc (i : Int) (.cls (schE1 p x))) := rfl
theorem mk_app (s : ByteArray) (l m : List UInt8) : (ByteArray.mk l.toArray ++ ByteArray.mk m.toArray) = ByteArray.mk (l ++ m).toArray := by
 apply ByteArray.ext; apply Array.ext'; simp
theorem schsE_ok : ∀ (l : List Sch) (p : Option Int) (i : Nat), (schsE p i l).isNil = true -> ∀ x, x ∈ l -> OkS x
 | [], _, _, _, x, hx => by cases hx
 | y :: r, p, i, h, x, hx => by
  rw [schsE_cons] at h
  cases c : schE1 p y == 0 with
  | false => rw [c] at h; cases h
  | true =>
   rw [c] at h
   rcases List.mem_cons.1 hx with rfl | hx
   ·exact schR_ok (schE1_zero (eq_of_beq c)).1
   ·exact schsE_ok r _ _ h x hx
theorem schB_len (x : Sch) : (schB x).length = 8 + 9 * x.2.2.1.length + 9 * x.2.2.2.length := by
 unfold schB; simp only [List.length_append, beL_len, rowsB_len]; omega
end Go.Ab.T
namespace Go.Ab.T
open Go Go.Ab
def tkE (s : ByteArray) (sec least : Int) (x : RS) : Err := needE (rdE s x.1 4 sec x.2) (wiV (rdV s x.1 4 x.2) least 1048576) sec 18 x.1
def tk (s : ByteArray) (sec least : Int) (x : RS) : RS := (rdAt s x.1 4 x.2, tkE s sec least x)
def tkV (s : ByteArray) (sec least : Int) (x : RS) : Int := bif (tkE s sec least x).isNil then rdV s x.1 4 x.2 else 0
def r1 (s : ByteArray) (sec n : Int) (x : RS) : RS := (rdAt s x.1 n x.2, rdE s x.1 n sec x.2)
def rowV (s : ByteArray) (sec : Int) (x : RS) : W3 := (rdV s x.1 1 x.2, tkV s sec 0 (r1 s sec 1 x), tkV s sec 0 (tk s sec 0 (r1 s sec 1 x)))
def rowX (s : ByteArray) (sec : Int) (x : RS) : RS := tk s sec 0 (tk s sec 0 (r1 s sec 1 x))
def rowsV (s : ByteArray) (sec : Int) : Nat -> RS -> List W3
 | 0, _ => []
 | n + 1, x => bif x.2.isNil then rowV s sec x :: rowsV s sec n (rowX s sec x) else []
def rowsX (s : ByteArray) (sec : Int) : Nat -> RS -> RS
 | 0, x => x
 | n + 1, x => bif x.2.isNil then rowsX s sec n (rowX s sec x) else x
def cntX (s : ByteArray) (sec size most : Int) (x : RS) : RS := (rdAt s x.1 size x.2, needE (rdE s x.1 size sec x.2) (decide (rdV s x.1 size x.2 <= most)) sec 8 x.1)
def manyV (s : ByteArray) (sec size most : Int) (x : RS) : List W3 := bif (cntX s sec size most x).2.isNil then rowsV s sec (rdV s x.1 size x.2).toNat (cntX s sec size most x) else []
def manyX (s : ByteArray) (sec size most : Int) (x : RS) : RS := bif (cntX s sec size most x).2.isNil then rowsX s sec (rdV s x.1 size x.2).toNat (cntX s sec size most x) else cntX s sec size most x
def idX (s : ByteArray) (last : Int) (x : RS) : RS := (rdAt s x.1 1 x.2, needE (rdE s x.1 1 3 x.2) (decide (rdV s x.1 1 x.2 > last)) 3 9 x.1)
def s1X (s : ByteArray) (last : Int) (x : RS) : RS := tk s 3 1 (idX s last x)
def s2X (s : ByteArray) (last : Int) (x : RS) : RS := manyX s 3 2 256 (s1X s last x)
def schX (s : ByteArray) (last : Int) (x : RS) : RS := manyX s 3 1 32 (s2X s last x)
def schV (s : ByteArray) (last : Int) (x : RS) : Sch := (rdV s x.1 1 x.2, tkV s 3 1 (idX s last x), manyV s 3 2 256 (s1X s last x), manyV s 3 1 32 (s2X s last x))
def schsV (s : ByteArray) : Nat -> Int -> RS -> List Sch
 | 0, _, _ => []
 | n + 1, last, x => bif x.2.isNil then schV s last x :: schsV s n (schV s last x).1 (schX s last x) else []
def schsX (s : ByteArray) : Nat -> Int -> RS -> RS
 | 0, _, x => x
 | n + 1, last, x => bif x.2.isNil then schsX s n (schV s last x).1 (schX s last x) else x
def addW (l m : List W3) : List W3 := l ++ m
def resS (s : ByteArray) (n : Nat) (x : RS) : List Sch := bif (schsX s n (-1) x).2.isNil then schsV s n (-1) x else []
def addS (l m : List Sch) : List Sch := l ++ m
theorem hIn.tk {s : ByteArray} {x : RS} (sec least : Int) (h : hIn s x) : hIn s (tk s sec least x) := rdAt_le h.1 h.2 (by omega)
theorem hIn.r1 {s : ByteArray} {x : RS} (sec : Int) {n : Int} (hn : 0 <= n) (h : hIn s x) : hIn s (r1 s sec n x) := rdAt_le h.1 h.2 hn
theorem hIn.rowX {s : ByteArray} {x : RS} (sec : Int) (h : hIn s x) : hIn s (rowX s sec x) := ((h.r1 sec (by omega)).tk _ _).tk _ _
theorem hIn.rowsX {s : ByteArray} (sec : Int) : ∀ (n : Nat) {x : RS}, hIn s x -> hIn s (rowsX s sec n x)
 | 0, _, h => h
 | n + 1, x, h => by
  unfold Go.Ab.T.rowsX
  cases x.2.isNil with
  | false => exact h
  | true => exact hIn.rowsX sec n (h.rowX sec)
theorem hIn.cnt {s : ByteArray} {x : RS} (sec : Int) {size : Int} (most : Int) (hn : 0 <= size) (h : hIn s x) : hIn s (cntX s sec size most x) := rdAt_le h.1 h.2 hn
theorem hIn.many {s : ByteArray} {x : RS} (sec : Int) {size : Int} (most : Int) (hn : 0 <= size) (h : hIn s x) : hIn s (manyX s sec size most x) := by
 unfold manyX
 cases (cntX s sec size most x).2.isNil with
 | false => exact h.cnt sec most hn
 | true => exact (h.cnt sec most hn).rowsX sec _
theorem hIn.id {s : ByteArray} {x : RS} (last : Int) (h : hIn s x) : hIn s (idX s last x) := rdAt_le h.1 h.2 (by omega)
theorem hIn.s1 {s : ByteArray} {x : RS} (last : Int) (h : hIn s x) : hIn s (s1X s last x) := (h.id last).tk _ _
theorem hIn.s2 {s : ByteArray} {x : RS} (last : Int) (h : hIn s x) : hIn s (s2X s last x) := (h.s1 last).many _ _ (by omega)
theorem hIn.sch {s : ByteArray} {x : RS} (last : Int) (h : hIn s x) : hIn s (schX s last x) := (h.s2 last).many _ _ (by omega)
theorem rdAt_ge (s : ByteArray) (a : Int) {n : Int} (e : Err) (hn : 0 <= n) : a <= rdAt s a n e := by
 unfold rdAt; cases rdOk s a n e with
 | false => exact Int.le_refl _
 | true => show a <= a + n; omega
theorem failR_not (e : Err) (sec a : Int) {k : Int} (hk : isCls k = true) : (failR e sec k a).isNil = false := by
 unfold failR
 cases h : e.isNil with
 | false => exact h
 | true =>
  show (inE sec (atE a (newE k))).isNil = false
  unfold newE; rw [hk]; rfl
theorem needE_nil (e : Err) (t : Bool) (sec a : Int) {k : Int} (hk : isCls k = true) : (needE e t sec k a).isNil = (t && e.isNil) := by
 unfold needE; cases t with
 | true => rw [Bool.true_and]; rfl
 | false => rw [Bool.false_and]; exact failR_not e sec a hk
theorem rdE_keep {s : ByteArray} {a n sec : Int} {e : Err} (h : (rdE s a n sec e).isNil = true) : rdOk s a n e = true /\ e.isNil = true := by
 rw [rdE_nil] at h
 refine ⟨h, ?_⟩
 unfold rdOk at h; rw [Bool.and_eq_true] at h; exact h.2
theorem tk_keep {s : ByteArray} {sec least : Int} {x : RS} (h : (tk s sec least x).2.isNil = true) : (rdE s x.1 4 sec x.2).isNil = true /\ wiV (rdV s x.1 4 x.2) least 1048576 = true /\ x.2.isNil = true := by
 have h : (needE (rdE s x.1 4 sec x.2) (wiV (rdV s x.1 4 x.2) least 1048576) sec 18 x.1).isNil = true := h
 rw [needE_nil _ _ _ _ rfl, Bool.and_eq_true] at h
 exact ⟨h.2, h.1, (rdE_keep h.2).2⟩
theorem tk_ge (s : ByteArray) (sec least : Int) (x : RS) : x.1 <= (tk s sec least x).1 := rdAt_ge s _ _ (by omega)
theorem r1_keep {s : ByteArray} {sec n : Int} {x : RS} (h : (r1 s sec n x).2.isNil = true) : rdOk s x.1 n x.2 = true /\ x.2.isNil = true := rdE_keep h
theorem rowX_ge (s : ByteArray) (sec : Int) (x : RS) : x.1 <= (rowX s sec x).1 := by
 have h1 : x.1 <= (r1 s sec 1 x).1 := rdAt_ge s _ _ (by omega)
 have h2 := tk_ge s sec 0 (r1 s sec 1 x)
 have h3 := tk_ge s sec 0 (tk s sec 0 (r1 s sec 1 x))
 unfold rowX; omega
theorem rowsX_ge (s : ByteArray) (sec : Int) : ∀ (n : Nat) (x : RS), x.1 <= (rowsX s sec n x).1
 | 0, _ => Int.le_refl _
 | n + 1, x => by
  unfold rowsX
  cases x.2.isNil with
  | false => exact Int.le_refl _
  | true => exact Int.le_trans (rowX_ge s sec x) (rowsX_ge s sec n _)
theorem cntX_keep {s : ByteArray} {sec size most : Int} {x : RS} (h : (cntX s sec size most x).2.isNil = true) : rdOk s x.1 size x.2 = true /\ rdV s x.1 size x.2 <= most /\ x.2.isNil = true := by
 have h : (needE (rdE s x.1 size sec x.2) (decide (rdV s x.1 size x.2 <= most)) sec 8 x.1).isNil = true := h
 rw [needE_nil _ _ _ _ rfl, Bool.and_eq_true, decide_eq_true_eq] at h
 exact ⟨(rdE_keep h.2).1, h.1, (rdE_keep h.2).2⟩
theorem manyX_keep {s : ByteArray} {sec size most : Int} {x : RS} (h : (manyX s sec size most x).2.isNil = true) : (cntX s sec size most x).2.isNil = true := by
 unfold manyX at h
 cases c : (cntX s sec size most x).2.isNil with
 | true => rfl
 | false => rw [c, cond_false, c] at h; exact h
theorem manyX_ge {s : ByteArray} {sec size most : Int} (hs : 0 <= size) (x : RS) : x.1 <= (manyX s sec size most x).1 := by
 have h1 : x.1 <= (cntX s sec size most x).1 := rdAt_ge s _ _ hs
 unfold manyX
 cases (cntX s sec size most x).2.isNil with
 | false => exact h1
 | true => exact Int.le_trans h1 (rowsX_ge s sec _ _)
theorem idX_keep {s : ByteArray} {last : Int} {x : RS} (h : (idX s last x).2.isNil = true) : rdOk s x.1 1 x.2 = true /\ last < rdV s x.1 1 x.2 /\ x.2.isNil = true := by
 have h : (needE (rdE s x.1 1 3 x.2) (decide (rdV s x.1 1 x.2 > last)) 3 9 x.1).isNil = true := h
 rw [needE_nil _ _ _ _ rfl, Bool.and_eq_true, decide_eq_true_eq] at h
 exact ⟨(rdE_keep h.2).1, h.1, (rdE_keep h.2).2⟩
theorem schX_keep {s : ByteArray} {last : Int} {x : RS} (h : (schX s last x).2.isNil = true) : (s2X s last x).2.isNil = true /\ (s1X s last x).2.isNil = true /\ (idX s last x).2.isNil = true := by
 have h1 := (cntX_keep (manyX_keep h)).2.2
 have h2 := (cntX_keep (manyX_keep h1)).2.2
 exact ⟨h1, h2, (tk_keep h2).2.2⟩
theorem schX_adv {s : ByteArray} {last : Int} {x : RS} (h : (schX s last x).2.isNil = true) : x.1 + 1 <= (schX s last x).1 := by
 obtain ⟨_, _, h3⟩ := schX_keep h
 obtain ⟨h4, _, _⟩ := idX_keep h3
 have e : (idX s last x).1 = x.1 + 1 := by show rdAt s x.1 1 x.2 = _; unfold rdAt; rw [h4]; rfl
 have g1 := tk_ge s 3 1 (idX s last x)
 have g2 := manyX_ge (s := s) (sec := 3) (size := 2) (most := 256) (by omega) (s1X s last x)
 have g3 := manyX_ge (s := s) (sec := 3) (size := 1) (most := 32) (by omega) (s2X s last x)
 unfold schX
 unfold s1X at g2
 unfold s2X s1X at g3 ⊢
 omega
theorem wrap_succ' {i : Nat} (h : i < 9223372036854775807) : IntKind.i64.wrap ((i : Int) + 1) = ((i + 1 : Nat) : Int) := by
 rw [wrap_id _ (by omega) (by omega)]; omega
end Go.Ab.T
namespace Go.Ab.T
open Go Go.Ab
section
variable {S : ByteArray} {sec : Int}
theorem p256_1 : 256 ^ 1 = 256 := by decide
theorem p256_2 : 256 ^ 2 = 65536 := by decide
theorem p256_4 : 256 ^ 4 = 4294967296 := by decide
theorem tk_back {a : Nat} {v least : Int} (h : Has S a (beL 4 v.toNat)) (h0 : 0 <= v) (h1 : least <= v) (h2 : v <= 1048576) {x : Int} (hx : x = (a : Int)) :
 tkV S sec least (x, .nil) = v /\ tk S sec least (x, .nil) = (((a + 4 : Nat) : Int), .nil) := by
 obtain ⟨r, r', r''⟩ := h.rd (by rw [p256_4]; omega) (x := x) (y := 4) hx rfl
 rw [Int.toNat_of_nonneg h0] at r
 have hw : wiV v least 1048576 = true := wiV_iff.2 ⟨h1, h2⟩
 have hE : tkE S sec least (x, .nil) = .nil := by unfold tkE; simp only; rw [r, r'', hw]; rfl
 refine ⟨?_, ?_⟩
 ·unfold tkV; rw [hE]; exact r
 ·unfold tk; rw [hE]; simp only; rw [r']
theorem r1_back {a : Nat} {v : Int} (h : Has S a (beL 1 v.toNat)) (h0 : 0 <= v) (h2 : v <= 255) {x : Int} (hx : x = (a : Int)) :
 rdV S x 1 .nil = v /\ r1 S sec 1 (x, .nil) = (((a + 1 : Nat) : Int), .nil) := by
 obtain ⟨r, r', r''⟩ := h.rd (by rw [p256_1]; omega) (x := x) (y := 1) hx rfl
 rw [Int.toNat_of_nonneg h0] at r
 exact ⟨r, by unfold r1; simp only; rw [r', r'']⟩
theorem row_back {a : Nat} {w : W3} (h : Has S a (rowB w)) (hw : okW w = true) {x : Int} (hx : x = (a : Int)) : rowV S sec (x, .nil) = w /\ rowX S sec (x, .nil) = (((a + 9 : Nat) : Int), .nil) := by
 obtain ⟨b1, b2, b3, b4⟩ := okW_b hw
 unfold rowB at h
 have q1 := h.right' (b := a + 1) (by rw [beL_len])
 have q5 := q1.right' (b := a + 5) (by rw [beL_len])
 obtain ⟨e1, e2⟩ := r1_back (sec := sec) h.left b1.1 b1.2 hx
 obtain ⟨e3, e4⟩ := tk_back (sec := sec) (least := 0) q1.left b2.1 b2.1 b2.2 (x := ((a + 1 : Nat) : Int)) rfl
 obtain ⟨e5, e6⟩ := tk_back (sec := sec) (least := 0) q5 b3 b3 b4 (x := ((a + 1 + 4 : Nat) : Int)) rfl
 refine ⟨?_, ?_⟩
 ·unfold rowV; rw [e2, e4, e3, e5]; simp only; rw [e1]
 ·unfold rowX; rw [e2, e4, e6]
theorem rows_back : ∀ (ws : List W3) (a : Nat) (x : Int), x = (a : Int) -> Has S a (rowsB ws) -> (∀ w, w ∈ ws -> okW w = true) ->
 rowsV S sec ws.length (x, .nil) = ws /\ rowsX S sec ws.length (x, .nil) = (((a + 9 * ws.length : Nat) : Int), .nil)
 | [], a, x, hx, _, _ => ⟨rfl, by rw [hx]; rfl⟩
 | w :: r, a, x, hx, h, hw => by
  rw [rowsB] at h
  obtain ⟨e1, e2⟩ := row_back (sec := sec) h.left (hw w List.mem_cons_self) hx
  obtain ⟨e3, e4⟩ := rows_back r (a + 9) _ rfl (h.right' (by rw [rowB_len])) (fun z hz => hw z (List.mem_cons_of_mem _ hz))
  refine ⟨?_, ?_⟩
  ·show (bif true then rowV S sec (x, .nil) :: rowsV S sec r.length (rowX S sec (x, .nil)) else []) = _
   rw [e1, e2, e3]; rfl
  ·show (bif true then rowsX S sec r.length (rowX S sec (x, .nil)) else _) = _
   rw [e2, e4, List.length_cons]
   have : a + 9 + 9 * r.length = a + 9 * (r.length + 1) := by omega
   rw [this]; rfl
theorem many_back {size : Nat} {ws : List W3} {a : Nat} {most : Int} (h : Has S a (beL size ws.length ++ rowsB ws)) (hs : ws.length < 256 ^ size) (hm : (ws.length : Int) <= most) (hw : ∀ w, w ∈ ws -> okW w = true) {x : Int} (hx : x = (a : Int)) {y : Int} (hy : y = (size : Int)) :
 manyV S sec y most (x, .nil) = ws /\ manyX S sec y most (x, .nil) = (((a + size + 9 * ws.length : Nat) : Int), .nil) := by
 obtain ⟨r, r', r''⟩ := h.left.rd hs (x := x) (y := y) hx hy
 have hc : cntX S sec y most (x, .nil) = (((a + size : Nat) : Int), .nil) := by
  unfold cntX; simp only; rw [r, r', r'', decide_eq_true hm]; rfl
 obtain ⟨e3, e4⟩ := rows_back (sec := sec) ws (a + size) _ rfl (h.right' (by rw [beL_len])) hw
 refine ⟨?_, ?_⟩
 ·unfold manyV; rw [hc]; simp only; rw [r, Int.toNat_natCast, e3]; rfl
 ·unfold manyX; rw [hc]; simp only; rw [r, Int.toNat_natCast, e4]; rfl
theorem sch_back {a : Nat} {last : Int} {y : Sch} (h : Has S a (schB y)) (ho : OkS y) (hl : last < y.1) {x : Int} (hx : x = (a : Int)) :
 schV S last (x, .nil) = y /\ schX S last (x, .nil) = (((a + (schB y).length : Nat) : Int), .nil) := by
 obtain ⟨o1, o2, o3, o4, o5, o6⟩ := ho
 have hlen := schB_len y
 unfold schB at h
 have q1 := h.right' (b := a + 1) (by rw [beL_len])
 have q5 := q1.right' (b := a + 5) (by rw [beL_len])
 have q5' : Has S (a + 5) ((beL 2 y.2.2.1.length ++ rowsB y.2.2.1) ++ (beL 1 y.2.2.2.length ++ rowsB y.2.2.2)) := by
  rw [List.append_assoc]; exact q5
 have q6 := q5'.right' (b := a + 5 + 2 + 9 * y.2.2.1.length) (by rw [List.length_append, beL_len, rowsB_len]; omega)
 obtain ⟨r, r', r''⟩ := h.left.rd (by rw [p256_1]; omega) (x := x) (y := 1) hx rfl
 rw [Int.toNat_of_nonneg o1.1] at r
 have hi : idX S last (x, .nil) = (((a + 1 : Nat) : Int), .nil) := by
  unfold idX; simp only; rw [r, r', r'', decide_eq_true (show y.1 > last from hl)]; rfl
 obtain ⟨e3, e4⟩ := tk_back (sec := 3) (least := 1) q1.left (by omega) o2.1 o2.2 (x := ((a + 1 : Nat) : Int)) rfl
 have h1 : s1X S last (x, .nil) = (((a + 5 : Nat) : Int), .nil) := by unfold s1X; rw [hi, e4]
 obtain ⟨e5, e6⟩ := many_back (sec := 3) (most := 256) q5'.left (by rw [p256_2]; omega) (by omega) o4 (x := ((a + 5 : Nat) : Int)) rfl (y := 2) rfl
 have h2 : s2X S last (x, .nil) = (((a + 5 + 2 + 9 * y.2.2.1.length : Nat) : Int), .nil) := by unfold s2X; rw [h1, e6]
 obtain ⟨e7, e8⟩ := many_back (sec := 3) (most := 32) q6 (by rw [p256_1]; omega) (by omega) o6 (x := ((a + 5 + 2 + 9 * y.2.2.1.length : Nat) : Int)) rfl (y := 1) rfl
 refine ⟨?_, ?_⟩
 ·unfold schV; rw [hi, h1, h2, e3, e5, e7]; simp only; rw [r]
 ·unfold schX; rw [h2, e8]
  have : a + 5 + 2 + 9 * y.2.2.1.length + 1 + 9 * y.2.2.2.length = a + (schB y).length := by omega
  rw [this]
theorem schs_back : ∀ (l : List Sch) (p : Option Int) (i : Nat) (last : Int) (a : Nat) (x : Int), x = (a : Int) -> (schsE p i l).isNil = true -> (match p with | some q => last = q | none => last = -1) -> Has S a (schsB l) ->
 schsV S l.length last (x, .nil) = l /\ schsX S l.length last (x, .nil) = (((a + (schsB l).length : Nat) : Int), .nil)
 | [], _, _, _, a, x, hx, _, _, _ => ⟨rfl, by rw [hx]; rfl⟩
 | y :: r, p, i, last, a, x, hx, he, hp, h => by
  rw [schsE_cons] at he
  cases c : schE1 p y == 0 with
  | false => rw [c] at he; cases he
  | true =>
   rw [c] at he
   obtain ⟨z1, z2⟩ := schE1_zero (eq_of_beq c)
   have ho := schR_ok z1
   have hlast : last < y.1 := by
    cases p with
    | none => have := ho.1.1; simp only at hp; omega
    | some q => have := z2 q rfl; simp only at hp; omega
   rw [schsB] at h
   obtain ⟨e1, e2⟩ := sch_back h.left ho hlast hx
   obtain ⟨e3, e4⟩ := schs_back r (some y.1) (i + 1) y.1 (a + (schB y).length) _ rfl he rfl h.right
   refine ⟨?_, ?_⟩
   ·show (bif true then schV S last (x, .nil) :: schsV S r.length (schV S last (x, .nil)).1 (schX S last (x, .nil)) else []) = _
    rw [e1, e2, e3]; rfl
   ·show (bif true then schsX S r.length (schV S last (x, .nil)).1 (schX S last (x, .nil)) else _) = _
    rw [e1, e2, e4, schsB, List.length_append, Nat.add_assoc]; rfl
theorem schsB_len : ∀ (l : List Sch), (∀ x, x ∈ l -> OkS x) -> (schsB l).length <= 3000 * l.length
 | [], _ => Nat.le_refl _
 | y :: r, h => by
  obtain ⟨_, _, o3, _, o5, _⟩ := h y List.mem_cons_self
  have := schsB_len r (fun x hx => h x (List.mem_cons_of_mem _ hx))
  rw [schsB, List.length_append, schB_len, List.length_cons]; omega
end
end Go.Ab.T
namespace Go.Ab.T
open Go Go.Ab
def Seg (s : ByteArray) (a b : Int) (l : List UInt8) : Prop := 0 <= a /\ a <= b /\ b <= (s.size : Int) /\ l = (s.data.toList.drop a.toNat).take (b.toNat - a.toNat)
theorem Seg.nil {s : ByteArray} {a : Int} (h0 : 0 <= a) (h1 : a <= (s.size : Int)) : Seg s a a [] := ⟨h0, Int.le_refl _, h1, by simp⟩
theorem Seg.cast {s : ByteArray} {a b b' : Int} {l m : List UInt8} (h : Seg s a b l) (hb : b = b') (hl : l = m) : Seg s a b' m := by subst hb hl; exact h
section
variable {s : ByteArray} {sec : Int}
theorem schsX_keep : ∀ (n : Nat) (last : Int) (x : RS), (schsX s n last x).2.isNil = true -> x.2.isNil = true
 | 0, _, _, h => h
 | n + 1, last, x, h => by
  unfold schsX at h
  cases c : x.2.isNil with
  | true => rfl
  | false => rw [c] at h; rw [cond_false, c] at h; exact h
end
end Go.Ab.T
namespace Go.Ab.T
open Go Go.Ab
def trX (s : ByteArray) (sec : Int) (x : RS) : RS := (rdAt s x.1 1 x.2, needE (rdE s x.1 1 sec x.2) (decide (rdV s x.1 1 x.2 <= 1)) sec 6 x.1)
def trV (s : ByteArray) (sec : Int) (x : RS) : Bool := (trX s sec x).2.isNil && (rdV s x.1 1 x.2 == 1)
def cl1 (s : ByteArray) (sec : Int) (x : RS) : RS := r1 s sec 4 (trX s sec x)
def clV1 (s : ByteArray) (sec : Int) (x : RS) : Cl := (rdV s (trX s sec x).1 4 (trX s sec x).2, trV s sec x)
def clsX (s : ByteArray) (sec : Int) : Nat -> RS -> RS
 | 0, x => x
 | n + 1, x => bif x.2.isNil then clsX s sec n (cl1 s sec x) else x
def clsV (s : ByteArray) (sec : Int) : Nat -> RS -> List Cl
 | 0, _ => []
 | n + 1, x => bif x.2.isNil then clV1 s sec x :: clsV s sec n (cl1 s sec x) else []
def cnX (s : ByteArray) (sec : Int) (x : RS) : RS := cntX s sec 1 16 x
def cnN (s : ByteArray) (x : RS) : Nat := (rdV s x.1 1 x.2).toNat
def clX (s : ByteArray) (sec : Int) (x : RS) : RS := bif (cnX s sec x).2.isNil then clsX s sec (cnN s x) (cnX s sec x) else cnX s sec x
def clV (s : ByteArray) (sec : Int) (x : RS) : List Cl := clsV s sec (cnN s x) (cnX s sec x)
def ptI (s : ByteArray) (last : Int) (x : RS) : RS := (rdAt s x.1 1 x.2, needE (rdE s x.1 1 2 x.2) (decide (rdV s x.1 1 x.2 > last)) 2 9 x.1)
def ptM (s : ByteArray) (last : Int) (x : RS) : RS := trX s 2 (ptI s last x)
def ptN (s : ByteArray) (last : Int) (x : RS) : RS := (nmAt s (ptM s last x).1 2 (ptM s last x).2, nmE s (ptM s last x).1 2 (ptM s last x).2)
def ptX (s : ByteArray) (last : Int) (x : RS) : RS := clX s 2 (ptN s last x)
def ptV (s : ByteArray) (last : Int) (x : RS) : Prt := (rdV s x.1 1 x.2, nmT s (ptM s last x).1 2 (ptM s last x).2, trV s 2 (ptI s last x), clV s 2 (ptN s last x))
def ptsX (s : ByteArray) : Nat -> Int -> RS -> RS
 | 0, _, x => x
 | n + 1, last, x => bif x.2.isNil then ptsX s n (rdV s x.1 1 x.2) (ptX s last x) else x
def ptsV (s : ByteArray) : Nat -> Int -> RS -> List Prt
 | 0, _, _ => []
 | n + 1, last, x => bif x.2.isNil then ptV s last x :: ptsV s n (rdV s x.1 1 x.2) (ptX s last x) else []
def resPt (s : ByteArray) (n : Nat) (x : RS) : List Prt := bif (ptsX s n (-1) x).2.isNil then ptsV s n (-1) x else []
section
variable {s : ByteArray}
theorem hIn.tr {x : RS} (sec : Int) (h : hIn s x) : hIn s (trX s sec x) := rdAt_le h.1 h.2 (by omega)
theorem hIn.cl1 {x : RS} (sec : Int) (h : hIn s x) : hIn s (cl1 s sec x) := (h.tr sec).r1 sec (by omega)
theorem hIn.cls (sec : Int) : ∀ (n : Nat) {x : RS}, hIn s x -> hIn s (clsX s sec n x)
 | 0, _, h => h
 | n + 1, x, h => by
  unfold clsX
  cases x.2.isNil with
  | false => exact h
  | true => exact hIn.cls sec n (h.cl1 sec)
theorem hIn.cn {x : RS} (sec : Int) (h : hIn s x) : hIn s (cnX s sec x) := h.cnt sec 16 (by omega)
theorem hIn.cl {x : RS} (sec : Int) (h : hIn s x) : hIn s (clX s sec x) := by
 unfold clX
 cases (cnX s sec x).2.isNil with
 | false => exact h.cn sec
 | true => exact hIn.cls sec _ (h.cn sec)
theorem hIn.ptI {x : RS} (last : Int) (h : hIn s x) : hIn s (ptI s last x) := rdAt_le h.1 h.2 (by omega)
theorem hIn.ptM {x : RS} (last : Int) (h : hIn s x) : hIn s (ptM s last x) := (h.ptI last).tr 2
theorem hIn.ptN {x : RS} (last : Int) (h : hIn s x) : hIn s (ptN s last x) := nmAt_le 2 (h.ptM last).1 (h.ptM last).2
theorem hIn.pt {x : RS} (last : Int) (h : hIn s x) : hIn s (ptX s last x) := (h.ptN last).cl 2
theorem trX_keep {sec : Int} {x : RS} (h : (trX s sec x).2.isNil = true) : rdOk s x.1 1 x.2 = true /\ rdV s x.1 1 x.2 <= 1 /\ x.2.isNil = true := by
 have h : (needE (rdE s x.1 1 sec x.2) (decide (rdV s x.1 1 x.2 <= 1)) sec 6 x.1).isNil = true := h
 rw [needE_nil _ _ _ _ rfl, Bool.and_eq_true, decide_eq_true_eq] at h
 exact ⟨(rdE_keep h.2).1, h.1, (rdE_keep h.2).2⟩
theorem clX_keep {sec : Int} {x : RS} (h : (clX s sec x).2.isNil = true) : (cnX s sec x).2.isNil = true := by
 unfold clX at h
 cases c : (cnX s sec x).2.isNil with
 | true => rfl
 | false => rw [c, cond_false, c] at h; exact h
theorem nmE_keep {a sec : Int} {e : Err} (h : (nmE s a sec e).isNil = true) : (nmK s a sec e).isNil = true /\ rdOk s a 1 e = true /\ 1 <= rdV s a 1 e /\ rdV s a 1 e <= 16 /\ e.isNil = true /\
 rdOk s (rdAt s a 1 e) (max (rdV s a 1 e) 0) (nmK s a sec e) = true /\ rightN (rdT s (rdAt s a 1 e) (max (rdV s a 1 e) 0) (nmK s a sec e)) = true := by
 unfold nmE at h
 cases c : (nmK s a sec e).isNil with
 | false => rw [c, cond_false, c] at h; cases h
 | true =>
  rw [c, cond_true, needE_nil _ _ _ _ rfl, Bool.and_eq_true] at h
  have c2 := c
  unfold nmK at c2
  rw [needE_nil _ _ _ _ rfl, Bool.and_eq_true, Bool.and_eq_true, decide_eq_true_eq, decide_eq_true_eq] at c2
  exact ⟨rfl, (rdE_keep c2.2).1, c2.1.1, c2.1.2, (rdE_keep c2.2).2, (rdE_keep h.2).1, h.1⟩
theorem ptX_keep {last : Int} {x : RS} (h : (ptX s last x).2.isNil = true) : (cnX s 2 (ptN s last x)).2.isNil = true /\ (ptN s last x).2.isNil = true /\ (ptM s last x).2.isNil = true /\ (ptI s last x).2.isNil = true /\ rdOk s x.1 1 x.2 = true /\ last < rdV s x.1 1 x.2 /\ x.2.isNil = true := by
 have h1 := clX_keep h
 have h2 := (cntX_keep h1).2.2
 have h3 := (nmE_keep h2).2.2.2.2.1
 have h4 := (trX_keep h3).2.2
 have h5 : (needE (rdE s x.1 1 2 x.2) (decide (rdV s x.1 1 x.2 > last)) 2 9 x.1).isNil = true := h4
 rw [needE_nil _ _ _ _ rfl, Bool.and_eq_true, decide_eq_true_eq] at h5
 exact ⟨h1, h2, h3, h4, (rdE_keep h5.2).1, h5.1, (rdE_keep h5.2).2⟩
theorem trX_ge (sec : Int) (x : RS) : x.1 <= (trX s sec x).1 := rdAt_ge s _ _ (by omega)
theorem cl1_ge (sec : Int) (x : RS) : x.1 <= (cl1 s sec x).1 := by
 have h1 := trX_ge (s := s) sec x
 have h2 : (trX s sec x).1 <= (cl1 s sec x).1 := rdAt_ge s _ _ (by omega)
 omega
theorem clsX_ge (sec : Int) : ∀ (n : Nat) (x : RS), x.1 <= (clsX s sec n x).1
 | 0, _ => Int.le_refl _
 | n + 1, x => by
  unfold clsX
  cases x.2.isNil with
  | false => exact Int.le_refl _
  | true => exact Int.le_trans (cl1_ge sec x) (clsX_ge sec n _)
theorem clX_ge (sec : Int) (x : RS) : x.1 <= (clX s sec x).1 := by
 have h1 : x.1 <= (cnX s sec x).1 := rdAt_ge s _ _ (by omega)
 unfold clX
 cases (cnX s sec x).2.isNil with
 | false => exact h1
 | true => exact Int.le_trans h1 (clsX_ge sec _ _)
theorem nmAt_ge (a sec : Int) (e : Err) : a <= nmAt s a sec e := by
 have h1 : a <= rdAt s a 1 e := rdAt_ge s _ _ (by omega)
 unfold nmAt
 cases (nmK s a sec e).isNil with
 | false => exact h1
 | true => exact Int.le_trans h1 (rdAt_ge s _ _ (by omega))
theorem ptX_adv {last : Int} {x : RS} (h : (ptX s last x).2.isNil = true) : x.1 + 1 <= (ptX s last x).1 := by
 obtain ⟨_, _, _, _, h5, _, _⟩ := ptX_keep h
 have e : (ptI s last x).1 = x.1 + 1 := by show rdAt s x.1 1 x.2 = _; unfold rdAt; rw [h5]; rfl
 have g1 : (ptI s last x).1 <= (ptM s last x).1 := trX_ge 2 _
 have g2 : (ptM s last x).1 <= (ptN s last x).1 := nmAt_ge _ _ _
 have g3 := clX_ge (s := s) 2 (ptN s last x)
 unfold ptX; omega
theorem hIn.pts : ∀ (n : Nat) (last : Int) {x : RS}, hIn s x -> hIn s (ptsX s n last x)
 | 0, _, _, h => h
 | n + 1, last, x, h => by
  unfold ptsX
  cases x.2.isNil with
  | false => exact h
  | true => exact hIn.pts n _ (h.pt last)
theorem tr_back {sec : Int} {a : Nat} {v : Bool} (h : Has s a (beL 1 (bitN v))) {x : Int} (hx : x = (a : Int)) : trV s sec (x, .nil) = v /\ trX s sec (x, .nil) = (((a + 1 : Nat) : Int), .nil) := by
 obtain ⟨b1, b2, b3⟩ := bitN_lt v
 obtain ⟨r, r', r''⟩ := h.rd (by rw [q256_1]; exact b1) (x := x) (y := 1) hx rfl
 have hX : trX s sec (x, .nil) = (((a + 1 : Nat) : Int), .nil) := by
  unfold trX; simp only; rw [r, r', r'', decide_eq_true (by omega : ((bitN v : Nat) : Int) <= 1)]; rfl
 refine ⟨?_, hX⟩
 unfold trV; rw [hX]; simp only; rw [r, b3]; rfl
theorem cl1_back {sec : Int} {a : Nat} {c : Cl} (h : Has s a (cellB c)) (ho : OkC c) {x : Int} (hx : x = (a : Int)) : clV1 s sec (x, .nil) = c /\ cl1 s sec (x, .nil) = (((a + 5 : Nat) : Int), .nil) := by
 unfold cellB at h
 obtain ⟨e1, e2⟩ := tr_back (sec := sec) h.left hx
 obtain ⟨o1, o2⟩ := ho
 obtain ⟨r, r', r''⟩ := (h.right' (b := a + 1) (by rw [beL_len])).rd (by rw [q256_4]; omega) (x := ((a + 1 : Nat) : Int)) (y := 4) rfl rfl
 rw [Int.toNat_of_nonneg o1] at r
 refine ⟨?_, ?_⟩
 ·unfold clV1; rw [e1, e2]; simp only; rw [r]
 ·unfold cl1 r1; rw [e2]; simp only; rw [r', r'']
theorem cls_back {sec : Int} : ∀ (l : List Cl) (a : Nat) (x : Int), x = (a : Int) -> Has s a (cellsB l) -> (∀ c, c ∈ l -> OkC c) ->
 clsV s sec l.length (x, .nil) = l /\ clsX s sec l.length (x, .nil) = (((a + 5 * l.length : Nat) : Int), .nil)
 | [], a, x, hx, _, _ => ⟨rfl, by rw [hx]; rfl⟩
 | w :: r, a, x, hx, h, hw => by
  rw [cellsB] at h
  obtain ⟨e1, e2⟩ := cl1_back (sec := sec) h.left (hw w List.mem_cons_self) hx
  obtain ⟨e3, e4⟩ := cls_back r (a + 5) _ rfl (h.right' (by rw [cellB_len])) (fun z hz => hw z (List.mem_cons_of_mem _ hz))
  refine ⟨?_, ?_⟩
  ·show (bif true then clV1 s sec (x, .nil) :: clsV s sec r.length (cl1 s sec (x, .nil)) else []) = _
   rw [e1, e2, e3]; rfl
  ·show (bif true then clsX s sec r.length (cl1 s sec (x, .nil)) else _) = _
   rw [e2, e4, List.length_cons]
   have : a + 5 + 5 * r.length = a + 5 * (r.length + 1) := by omega
   rw [this]; rfl
theorem cl_back {sec : Int} {l : List Cl} {a : Nat} (h : Has s a (beL 1 l.length ++ cellsB l)) (hl : l.length <= 16) (hw : ∀ c, c ∈ l -> OkC c) {x : Int} (hx : x = (a : Int)) :
 clV s sec (x, .nil) = l /\ clX s sec (x, .nil) = (((a + (1 + 5 * l.length) : Nat) : Int), .nil) := by
 obtain ⟨r, r', r''⟩ := h.left.rd (by rw [q256_1]; omega) (x := x) (y := 1) hx rfl
 have hN : cnN s (x, .nil) = l.length := by unfold cnN; simp only; rw [r, Int.toNat_natCast]
 have hc : cnX s sec (x, .nil) = (((a + 1 : Nat) : Int), .nil) := by
  unfold cnX cntX; simp only; rw [r, r', r'', decide_eq_true (by omega : ((l.length : Nat) : Int) <= 16)]; rfl
 obtain ⟨e3, e4⟩ := cls_back (sec := sec) l (a + 1) _ rfl (h.right' (by rw [beL_len])) hw
 refine ⟨?_, ?_⟩
 ·unfold clV; rw [hc, hN, e3]
 ·unfold clX; rw [hc, hN]; simp only; rw [e4]
  have : a + 1 + 5 * l.length = a + (1 + 5 * l.length) := by omega
  rw [this]; rfl
theorem pt_back {a : Nat} {last : Int} {y : Prt} (h : Has s a (prtB y)) (ho : OkP y) (hl : last < y.1) (hc : ∀ c, c ∈ y.2.2.2 -> OkC c) {x : Int} (hx : x = (a : Int)) :
 ptV s last (x, .nil) = y /\ ptX s last (x, .nil) = (((a + (prtB y).length : Nat) : Int), .nil) := by
 obtain ⟨⟨o1, o1'⟩, o2, o3⟩ := ho
 have hlen := prtB_len y
 unfold prtB at h
 have q1 := h.right' (b := a + 1) (by rw [beL_len])
 have q2 := q1.right' (b := a + 2) (by rw [beL_len])
 have q3 := q2.right' (b := a + 2 + (y.2.1.size + 1)) (by rw [nameB_len])
 obtain ⟨r, r', r''⟩ := h.left.rd (by rw [q256_1]; omega) (x := x) (y := 1) hx rfl
 rw [Int.toNat_of_nonneg o1] at r
 have hI : ptI s last (x, .nil) = (((a + 1 : Nat) : Int), .nil) := by
  unfold ptI; simp only; rw [r, r', r'', decide_eq_true (by omega : y.1 > last)]; rfl
 obtain ⟨t1, t2⟩ := tr_back (sec := 2) q1.left (x := ((a + 1 : Nat) : Int)) rfl
 have hM : ptM s last (x, .nil) = (((a + 2 : Nat) : Int), .nil) := by unfold ptM; rw [hI]; exact t2
 obtain ⟨n1, n2, n3⟩ := name_back (sec := 2) q2.left o2 (x := ((a + 2 : Nat) : Int)) rfl
 have hN : ptN s last (x, .nil) = (((a + 2 + (y.2.1.size + 1) : Nat) : Int), .nil) := by unfold ptN; rw [hM]; simp only; rw [n2, n3]
 obtain ⟨c1, c2⟩ := cl_back (sec := 2) q3 o3 hc (x := ((a + 2 + (y.2.1.size + 1) : Nat) : Int)) rfl
 refine ⟨?_, ?_⟩
 ·unfold ptV; rw [hI, hM, hN]; simp only; rw [r, n1, t1, c1]
 ·unfold ptX; rw [hN, c2, hlen]
  have : a + 2 + (y.2.1.size + 1) + (1 + 5 * y.2.2.2.length) = a + (4 + y.2.1.size + 5 * y.2.2.2.length) := by omega
  rw [this]
theorem pts_back : ∀ (l : List Prt) (p : Option Int) (last : Int) (i : Nat) (a : Nat) (x : Int), x = (a : Int) -> (match p with | some q => last = q | none => last = -1) -> (prtsE p i l).isNil = true -> (∀ y, y ∈ l -> ∀ c, c ∈ y.2.2.2 -> OkC c) -> Has s a (prtsB l) ->
 ptsV s l.length last (x, .nil) = l /\ ptsX s l.length last (x, .nil) = (((a + (prtsB l).length : Nat) : Int), .nil)
 | [], p, last, i, a, x, hx, _, _, _, _ => ⟨rfl, by rw [hx]; rfl⟩
 | y :: r, p, last, i, a, x, hx, hp, he, hc, h => by
  rw [prtsE_cons] at he
  cases cE : wE1 p y.1 (prtR y) == 0 with
  | false => rw [cE] at he; cases he
  | true =>
   rw [cE] at he
   obtain ⟨z1, z2⟩ := wE1_zero (eq_of_beq cE)
   have ho := prtR_ok z1
   have hlast : last < y.1 := by
    cases p with
    | none => simp only at hp; have := ho.1.1; omega
    | some q => have := z2 q rfl; simp only at hp; omega
   rw [prtsB] at h
   obtain ⟨e1, e2⟩ := pt_back h.left ho hlast (hc y List.mem_cons_self) hx
   have e0 : rdV s x 1 .nil = y.1 := by rw [<- e1]; rfl
   obtain ⟨e3, e4⟩ := pts_back r (some y.1) y.1 (i + 1) (a + (prtB y).length) _ rfl rfl he (fun z hz => hc z (List.mem_cons_of_mem _ hz)) h.right
   refine ⟨?_, ?_⟩
   ·show (bif true then ptV s last (x, .nil) :: ptsV s r.length (rdV s x 1 .nil) (ptX s last (x, .nil)) else []) = _
    rw [e1, e2, e0, e3]; rfl
   ·show (bif true then ptsX s r.length (rdV s x 1 .nil) (ptX s last (x, .nil)) else _) = _
    rw [e2, e0, e4, prtsB, List.length_append, Nat.add_assoc]; rfl
end
end Go.Ab.T
namespace Go.Ab.T
open Go Go.Ab
abbrev Pr := Int × Int
def cmpI (a b : Int) : Int := bif decide (a < b) then -1 else bif decide (a > b) then 1 else 0
def orV : List Int -> Int
 | [] => 0
 | x :: r => bif x != 0 then x else orV r
def ltP (a b : Pr) : Bool := bif decide (a.1 < b.1) then true else bif a.1 == b.1 then decide (a.2 < b.2) else false
def cmpP (a b : Pr) : Int := orV [cmpI a.1 b.1, cmpI a.2 b.2]
theorem cmpI_cases (a b : Int) : (cmpI a b = -1 /\ a < b) \/ (cmpI a b = 1 /\ b < a) \/ (cmpI a b = 0 /\ a = b) := by
 unfold cmpI
 cases h : decide (a < b) with
 | true => rw [decide_eq_true_eq] at h; exact .inl ⟨rfl, h⟩
 | false =>
  rw [decide_eq_false_iff_not] at h
  cases h2 : decide (a > b) with
  | true => rw [decide_eq_true_eq] at h2; exact .inr (.inl ⟨rfl, h2⟩)
  | false => rw [decide_eq_false_iff_not] at h2; exact .inr (.inr ⟨rfl, by omega⟩)
theorem ltP_iff {a b : Pr} : ltP a b = true ↔ a.1 < b.1 \/ (a.1 = b.1 /\ a.2 < b.2) := by
 unfold ltP
 cases h : decide (a.1 < b.1) with
 | true => rw [decide_eq_true_eq] at h; exact ⟨fun _ => .inl h, fun _ => rfl⟩
 | false =>
  rw [decide_eq_false_iff_not] at h
  cases h2 : a.1 == b.1 with
  | true => rw [beq_iff_eq] at h2; show decide _ = true ↔ _; rw [decide_eq_true_eq]; exact ⟨fun h3 => .inr ⟨h2, h3⟩, fun h3 => by omega⟩
  | false => rw [beq_eq_false_iff_ne] at h2; exact ⟨fun h3 => (by cases h3), fun h3 => by omega⟩
theorem cmpP_lt (a b : Pr) : decide (cmpP a b < 0) = ltP a b := by
 rw [Bool.eq_iff_iff, decide_eq_true_eq, ltP_iff]
 unfold cmpP
 rcases cmpI_cases a.1 b.1 with ⟨h, h'⟩ | ⟨h, h'⟩ | ⟨h, h'⟩
 ·rw [h]; show (-1 : Int) < 0 ↔ _; omega
 ·rw [h]; show (1 : Int) < 0 ↔ _; omega
 ·rw [h]
  rcases cmpI_cases a.2 b.2 with ⟨k, k'⟩ | ⟨k, k'⟩ | ⟨k, k'⟩
  ·rw [k]; show (-1 : Int) < 0 ↔ _; omega
  ·rw [k]; show (1 : Int) < 0 ↔ _; omega
  ·rw [k]; show (0 : Int) < 0 ↔ _; omega
def idOk (n : Int) : Bool := bif decide (n >= 0) then decide (n <= 255) else false
theorem idOk_iff {n : Int} : idOk n = true ↔ 0 <= n /\ n <= 255 := by
 unfold idOk
 cases h : decide (n >= 0) with
 | true => rw [decide_eq_true_eq] at h; show decide _ = true ↔ _; rw [decide_eq_true_eq]; omega
 | false => rw [decide_eq_false_iff_not] at h; exact ⟨fun h => (by cases h), fun h => by omega⟩
def inP (p : Pr) : Bool := idOk p.1 && idOk p.2
theorem inP_iff {p : Pr} : inP p = true ↔ (0 <= p.1 /\ p.1 <= 255) /\ 0 <= p.2 /\ p.2 <= 255 := by
 unfold inP; rw [Bool.and_eq_true, idOk_iff, idOk_iff]
def pw1 (p : Option Pr) (x : Pr) : Int := bif inP x then (match p with | some q => bif ltP q x then 0 else 9 | none => 0) else 18
def prsE : Option Pr -> Nat -> List Pr -> Err
 | _, _, [] => .nil
 | p, i, x :: r => bif pw1 p x == 0 then prsE (some x) (i + 1) r else .sec 4 (.plc (i : Int) (.cls (pw1 p x)))
theorem prsE_cons (p : Option Pr) (i : Nat) (x : Pr) (r : List Pr) : prsE p i (x :: r) = bif pw1 p x == 0 then prsE (some x) (i + 1) r else .sec 4 (.plc (i : Int) (.cls (pw1 p x))) := rfl
theorem pw1_cases (p : Option Pr) (x : Pr) : pw1 p x = 0 \/ pw1 p x = 9 \/ pw1 p x = 18 := by
 unfold pw1
 cases inP x with
 | false => exact .inr (.inr rfl)
 | true =>
  cases p with
  | none => exact .inl rfl
  | some q =>
   show (bif ltP q x then (0 : Int) else 9) = 0 \/ (bif ltP q x then (0 : Int) else 9) = 9 \/ _
   cases ltP q x with
   | true => exact .inl rfl
   | false => exact .inr (.inl rfl)
theorem pw1_zero {p : Option Pr} {x : Pr} (h : pw1 p x = 0) : inP x = true /\ ∀ q, p = some q -> ltP q x = true := by
 unfold pw1 at h
 cases c : inP x with
 | false => rw [c] at h; exact absurd (show (18 : Int) = 0 from h) (by decide)
 | true =>
  refine ⟨rfl, ?_⟩
  rintro q rfl
  rw [c] at h
  cases c2 : ltP q x with
  | true => rfl
  | false => simp only [c2] at h; exact absurd (show (9 : Int) = 0 from h) (by decide)
theorem prsE_good : ∀ (l : List Pr) (p : Option Pr) (i : Nat), GoodE (prsE p i l)
 | [], _, _ => .nil
 | x :: r, p, i => by
  rw [prsE_cons]
  cases c : pw1 p x == 0 with
  | true => exact prsE_good r _ _
  | false =>
   refine .spc _ _ _ ?_
   rw [beq_eq_false_iff_ne] at c
   rcases pw1_cases p x with h | h | h
   ·exact absurd h c
   ·rw [h]; rfl
   ·rw [h]; rfl
theorem prsE_ok : ∀ (l : List Pr) (p : Option Pr) (i : Nat), (prsE p i l).isNil = true -> ∀ x, x ∈ l -> inP x = true
 | [], _, _, _, x, hx => by cases hx
 | y :: r, p, i, h, x, hx => by
  rw [prsE_cons] at h
  cases c : pw1 p y == 0 with
  | false => rw [c] at h; cases h
  | true =>
   rw [c] at h
   rcases List.mem_cons.1 hx with rfl | hx
   ·exact (pw1_zero (eq_of_beq c)).1
   ·exact prsE_ok r _ _ h x hx
def pairB (p : Pr) : List UInt8 := beL 1 p.1.toNat ++ beL 1 p.2.toNat
def pairsB : List Pr -> List UInt8
 | [] => []
 | p :: r => pairB p ++ pairsB r
theorem pairB_len (p : Pr) : (pairB p).length = 2 := by unfold pairB; simp only [List.length_append, beL_len]
theorem pairsB_len : ∀ l : List Pr, (pairsB l).length = 2 * l.length
 | [] => rfl
 | p :: r => by rw [pairsB, List.length_append, pairB_len, pairsB_len r, List.length_cons]; omega
def prevR (l : List Pr) : Nat -> Option Pr
 | 0 => none
 | i + 1 => l[i]?
def addB (l : List UInt8) (p : Pr) : List UInt8 := l ++ pairB p
theorem pair_bytes (out : List UInt8) (y : Pr) (r : List UInt8) (b : List UInt8) (e : Err) : outP b e (addB out y) r = outP b e out (pairB y ++ r) := by
 unfold outP addB; simp only [List.append_assoc]
def pr1 (s : ByteArray) (x : RS) : RS := r1 s 4 1 (r1 s 4 1 x)
def prV (s : ByteArray) (x : RS) : Pr := (rdV s x.1 1 x.2, rdV s (r1 s 4 1 x).1 1 (r1 s 4 1 x).2)
def prOk (last : Option Pr) (v : Pr) : Bool := match last with | none => true | some q => ltP q v
def prX (s : ByteArray) (last : Option Pr) (x : RS) : RS := ((pr1 s x).1, needE (pr1 s x).2 (prOk last (prV s x)) 4 9 x.1)
def prsV (s : ByteArray) : Nat -> Option Pr -> RS -> List Pr
 | 0, _, _ => []
 | n + 1, last, x => bif x.2.isNil then prV s x :: prsV s n (some (prV s x)) (prX s last x) else []
def prsX (s : ByteArray) : Nat -> Option Pr -> RS -> RS
 | 0, _, x => x
 | n + 1, last, x => bif x.2.isNil then prsX s n (some (prV s x)) (prX s last x) else x
def addP2 (l m : List Pr) : List Pr := l ++ m
def resP (s : ByteArray) (n : Nat) (x : RS) : List Pr := bif (prsX s n none x).2.isNil then prsV s n none x else []
theorem hIn.pr1 {s : ByteArray} {x : RS} (h : hIn s x) : hIn s (pr1 s x) := (h.r1 4 (by omega)).r1 4 (by omega)
theorem hIn.pr {s : ByteArray} {x : RS} (last : Option Pr) (h : hIn s x) : hIn s (prX s last x) := h.pr1
theorem hIn.prs {s : ByteArray} : ∀ (n : Nat) (last : Option Pr) {x : RS}, hIn s x -> hIn s (prsX s n last x)
 | 0, _, _, h => h
 | n + 1, last, x, h => by
  unfold prsX
  cases x.2.isNil with
  | false => exact h
  | true => exact hIn.prs n _ (h.pr last)
theorem prX_keep {s : ByteArray} {last : Option Pr} {x : RS} (h : (prX s last x).2.isNil = true) : (pr1 s x).2.isNil = true /\ (r1 s 4 1 x).2.isNil = true /\ x.2.isNil = true /\ prOk last (prV s x) = true := by
 have h : (needE (pr1 s x).2 (prOk last (prV s x)) 4 9 x.1).isNil = true := h
 rw [needE_nil _ _ _ _ rfl, Bool.and_eq_true] at h
 have h1 := (r1_keep h.2).2
 exact ⟨h.2, h1, (r1_keep h1).2, h.1⟩
theorem prsX_keep {s : ByteArray} : ∀ (n : Nat) (last : Option Pr) (x : RS), (prsX s n last x).2.isNil = true -> x.2.isNil = true
 | 0, _, _, h => h
 | n + 1, last, x, h => by
  unfold prsX at h
  cases c : x.2.isNil with
  | true => rfl
  | false => rw [c] at h; rw [cond_false, c] at h; exact h
theorem pr_back {S : ByteArray} {a : Nat} {last : Option Pr} {y : Pr} (h : Has S a (pairB y)) (ho : inP y = true) (hl : prOk last y = true) {x : Int} (hx : x = (a : Int)) :
 prV S (x, .nil) = y /\ prX S last (x, .nil) = (((a + 2 : Nat) : Int), .nil) := by
 obtain ⟨⟨o1, o2⟩, o3, o4⟩ := inP_iff.1 ho
 unfold pairB at h
 have q1 := h.right' (b := a + 1) (by rw [beL_len])
 obtain ⟨e1, e2⟩ := r1_back (sec := 4) h.left o1 o2 hx
 obtain ⟨e3, e4⟩ := r1_back (sec := 4) q1 o3 o4 (x := ((a + 1 : Nat) : Int)) rfl
 have hv : prV S (x, .nil) = y := by
  unfold prV; rw [e2]; simp only; rw [e1, e3]
 refine ⟨hv, ?_⟩
 unfold prX pr1
 rw [hv, e2, e4, hl]; rfl
theorem prs_back {S : ByteArray} : ∀ (l : List Pr) (p : Option Pr) (i : Nat) (a : Nat) (x : Int), x = (a : Int) -> (prsE p i l).isNil = true -> Has S a (pairsB l) ->
 prsV S l.length p (x, .nil) = l /\ prsX S l.length p (x, .nil) = (((a + (pairsB l).length : Nat) : Int), .nil)
 | [], _, _, a, x, hx, _, _ => ⟨rfl, by rw [hx]; rfl⟩
 | y :: r, p, i, a, x, hx, he, h => by
  rw [prsE_cons] at he
  cases c : pw1 p y == 0 with
  | false => rw [c] at he; cases he
  | true =>
   rw [c] at he
   obtain ⟨z1, z2⟩ := pw1_zero (eq_of_beq c)
   have hl : prOk p y = true := by
    cases p with
    | none => rfl
    | some q => exact z2 q rfl
   rw [pairsB] at h
   obtain ⟨e1, e2⟩ := pr_back h.left z1 hl hx
   obtain ⟨e3, e4⟩ := prs_back r (some y) (i + 1) (a + 2) _ rfl he (h.right' (by rw [pairB_len]))
   refine ⟨?_, ?_⟩
   ·show (bif true then prV S (x, .nil) :: prsV S r.length (some (prV S (x, .nil))) (prX S p (x, .nil)) else []) = _
    rw [e1, e2, e3]; rfl
   ·show (bif true then prsX S r.length (some (prV S (x, .nil))) (prX S p (x, .nil)) else _) = _
    rw [e1, e2, e4, pairsB, List.length_append, pairB_len, Nat.add_assoc]; rfl
end Go.Ab.T
namespace Go.Ab.T
open Go Go.Ab
abbrev Act3 := Int × Int × Int
def ltA (a b : Act3) : Bool := ltP (a.1, a.2.1) (b.1, b.2.1)
def cmpA (a b : Act3) : Int := cmpP (a.1, a.2.1) (b.1, b.2.1)
theorem cmpA_lt (a b : Act3) : decide (cmpA a b < 0) = ltA a b := cmpP_lt _ _
def doesA (n : Int) : Bool := n == 1 || n == 2
theorem doesA_iff {n : Int} : doesA n = true ↔ n = 1 \/ n = 2 := by unfold doesA; rw [Bool.or_eq_true, beq_iff_eq, beq_iff_eq]
def inA (p : Act3) : Bool := idOk p.1 && idOk p.2.1
theorem inA_iff {p : Act3} : inA p = true ↔ (0 <= p.1 /\ p.1 <= 255) /\ 0 <= p.2.1 /\ p.2.1 <= 255 := by
 unfold inA; rw [Bool.and_eq_true, idOk_iff, idOk_iff]
def ordA (p : Option Act3) (x : Act3) : Bool := match p with | none => true | some q => ltA q x
def aw1 (p : Option Act3) (x : Act3) : Int := bif inA x then (bif doesA x.2.2 then (bif ordA p x then 0 else 9) else 6) else 18
def actsE : Option Act3 -> Nat -> List Act3 -> Err
 | _, _, [] => .nil
 | p, i, x :: r => bif aw1 p x == 0 then actsE (some x) (i + 1) r else .sec 5 (.plc (i : Int) (.cls (aw1 p x)))
theorem actsE_cons (p : Option Act3) (i : Nat) (x : Act3) (r : List Act3) : actsE p i (x :: r) = bif aw1 p x == 0 then actsE (some x) (i + 1) r else .sec 5 (.plc (i : Int) (.cls (aw1 p x))) := rfl
theorem aw1_cases (p : Option Act3) (x : Act3) : aw1 p x = 0 \/ aw1 p x = 9 \/ aw1 p x = 6 \/ aw1 p x = 18 := by
 unfold aw1
 cases inA x with
 | false => exact .inr (.inr (.inr rfl))
 | true =>
  cases doesA x.2.2 with
  | false => exact .inr (.inr (.inl rfl))
  | true =>
   cases ordA p x with
   | true => exact .inl rfl
   | false => exact .inr (.inl rfl)
theorem aw1_zero {p : Option Act3} {x : Act3} (h : aw1 p x = 0) : inA x = true /\ doesA x.2.2 = true /\ ordA p x = true := by
 unfold aw1 at h
 cases c : inA x with
 | false => rw [c] at h; exact absurd (show (18 : Int) = 0 from h) (by decide)
 | true =>
  cases c2 : doesA x.2.2 with
  | false => rw [c, c2] at h; exact absurd (show (6 : Int) = 0 from h) (by decide)
  | true =>
   cases c3 : ordA p x with
   | false => rw [c, c2, c3] at h; exact absurd (show (9 : Int) = 0 from h) (by decide)
   | true => exact ⟨rfl, rfl, rfl⟩
theorem actsE_good : ∀ (l : List Act3) (p : Option Act3) (i : Nat), GoodE (actsE p i l)
 | [], _, _ => .nil
 | x :: r, p, i => by
  rw [actsE_cons]
  cases c : aw1 p x == 0 with
  | true => exact actsE_good r _ _
  | false =>
   refine .spc _ _ _ ?_
   rw [beq_eq_false_iff_ne] at c
   rcases aw1_cases p x with h | h | h | h
   ·exact absurd h c
   ·rw [h]; rfl
   ·rw [h]; rfl
   ·rw [h]; rfl
def actB (p : Act3) : List UInt8 := beL 1 p.1.toNat ++ beL 1 p.2.1.toNat ++ beL 1 p.2.2.toNat
def actsB : List Act3 -> List UInt8
 | [] => []
 | p :: r => actB p ++ actsB r
theorem actB_len (p : Act3) : (actB p).length = 3 := by unfold actB; simp only [List.length_append, beL_len]
theorem actsB_len : ∀ l : List Act3, (actsB l).length = 3 * l.length
 | [] => rfl
 | p :: r => by rw [actsB, List.length_append, actB_len, actsB_len r, List.length_cons]; omega
def prevA (l : List Act3) : Nat -> Option Act3
 | 0 => none
 | i + 1 => l[i]?
def addAc (l : List UInt8) (p : Act3) : List UInt8 := l ++ actB p
theorem act_bytes (out : List UInt8) (y : Act3) (r : List UInt8) (b : List UInt8) (e : Err) : outP b e (addAc out y) r = outP b e out (actB y ++ r) := by
 unfold outP addAc; simp only [List.append_assoc]
def ac1 (s : ByteArray) (x : RS) : RS := r1 s 5 1 (r1 s 5 1 (r1 s 5 1 x))
def acV (s : ByteArray) (x : RS) : Act3 := (rdV s x.1 1 x.2, rdV s (r1 s 5 1 x).1 1 (r1 s 5 1 x).2, rdV s (r1 s 5 1 (r1 s 5 1 x)).1 1 (r1 s 5 1 (r1 s 5 1 x)).2)
def acE (s : ByteArray) (x : RS) : Err := needE (ac1 s x).2 (doesA (acV s x).2.2) 5 6 (x.1 + 2)
def acX (s : ByteArray) (last : Option Act3) (x : RS) : RS := ((ac1 s x).1, needE (acE s x) (ordA last (acV s x)) 5 9 x.1)
def acsV (s : ByteArray) : Nat -> Option Act3 -> RS -> List Act3
 | 0, _, _ => []
 | n + 1, last, x => bif x.2.isNil then acV s x :: acsV s n (some (acV s x)) (acX s last x) else []
def acsX (s : ByteArray) : Nat -> Option Act3 -> RS -> RS
 | 0, _, x => x
 | n + 1, last, x => bif x.2.isNil then acsX s n (some (acV s x)) (acX s last x) else x
def addA2 (l m : List Act3) : List Act3 := l ++ m
def resA (s : ByteArray) (n : Nat) (x : RS) : List Act3 := bif (acsX s n none x).2.isNil then acsV s n none x else []
theorem hIn.ac1 {s : ByteArray} {x : RS} (h : hIn s x) : hIn s (ac1 s x) := ((h.r1 5 (by omega)).r1 5 (by omega)).r1 5 (by omega)
theorem hIn.ac {s : ByteArray} {x : RS} (last : Option Act3) (h : hIn s x) : hIn s (acX s last x) := h.ac1
theorem hIn.acs {s : ByteArray} : ∀ (n : Nat) (last : Option Act3) {x : RS}, hIn s x -> hIn s (acsX s n last x)
 | 0, _, _, h => h
 | n + 1, last, x, h => by
  unfold acsX
  cases x.2.isNil with
  | false => exact h
  | true => exact hIn.acs n _ (h.ac last)
theorem acX_keep {s : ByteArray} {last : Option Act3} {x : RS} (h : (acX s last x).2.isNil = true) :
 (ac1 s x).2.isNil = true /\ (r1 s 5 1 (r1 s 5 1 x)).2.isNil = true /\ (r1 s 5 1 x).2.isNil = true /\ x.2.isNil = true /\ doesA (acV s x).2.2 = true /\ ordA last (acV s x) = true := by
 have h : (needE (acE s x) (ordA last (acV s x)) 5 9 x.1).isNil = true := h
 rw [needE_nil _ _ _ _ rfl, Bool.and_eq_true] at h
 obtain ⟨h1, h2⟩ := h
 unfold acE at h2
 rw [needE_nil _ _ _ _ rfl, Bool.and_eq_true] at h2
 have g1 := (r1_keep h2.2).2
 have g2 := (r1_keep g1).2
 exact ⟨h2.2, g1, g2, (r1_keep g2).2, h2.1, h1⟩
theorem acsX_keep {s : ByteArray} : ∀ (n : Nat) (last : Option Act3) (x : RS), (acsX s n last x).2.isNil = true -> x.2.isNil = true
 | 0, _, _, h => h
 | n + 1, last, x, h => by
  unfold acsX at h
  cases c : x.2.isNil with
  | true => rfl
  | false => rw [c] at h; rw [cond_false, c] at h; exact h
theorem ac_back {S : ByteArray} {a : Nat} {last : Option Act3} {y : Act3} (h : Has S a (actB y)) (ho : inA y = true) (hd : doesA y.2.2 = true) (hl : ordA last y = true) {x : Int} (hx : x = (a : Int)) :
 acV S (x, .nil) = y /\ acX S last (x, .nil) = (((a + 3 : Nat) : Int), .nil) := by
 obtain ⟨⟨o1, o2⟩, o3, o4⟩ := inA_iff.1 ho
 have o5 := doesA_iff.1 hd
 unfold actB at h
 have q1 := h.left.right' (b := a + 1) (by rw [beL_len])
 have q2 := h.right' (b := a + 2) (by rw [List.length_append, beL_len, beL_len])
 obtain ⟨e1, e2⟩ := r1_back (sec := 5) h.left.left o1 o2 hx
 obtain ⟨e3, e4⟩ := r1_back (sec := 5) q1 o3 o4 (x := ((a + 1 : Nat) : Int)) rfl
 obtain ⟨e5, e6⟩ := r1_back (sec := 5) q2 (by omega) (by omega) (x := ((a + 2 : Nat) : Int)) rfl
 have hv : acV S (x, .nil) = y := by
  unfold acV; rw [e2]; simp only; rw [e1, e3, e4]; simp only; rw [e5]
 refine ⟨hv, ?_⟩
 unfold acX acE ac1
 rw [hv, e2, e4, e6, hl, hd]; rfl
theorem acs_back {S : ByteArray} : ∀ (l : List Act3) (p : Option Act3) (i : Nat) (a : Nat) (x : Int), x = (a : Int) -> (actsE p i l).isNil = true -> Has S a (actsB l) ->
 acsV S l.length p (x, .nil) = l /\ acsX S l.length p (x, .nil) = (((a + (actsB l).length : Nat) : Int), .nil)
 | [], _, _, a, x, hx, _, _ => ⟨rfl, by rw [hx]; rfl⟩
 | y :: r, p, i, a, x, hx, he, h => by
  rw [actsE_cons] at he
  cases c : aw1 p y == 0 with
  | false => rw [c] at he; cases he
  | true =>
   rw [c] at he
   obtain ⟨z1, z2, z3⟩ := aw1_zero (eq_of_beq c)
   rw [actsB] at h
   obtain ⟨e1, e2⟩ := ac_back h.left z1 z2 z3 hx
   obtain ⟨e3, e4⟩ := acs_back r (some y) (i + 1) (a + 3) _ rfl he (h.right' (by rw [actB_len]))
   refine ⟨?_, ?_⟩
   ·show (bif true then acV S (x, .nil) :: acsV S r.length (some (acV S (x, .nil))) (acX S p (x, .nil)) else []) = _
    rw [e1, e2, e3]; rfl
   ·show (bif true then acsX S r.length (some (acV S (x, .nil))) (acX S p (x, .nil)) else _) = _
    rw [e1, e2, e4, actsB, List.length_append, actB_len, Nat.add_assoc]; rfl
end Go.Ab.T
namespace Go.Ab.T
open Go Go.Ab
abbrev Mdl := Int × Int × List Prt × List Sch × List Pr × List Act3
def sumAt (s : ByteArray) : Int := getV s ((s.size : Int) - 4) 4
def preS (s : ByteArray) : ByteArray := s.extract 0 (s.size - 4)
def frE (s : ByteArray) (t : Int) : Err :=
 bif t != (s.size : Int) then .sec 1 (.plc 4 (.cls 4)) else bif decide ((s.size : Int) < 27) then .sec 6 (.plc 23 (.cls 2)) else
 bif sumAt s != ((crcN (preS s).data.toList : Nat) : Int) then .sec 6 (.plc ((s.size : Int) - 4) (.cls 5)) else .nil
def iH (s : ByteArray) : RS := hx11 s (0, .nil)
def iT (s : ByteArray) : Int := hV s 4 (iH s) (hx4 s (0, .nil))
def iEp (s : ByteArray) : Int := hV s 8 (iH s) (hx5 s (0, .nil))
def iFi (s : ByteArray) : Int := hV s 1 (iH s) (hx6 s (0, .nil))
def iP (s : ByteArray) : Int := hV s 1 (iH s) (hx7 s (0, .nil))
def iS (s : ByteArray) : Int := hV s 1 (iH s) (hx8 s (0, .nil))
def iR (s : ByteArray) : Int := hV s 2 (iH s) (hx9 s (0, .nil))
def iA (s : ByteArray) : Int := hV s 2 (iH s) (hx10 s (0, .nil))
def headE (s : ByteArray) : Err := bif (iH s).2.isNil then frE s (iT s) else (iH s).2
def d0 : RS := (23, .nil)
def dP (t : ByteArray) (np : Int) : RS := ptsX t np.toNat (-1) d0
def dS (t : ByteArray) (np ns : Int) : RS := schsX t ns.toNat (-1) (dP t np)
def dR (t : ByteArray) (np ns nr : Int) : RS := prsX t nr.toNat none (dS t np ns)
def dA (t : ByteArray) (np ns nr na : Int) : RS := acsX t na.toNat none (dR t np ns nr)
def endE (t : ByteArray) (x : RS) : Err := bif x.2.isNil then (bif decide ((t.size : Int) - x.1 > 0) then .sec 6 (.plc x.1 (.cls 4)) else .nil) else x.2
def decE (s : ByteArray) : Err := bif (headE s).isNil then endE (preS s) (dA (preS s) (iP s) (iS s) (iR s) (iA s)) else headE s
def decP (s : ByteArray) : List Prt := ptsV (preS s) (iP s).toNat (-1) d0
def decS (s : ByteArray) : List Sch := schsV (preS s) (iS s).toNat (-1) (dP (preS s) (iP s))
def decR (s : ByteArray) : List Pr := prsV (preS s) (iR s).toNat none (dS (preS s) (iP s) (iS s))
def decA (s : ByteArray) : List Act3 := acsV (preS s) (iA s).toNat none (dR (preS s) (iP s) (iS s) (iR s))
theorem schsX_err {s : ByteArray} {x : RS} (h : x.2.isNil = false) : ∀ (n : Nat) (last : Int), schsX s n last x = x
 | 0, _ => rfl
 | n + 1, last => by show (bif x.2.isNil then _ else x) = x; rw [h]; rfl
theorem prsX_err {s : ByteArray} {x : RS} (h : x.2.isNil = false) : ∀ (n : Nat) (last : Option Pr), prsX s n last x = x
 | 0, _ => rfl
 | n + 1, last => by show (bif x.2.isNil then _ else x) = x; rw [h]; rfl
theorem acsX_err {s : ByteArray} {x : RS} (h : x.2.isNil = false) : ∀ (n : Nat) (last : Option Act3), acsX s n last x = x
 | 0, _ => rfl
 | n + 1, last => by show (bif x.2.isNil then _ else x) = x; rw [h]; rfl
def decM (s : ByteArray) : Mdl := bif (decE s).isNil then (iEp s, iFi s, decP s, decS s, decR s, decA s) else (0, 0, [], [], [], [])
theorem hIn_schs {s : ByteArray} : ∀ (n : Nat) (last : Int) {x : RS}, hIn s x -> hIn s (schsX s n last x)
 | 0, _, _, h => h
 | n + 1, last, x, h => by
  unfold schsX
  cases x.2.isNil with
  | false => exact h
  | true => exact hIn_schs n _ (h.sch last)
theorem hV_bound (s : ByteArray) (n : Nat) (x y : RS) : 0 <= hV s n x y /\ hV s n x y < ((256 ^ n : Nat) : Int) := by
 unfold hV
 cases x.2.isNil with
 | true => exact rdV_lt s y.1 n y.2
 | false => exact ⟨Int.le_refl 0, by have := Nat.pow_pos (n := n) (show 0 < 256 by decide); show (0 : Int) < _; omega⟩
theorem hV_le {n : Nat} (s : ByteArray) (x y : RS) (h : n <= 2) : hV s n x y <= 9223372036854775807 := by
 have h1 := (hV_bound s n x y).2
 have h2 : 256 ^ n <= 256 ^ 2 := Nat.pow_le_pow_right (by omega) h
 have h3 : 256 ^ 2 = 65536 := by decide
 omega
theorem iT_lt (s : ByteArray) : 0 <= iT s /\ iT s < 4294967296 := by
 have h := hV_bound s 4 (iH s) (hx4 s (0, .nil))
 have h3 : 256 ^ 4 = 4294967296 := by decide
 rw [h3] at h
 exact h
theorem frE_27 {s : ByteArray} {t : Int} (h : (frE s t).isNil = true) : 27 <= s.size := by
 unfold frE at h
 cases c1 : t != (s.size : Int) with
 | true => rw [c1] at h; cases h
 | false =>
  cases c2 : decide ((s.size : Int) < 27) with
  | true => rw [c1, c2] at h; cases h
  | false => rw [decide_eq_false_iff_not] at c2; omega
end Go.Ab.T
namespace Go.Ab.T
open Go Go.Ab
def firstE : List Err -> Err
 | [] => .nil
 | e :: r => bif e.isNil then firstE r else e
def imgEs (m : Mdl) : List Err := [hdrE m.2.1 (m.2.2.1.length : Int) (m.2.2.2.1.length : Int) (m.2.2.2.2.1.length : Int) (m.2.2.2.2.2.length : Int), prtsE none 0 m.2.2.1, schsE none 0 m.2.2.2.1, prsE none 0 m.2.2.2.2.1, actsE none 0 m.2.2.2.2.2]
def imgE (m : Mdl) : Err := firstE (imgEs m)
def firstF : List F3 -> F3
 | [] => (0, 0, 0)
 | y :: r => bif y.1 != 0 then y else firstF r
theorem firstF_ofE : ∀ l : List Err, (∀ e, e ∈ l -> GoodE e) -> firstF (l.map ofE) = ofE (firstE l)
 | [], _ => rfl
 | e :: r, h => by
  have hg := (h e List.mem_cons_self).nil_iff
  have bne : ((ofE e).1 != 0) = !((ofE e).1 == 0) := rfl
  rw [List.map_cons, firstF, firstE, bne, hg]
  cases c : e.isNil with
  | true => exact firstF_ofE r (fun z hz => h z (List.mem_cons_of_mem _ hz))
  | false => rfl
theorem firstE_good : ∀ l : List Err, (∀ e, e ∈ l -> GoodE e) -> GoodE (firstE l)
 | [], _ => .nil
 | e :: r, h => by
  rw [firstE]
  cases c : e.isNil with
  | true => exact firstE_good r (fun z hz => h z (List.mem_cons_of_mem _ hz))
  | false => exact h e List.mem_cons_self
theorem firstE_nil : ∀ l : List Err, (firstE l).isNil = true -> ∀ e, e ∈ l -> e.isNil = true
 | [], _, _, he => by cases he
 | e :: r, h, z, hz => by
  rw [firstE] at h
  cases c : e.isNil with
  | false => rw [c, cond_false, c] at h; cases h
  | true =>
   rw [c] at h
   rcases List.mem_cons.1 hz with rfl | hz
   ·exact c
   ·exact firstE_nil r h z hz
theorem imgEs_good (m : Mdl) : ∀ e, e ∈ imgEs m -> GoodE e := by
 intro e he
 unfold imgEs at he
 simp only [List.mem_cons, List.not_mem_nil, or_false] at he
 rcases he with rfl | rfl | rfl | rfl | rfl
 ·exact hdrE_good _ _ _ _ _
 ·exact prtsE_good _ _ _
 ·exact schsE_good _ _ _
 ·exact prsE_good _ _ _
 ·exact actsE_good _ _ _
theorem imgE_good (m : Mdl) : GoodE (imgE m) := firstE_good _ (imgEs_good m)
theorem actsE_ok : ∀ (l : List Act3) (p : Option Act3) (i : Nat), (actsE p i l).isNil = true -> ∀ x, x ∈ l -> inA x = true /\ doesA x.2.2 = true
 | [], _, _, _, x, hx => by cases hx
 | y :: r, p, i, h, x, hx => by
  rw [actsE_cons] at h
  cases c : aw1 p y == 0 with
  | false => rw [c] at h; cases h
  | true =>
   rw [c] at h
   rcases List.mem_cons.1 hx with rfl | hx
   ·have := aw1_zero (eq_of_beq c); exact ⟨this.1, this.2.1⟩
   ·exact actsE_ok r _ _ h x hx
def bodL (m : Mdl) : List UInt8 := prtsB m.2.2.1 ++ (schsB m.2.2.2.1 ++ (pairsB m.2.2.2.2.1 ++ actsB m.2.2.2.2.2))
def totN (m : Mdl) : Int := 27 + ((bodL m).length : Int)
def imgH (m : Mdl) : List UInt8 := hdrL (totN m) m.1 m.2.1 (m.2.2.1.length : Int) (m.2.2.2.1.length : Int) (m.2.2.2.2.1.length : Int) (m.2.2.2.2.2.length : Int)
def imgP (m : Mdl) : List UInt8 := imgH m ++ bodL m
def imgL (m : Mdl) : List UInt8 := imgP m ++ beL 4 (crcN (imgP m))
def WfM (m : Mdl) : Prop := (0 <= m.1 /\ m.1 < 18446744073709551616) /\ ∀ x, x ∈ m.2.2.1 -> ∀ c, c ∈ x.2.2.2 -> OkC c
theorem hdrL_len (h0 h1 h2 h3 h4 h5 h6 : Int) : (hdrL h0 h1 h2 h3 h4 h5 h6).length = 23 := by
 unfold hdrL; simp only [List.length_append, beL_len, List.length_cons, List.length_nil]
theorem crcN_lt (l : List UInt8) : crcN l < 4294967296 := by unfold crcN; omega
section
variable {m : Mdl} (hw : WfM m) (he : (imgE m).isNil = true)
include he
theorem img_parts : (hdrE m.2.1 (m.2.2.1.length : Int) (m.2.2.2.1.length : Int) (m.2.2.2.2.1.length : Int) (m.2.2.2.2.2.length : Int)).isNil = true /\ (prtsE none 0 m.2.2.1).isNil = true /\ (schsE none 0 m.2.2.2.1).isNil = true /\ (prsE none 0 m.2.2.2.2.1).isNil = true /\ (actsE none 0 m.2.2.2.2.2).isNil = true := by
 have h := firstE_nil _ he
 unfold imgEs at h
 exact ⟨h _ (by simp), h _ (by simp), h _ (by simp), h _ (by simp), h _ (by simp)⟩
theorem img_counts : m.2.2.1.length <= 32 /\ m.2.2.2.1.length <= 16 /\ m.2.2.2.2.1.length <= 240 /\ m.2.2.2.2.2.length <= 512 := by
 obtain ⟨c1, c2, c3, c4, c5⟩ := hdrE_ok (img_parts he).1
 rw [fineQ_1'] at c2
 rw [fineQ_2'] at c3
 rw [fineQ_3'] at c4
 rw [fineQ_4'] at c5
 simp only [Bool.and_eq_true, decide_eq_true_eq] at c2 c3 c4 c5
 omega
theorem bodL_lt : (bodL m).length <= 100000 := by
 obtain ⟨_, h2, h3, h4, h5⟩ := img_parts he
 obtain ⟨n1, n2, n3, n4⟩ := img_counts he
 have l1 := prtsB_len m.2.2.1 (prtsE_ok _ _ _ h2)
 have l2 := schsB_len m.2.2.2.1 (schsE_ok _ _ _ h3)
 have l3 := pairsB_len m.2.2.2.2.1
 have l4 := actsB_len m.2.2.2.2.2
 unfold bodL
 simp only [List.length_append]
 omega
theorem totN_lt : 0 <= totN m /\ totN m < 4294967296 := by have := bodL_lt he; unfold totN; omega
include hw
theorem img_hdrOk : hdrOk (totN m) m.1 m.2.1 (m.2.2.1.length : Int) (m.2.2.2.1.length : Int) (m.2.2.2.2.1.length : Int) (m.2.2.2.2.2.length : Int) :=
 ⟨⟨(totN_lt he).1, (totN_lt he).2, hw.1.1, hw.1.2⟩, (img_parts he).1⟩
end
theorem hdr_backS {S : ByteArray} {h0 h1 h2 h3 h4 h5 h6 : Int} (h : hdrOk h0 h1 h2 h3 h4 h5 h6) (hS : Has S 0 (hdrL h0 h1 h2 h3 h4 h5 h6)) :
 hx11 S (0, .nil) = (23, .nil) /\
 hV S 4 (hx11 S (0, .nil)) (hx4 S (0, .nil)) = h0 /\
 hV S 8 (hx11 S (0, .nil)) (hx5 S (0, .nil)) = h1 /\
 hV S 1 (hx11 S (0, .nil)) (hx6 S (0, .nil)) = h2 /\
 hV S 1 (hx11 S (0, .nil)) (hx7 S (0, .nil)) = h3 /\
 hV S 1 (hx11 S (0, .nil)) (hx8 S (0, .nil)) = h4 /\
 hV S 2 (hx11 S (0, .nil)) (hx9 S (0, .nil)) = h5 /\
 hV S 2 (hx11 S (0, .nil)) (hx10 S (0, .nil)) = h6 := by
 obtain ⟨⟨a0, a1, a2, a3⟩, b2, b3, b4, b5, b6⟩ := hdrOk_bounds h
 obtain ⟨c1, c2, c3, c4, c5⟩ := hdrE_ok h.2
 unfold hdrL at hS
 have m0 : Has S 0 (beL 1 67) := hS.left.left (l := [67]) (m := [87, 77, 49])
 have m1 : Has S 1 (beL 1 87) := (hS.left.right (l := [67]) (m := [87, 77, 49])).left (l := [87]) (m := [77, 49])
 have m2 : Has S 2 (beL 1 77) := (hS.left.right (l := [67, 87]) (m := [77, 49])).left (l := [77]) (m := [49])
 have m3 : Has S 3 (beL 1 49) := hS.left.right (l := [67, 87, 77]) (m := [49])
 have q4 := hS.right' (b := 4) rfl
 have q8 := q4.right' (b := 8) (by rw [beL_len])
 have q16 := q8.right' (b := 16) (by rw [beL_len])
 have q17 := q16.right' (b := 17) (by rw [beL_len])
 have q18 := q17.right' (b := 18) (by rw [beL_len])
 have q19 := q18.right' (b := 19) (by rw [beL_len])
 have q21 := q19.right' (b := 21) (by rw [beL_len])
 obtain ⟨r0, r0', r0''⟩ := m0.rd (by decide) (x := 0) (y := 1) rfl rfl
 obtain ⟨r1, r1', r1''⟩ := m1.rd (by decide) (x := 1) (y := 1) rfl rfl
 obtain ⟨r2, r2', r2''⟩ := m2.rd (by decide) (x := 2) (y := 1) rfl rfl
 obtain ⟨r3, r3', r3''⟩ := m3.rd (by decide) (x := 3) (y := 1) rfl rfl
 have p1 : 256 ^ 1 = 256 := by decide
 have p2 : 256 ^ 2 = 65536 := by decide
 have p4 : 256 ^ 4 = 4294967296 := by decide
 have p8 : 256 ^ 8 = 18446744073709551616 := by decide
 obtain ⟨r4, r4', r4''⟩ := q4.left.rd (by rw [p4]; omega) (x := 4) (y := 4) rfl rfl
 obtain ⟨r8, r8', r8''⟩ := q8.left.rd (by rw [p8]; omega) (x := 8) (y := 8) rfl rfl
 obtain ⟨r16, r16', r16''⟩ := q16.left.rd (by rw [p1]; omega) (x := 16) (y := 1) rfl rfl
 obtain ⟨r17, r17', r17''⟩ := q17.left.rd (by rw [p1]; omega) (x := 17) (y := 1) rfl rfl
 obtain ⟨r18, r18', r18''⟩ := q18.left.rd (by rw [p1]; omega) (x := 18) (y := 1) rfl rfl
 obtain ⟨r19, r19', r19''⟩ := q19.left.rd (by rw [p2]; omega) (x := 19) (y := 2) rfl rfl
 obtain ⟨r21, r21', r21''⟩ := q21.rd (by rw [p2]; omega) (x := 21) (y := 2) rfl rfl
 rw [Int.toNat_of_nonneg a0] at r4
 rw [Int.toNat_of_nonneg a2] at r8
 rw [Int.toNat_of_nonneg b2.1] at r16
 rw [Int.toNat_of_nonneg b3.1] at r17
 rw [Int.toNat_of_nonneg b4.1] at r18
 rw [Int.toNat_of_nonneg b5.1] at r19
 rw [Int.toNat_of_nonneg b6.1] at r21
 have e1 : hM S 67 (0, .nil) = (1, .nil) := by unfold hM; simp only; rw [r0, r0', r0'']; rfl
 have e2 : hM S 87 (1, .nil) = (2, .nil) := by unfold hM; simp only; rw [r1, r1', r1'']; rfl
 have e3 : hM S 77 (2, .nil) = (3, .nil) := by unfold hM; simp only; rw [r2, r2', r2'']; rfl
 have e4 : hM S 49 (3, .nil) = (4, .nil) := by unfold hM; simp only; rw [r3, r3', r3'']; rfl
 have x4 : hx4 S (0, .nil) = (4, .nil) := by unfold hx4; rw [e1, e2, e3, e4]
 have x5 : hx5 S (0, .nil) = (8, .nil) := by unfold hx5 hR; rw [x4]; simp only; rw [r4', r4'']; rfl
 have x6 : hx6 S (0, .nil) = (16, .nil) := by unfold hx6 hR; rw [x5]; simp only; rw [r8', r8'']; rfl
 have x7 : hx7 S (0, .nil) = (17, .nil) := by unfold hx7 hR; rw [x6]; simp only; rw [r16', r16'']; rfl
 rw [fineQ_1'] at c2
 rw [fineQ_2'] at c3
 rw [fineQ_3'] at c4
 rw [fineQ_4'] at c5
 have x8 : hx8 S (0, .nil) = (18, .nil) := by unfold hx8 hN; rw [x7]; simp only; rw [r17, r17', r17'', c2]; rfl
 have x9 : hx9 S (0, .nil) = (19, .nil) := by unfold hx9 hN; rw [x8]; simp only; rw [r18, r18', r18'', c3]; rfl
 have x10 : hx10 S (0, .nil) = (21, .nil) := by unfold hx10 hN; rw [x9]; simp only; rw [r19, r19', r19'', c4]; rfl
 have x11 : hx11 S (0, .nil) = (23, .nil) := by unfold hx11 hN; rw [x10]; simp only; rw [r21, r21', r21'', c5]; rfl
 rw [x4, x5, x6, x7, x8, x9, x10, x11]
 exact ⟨rfl, r4, r8, r16, r17, r18, r19, r21⟩
theorem mk_list (l : List UInt8) : (ByteArray.mk l.toArray).data.toList = l := by simp
theorem mk_sz (l : List UInt8) : (ByteArray.mk l.toArray).size = l.length := by rw [<- blen, mk_list]
theorem ba_ext {s t : ByteArray} (h : s.data.toList = t.data.toList) : s = t := by
 apply ByteArray.ext; apply Array.ext'; exact h
theorem preS_of {s : ByteArray} {P Q : List UInt8} (hs : s.data.toList = P ++ Q) (hq : Q.length = 4) : preS s = ⟨P.toArray⟩ := by
 have hz : s.size = P.length + 4 := by rw [<- blen, hs, List.length_append, hq]
 apply ba_ext
 unfold preS
 rw [ByteArray.data_extract, Array.toList_extract, List.extract_eq_take_drop, hs, hz]
 simp
theorem sumAt_of {s : ByteArray} {P Q : List UInt8} (hs : s.data.toList = P ++ Q) (hq : Q.length = 4) : ∃ v : Nat, sumAt s = (v : Int) /\ v < 4294967296 /\ beL 4 v = Q := by
 have hz : s.size = P.length + 4 := by rw [<- blen, hs, List.length_append, hq]
 refine ⟨beV s P.length 4, ?_, ?_, ?_⟩
 ·unfold sumAt getV getOk
  rw [show sizeOk 4 = true from rfl, decide_eq_true (by omega : (0 : Int) <= (s.size : Int) - 4), decide_eq_true (by omega : (s.size : Int) - 4 <= (s.size : Int)), decide_eq_true (by omega : (4 : Int) <= (s.size : Int) - ((s.size : Int) - 4))]
  have e : ((s.size : Int) - 4).toNat = P.length := by omega
  rw [e]; rfl
 ·have := beV_lt s P.length 4
  rw [q256_4] at this; exact this
 ·rw [beL_beV s P.length 4 (by omega), hs, List.drop_left, List.take_of_length_le (by omega)]
theorem beL_inj4 {v w : Nat} (hv : v < 4294967296) (hw : w < 4294967296) (h : beL 4 v = beL 4 w) : v = w := by
 have h1 := (Has.whole (beL 4 v)).num (n := 4) (v := v) (by rw [q256_4]; exact hv)
 have h2 : Has ⟨(beL 4 v).toArray⟩ 0 (beL 4 w) := by rw [h]; exact Has.whole _
 have h2 := h2.num (by rw [q256_4]; exact hw)
 rw [<- h1, <- h2]
theorem dec_back {m : Mdl} (hw : WfM m) (he : (imgE m).isNil = true) : decE ⟨(imgL m).toArray⟩ = .nil /\ decM ⟨(imgL m).toArray⟩ = m := by
 obtain ⟨h1, h2, h3, h4, h5⟩ := img_parts he
 have hb := bodL_lt he
 have hk := img_hdrOk hw he
 have hlen : (imgP m).length = 23 + (bodL m).length := by unfold imgP imgH; rw [List.length_append, hdrL_len]
 have hS : (ByteArray.mk (imgL m).toArray).data.toList = imgP m ++ beL 4 (crcN (imgP m)) := mk_list _
 have hsz : (ByteArray.mk (imgL m).toArray).size = 27 + (bodL m).length := by
  rw [mk_sz]; unfold imgL; rw [List.length_append, hlen, beL_len]; omega
 have hpre := preS_of hS (beL_len _ 4)
 obtain ⟨v, v1, v2, v3⟩ := sumAt_of hS (beL_len _ 4)
 have hv := beL_inj4 v2 (crcN_lt _) v3
 subst hv
 have hH : Has ⟨(imgL m).toArray⟩ 0 (imgH m) := by
  have := Has.whole (imgL m)
  unfold imgL imgP at this
  exact this.left.left
 obtain ⟨b0, b1, b2, b3, b4, b5, b6, b7⟩ := hdr_backS hk hH
 generalize hSS : ByteArray.mk (imgL m).toArray = S at *
 have q0 : iH S = (23, .nil) := b0
 have qT : iT S = totN m := b1
 have qE : iEp S = m.1 := b2
 have qF : iFi S = m.2.1 := b3
 have qP : iP S = (m.2.2.1.length : Int) := b4
 have qS : iS S = (m.2.2.2.1.length : Int) := b5
 have qR : iR S = (m.2.2.2.2.1.length : Int) := b6
 have qA : iA S = (m.2.2.2.2.2.length : Int) := b7
 have hfr : frE S (totN m) = .nil := by
  unfold frE
  have e1 : (totN m != (S.size : Int)) = false := by
   rw [bne_eq_false_iff_eq, hsz]; unfold totN; omega
  have e2 : decide ((S.size : Int) < 27) = false := decide_eq_false (by omega)
  have e3 : (sumAt S != ((crcN (preS S).data.toList : Nat) : Int)) = false := by
   rw [bne_eq_false_iff_eq, v1, hpre, mk_list]
  rw [e1, e2, e3]; rfl
 have hhead : headE S = .nil := by unfold headE; rw [q0, qT]; exact hfr
 have hT : Has (preS S) 23 (bodL m) := by
  rw [hpre]
  have := Has.whole (imgP m)
  unfold imgP at this ⊢
  exact this.right' (by unfold imgH; rw [hdrL_len])
 have htz : (preS S).size = 23 + (bodL m).length := by rw [hpre, mk_sz, hlen]
 unfold bodL at hT
 obtain ⟨r1, r2⟩ := pts_back m.2.2.1 none (-1) 0 23 23 rfl rfl h2 hw.2 hT.left
 have hT2 := hT.right
 obtain ⟨r3, r4⟩ := schs_back m.2.2.2.1 none 0 (-1) (23 + (prtsB m.2.2.1).length) _ rfl h3 rfl hT2.left
 have hT3 := hT2.right
 obtain ⟨r5, r6⟩ := prs_back m.2.2.2.2.1 none 0 (23 + (prtsB m.2.2.1).length + (schsB m.2.2.2.1).length) _ rfl h4 hT3.left
 have hT4 := hT3.right
 obtain ⟨r7, r8⟩ := acs_back m.2.2.2.2.2 none 0 (23 + (prtsB m.2.2.1).length + (schsB m.2.2.2.1).length + (pairsB m.2.2.2.2.1).length) _ rfl h5 hT4
 have eP : dP (preS S) (iP S) = (((23 + (prtsB m.2.2.1).length : Nat) : Int), .nil) := by unfold dP; rw [qP, Int.toNat_natCast]; exact r2
 have eS : dS (preS S) (iP S) (iS S) = (((23 + (prtsB m.2.2.1).length + (schsB m.2.2.2.1).length : Nat) : Int), .nil) := by unfold dS; rw [eP, qS, Int.toNat_natCast]; exact r4
 have eR : dR (preS S) (iP S) (iS S) (iR S) = (((23 + (prtsB m.2.2.1).length + (schsB m.2.2.2.1).length + (pairsB m.2.2.2.2.1).length : Nat) : Int), .nil) := by unfold dR; rw [eS, qR, Int.toNat_natCast]; exact r6
 have eA : dA (preS S) (iP S) (iS S) (iR S) (iA S) = (((23 + (prtsB m.2.2.1).length + (schsB m.2.2.2.1).length + (pairsB m.2.2.2.2.1).length + (actsB m.2.2.2.2.2).length : Nat) : Int), .nil) := by unfold dA; rw [eR, qA, Int.toNat_natCast]; exact r8
 have hd : decE S = .nil := by
  unfold decE; rw [hhead, eA]
  unfold endE
  have : decide (((preS S).size : Int) - ((23 + (prtsB m.2.2.1).length + (schsB m.2.2.2.1).length + (pairsB m.2.2.2.2.1).length + (actsB m.2.2.2.2.2).length : Nat) : Int) > 0) = false := by
   refine decide_eq_false ?_
   rw [htz]; unfold bodL; simp only [List.length_append]; omega
  simp only [this]; rfl
 refine ⟨hd, ?_⟩
 have g1 : decP S = m.2.2.1 := by unfold decP; rw [qP, Int.toNat_natCast]; exact r1
 have g2 : decS S = m.2.2.2.1 := by unfold decS; rw [eP, qS, Int.toNat_natCast]; exact r3
 have g3 : decR S = m.2.2.2.2.1 := by unfold decR; rw [eS, qR, Int.toNat_natCast]; exact r5
 have g4 : decA S = m.2.2.2.2.2 := by unfold decA; rw [eR, qA, Int.toNat_natCast]; exact r7
 unfold decM
 rw [hd, qE, qF, g1, g2, g3, g4]; rfl
def HS (k : Int) (x : RS) : Prop := (x.2 = .nil /\ x.1 = k) \/ ∃ sec a c, (c = 3 \/ c = 8) /\ x.2 = .sec sec (.plc a (.cls c))
theorem needE_rd {s : ByteArray} {k n : Int} {t : Bool} {c a : Int} (h : k + n <= s.size) (hc : c = 3 \/ c = 8) (hk : isCls c = true) : needE (rdE s k n 1 .nil) t 1 c a = .nil \/ ∃ sec a2 c2, (c2 = 3 \/ c2 = 8) /\ needE (rdE s k n 1 .nil) t 1 c a = .sec sec (.plc a2 (.cls c2)) := by
 have e : rdE s k n 1 .nil = .nil := by unfold rdE; rw [decide_eq_true (by omega : n <= (s.size : Int) - k)]; rfl
 rw [e]
 cases t with
 | true => exact .inl rfl
 | false =>
  refine .inr ⟨1, a, c, hc, ?_⟩
  show inE 1 (atE a (newE c)) = _
  unfold newE; rw [hk]; rfl
theorem rdAt_fit {s : ByteArray} {k n : Int} (h : k + n <= s.size) : rdAt s k n .nil = k + n := by
 unfold rdAt rdOk; rw [decide_eq_true (by omega : n <= (s.size : Int) - k)]; rfl
theorem HS.m {s : ByteArray} {k : Int} {x : RS} (ch : Int) (h : HS k x) (hf : k + 1 <= s.size) : HS (k + 1) (hM s ch x) := by
 rcases h with ⟨h1, h2⟩ | ⟨sec, a, c, hc, h⟩
 ·unfold HS hM; rw [h1, h2]; simp only
  rcases needE_rd (t := rdV s k 1 .nil == ch) (c := 3) (a := k) hf (.inl rfl) rfl with e | e
  ·exact .inl ⟨e, rdAt_fit hf⟩
  ·exact .inr e
 ·right
  refine ⟨sec, a, c, hc, ?_⟩
  have hb : x.2.isNil = false := by rw [h]; rfl
  have hb2 : rdE s x.1 1 1 x.2 = x.2 := needE_bad hb _ _ _ _
  show needE (rdE s x.1 1 1 x.2) _ 1 3 x.1 = _
  rw [hb2, needE_bad hb, h]
theorem HS.r {s : ByteArray} {k n : Int} {x : RS} (h : HS k x) (hf : k + n <= s.size) : HS (k + n) (hR s n x) := by
 rcases h with ⟨h1, h2⟩ | ⟨sec, a, c, hc, h⟩
 ·unfold HS hR; rw [h1, h2]; simp only
  refine .inl ⟨?_, rdAt_fit hf⟩
  unfold rdE; rw [decide_eq_true (by omega : n <= (s.size : Int) - k)]; rfl
 ·right
  refine ⟨sec, a, c, hc, ?_⟩
  have hb : x.2.isNil = false := by rw [h]; rfl
  show rdE s x.1 n 1 x.2 = _
  have hb2 : rdE s x.1 n 1 x.2 = x.2 := needE_bad hb _ _ _ _
  rw [hb2, h]
theorem HS.n {s : ByteArray} {k n lo hi : Int} {x : RS} (h : HS k x) (hf : k + n <= s.size) : HS (k + n) (hN s n lo hi x) := by
 rcases h with ⟨h1, h2⟩ | ⟨sec, a, c, hc, h⟩
 ·unfold HS hN; rw [h1, h2]; simp only
  rcases needE_rd (t := decide (rdV s k n .nil >= lo) && decide (rdV s k n .nil <= hi)) (c := 8) (a := k) hf (.inr rfl) rfl with e | e
  ·exact .inl ⟨e, rdAt_fit hf⟩
  ·exact .inr e
 ·right
  refine ⟨sec, a, c, hc, ?_⟩
  have hb : x.2.isNil = false := by rw [h]; rfl
  have hb2 : rdE s x.1 n 1 x.2 = x.2 := needE_bad hb _ _ _ _
  show needE (rdE s x.1 n 1 x.2) _ 1 8 x.1 = _
  rw [hb2, needE_bad hb, h]
def lnP (n : Int) : List Prt -> Int
 | [] => n
 | x :: r => lnP (IntKind.i64.wrap (n + IntKind.i64.wrap ((x.2.2.2.length : Int) + (x.2.1.size : Int)))) r
def lnS (n : Int) : List Sch -> Int
 | [] => n
 | x :: r => lnS (IntKind.i64.wrap (n + IntKind.i64.wrap ((x.2.2.1.length : Int) + (x.2.2.2.length : Int)))) r
def longM (m : Mdl) : Bool := bif decide ((m.2.2.1.length : Int) > 40) then true else bif decide ((m.2.2.2.1.length : Int) > 20) then true else bif decide ((m.2.2.2.2.1.length : Int) > 250) then true else
 bif decide ((m.2.2.2.2.2.length : Int) > 520) then true else decide (lnS (lnP 0 m.2.2.1) m.2.2.2.1 > 700)
theorem longM_no {m : Mdl} (h : longM m = false) : m.2.2.1.length <= 40 /\ m.2.2.2.1.length <= 20 /\ m.2.2.2.2.1.length <= 250 /\ m.2.2.2.2.2.length <= 520 := by
 unfold longM at h
 cases c1 : decide ((m.2.2.1.length : Int) > 40) <;> cases c2 : decide ((m.2.2.2.1.length : Int) > 20) <;> cases c3 : decide ((m.2.2.2.2.1.length : Int) > 250) <;> cases c4 : decide ((m.2.2.2.2.2.length : Int) > 520) <;>
  simp only [c1, c2, c3, c4, cond_true, cond_false] at h <;> first | cases h | skip
 simp only [decide_eq_false_iff_not] at c1 c2 c3 c4
 omega
def bodB (m : Mdl) : ByteArray := ByteArray.mk (prtsB m.2.2.1).toArray ++ ByteArray.mk (schsB m.2.2.2.1).toArray ++ ByteArray.mk (pairsB m.2.2.2.2.1).toArray ++ ByteArray.mk (actsB m.2.2.2.2.2).toArray
theorem bodB_eq (m : Mdl) : bodB m = ⟨(bodL m).toArray⟩ := by
 apply ba_ext
 unfold bodB bodL
 simp
end Go.Ab.T
namespace Go.Ab.T
open Go Go.Ab
section
variable {s : ByteArray} {x : RS}
end
theorem Seg.at {s : ByteArray} {a b : Int} {l : List UInt8} (h : Seg s a b l) : b = a + l.length := by
 obtain ⟨h0, h1, h2, rfl⟩ := h
 have : s.data.toList.length = s.size := by simp
 rw [List.length_take, List.length_drop]; omega
end Go.Ab.T
namespace Go.Ab.T
open Go Go.Ab
def sealBody (s : ByteArray) : ByteArray := s.extract 0 4 ++ ByteArray.mk (beL 4 s.size).toArray ++ s.extract 8 (s.size - 4)
def seal2 (b : ByteArray) : ByteArray := b ++ ByteArray.mk (beL 4 (crcN b.data.toList)).toArray
def sealB (s : ByteArray) : ByteArray := bif decide ((s.size : Int) < 27) then s else seal2 (sealBody s)
theorem sealBody_size {s : ByteArray} (h : 27 <= s.size) : (sealBody s).size = s.size - 4 := by
 unfold sealBody
 rw [ByteArray.size_append, ByteArray.size_append, mk_sz (beL 4 s.size), beL_len, ByteArray.size_extract, ByteArray.size_extract]
 omega
theorem seal_img {m : Mdl} : sealB ⟨(hdrL 0 m.1 m.2.1 (m.2.2.1.length : Int) (m.2.2.2.1.length : Int) (m.2.2.2.2.1.length : Int) (m.2.2.2.2.2.length : Int) ++ bodL m ++ [0, 0, 0, 0]).toArray⟩ = ⟨(imgL m).toArray⟩ := by
 have hl0 := hdrL_len 0 m.1 m.2.1 (m.2.2.1.length : Int) (m.2.2.2.1.length : Int) (m.2.2.2.2.1.length : Int) (m.2.2.2.2.2.length : Int)
 have hsz : (ByteArray.mk (hdrL 0 m.1 m.2.1 (m.2.2.1.length : Int) (m.2.2.2.1.length : Int) (m.2.2.2.2.1.length : Int) (m.2.2.2.2.2.length : Int) ++ bodL m ++ [0, 0, 0, 0]).toArray).size = 27 + (bodL m).length := by
  rw [mk_sz, List.length_append, List.length_append, hl0, List.length_cons, List.length_cons, List.length_cons, List.length_cons, List.length_nil]; omega
 unfold sealB
 rw [hsz, decide_eq_false (by omega), cond_false]
 have hb : sealBody ⟨(hdrL 0 m.1 m.2.1 (m.2.2.1.length : Int) (m.2.2.2.1.length : Int) (m.2.2.2.2.1.length : Int) (m.2.2.2.2.2.length : Int) ++ bodL m ++ [0, 0, 0, 0]).toArray⟩ = ⟨(imgP m).toArray⟩ := by
  apply ba_ext
  rw [mk_list (imgP m)]
  unfold sealBody
  rw [hsz]
  rw [ByteArray.data_append, ByteArray.data_append, Array.toList_append, Array.toList_append, ByteArray.data_extract, ByteArray.data_extract, Array.toList_extract, Array.toList_extract, List.extract_eq_take_drop, List.extract_eq_take_drop, mk_list (_ ++ bodL m ++ [0, 0, 0, 0])]
  have e4 : (ByteArray.mk (beL 4 (27 + (bodL m).length)).toArray).data.toList = beL 4 (totN m).toNat := by
   rw [mk_list (beL 4 _)]; unfold totN; congr 1
  rw [e4]
  unfold imgP imgH
  obtain ⟨R, hh⟩ : ∃ R : List UInt8, ∀ t : Int, hdrL t m.1 m.2.1 (m.2.2.1.length : Int) (m.2.2.2.1.length : Int) (m.2.2.2.2.1.length : Int) (m.2.2.2.2.2.length : Int) = [67, 87, 77, 49] ++ (beL 4 t.toNat ++ R) := ⟨_, fun t => rfl⟩
  have hR : R.length = 15 := by
   have := hl0
   rw [hh 0, List.length_append, List.length_append, beL_len] at this
   simp only [List.length_cons, List.length_nil] at this
   omega
  rw [hh (totN m), hh 0]
  have hz : (beL 4 (Int.toNat 0)).length = 4 := beL_len _ 4
  generalize beL 4 (Int.toNat 0) = Z at hz
  have f1 : (([67, 87, 77, 49] ++ (Z ++ R) ++ bodL m ++ [0, 0, 0, 0]).drop 0).take (4 - 0) = [67, 87, 77, 49] := rfl
  have f2 : (([67, 87, 77, 49] ++ (Z ++ R) ++ bodL m ++ [0, 0, 0, 0]).drop 8).take (27 + (bodL m).length - 4 - 8) = R ++ bodL m := by
   have e : [67, 87, 77, 49] ++ (Z ++ R) ++ bodL m ++ [0, 0, 0, 0] = ([67, 87, 77, 49] ++ Z) ++ ((R ++ bodL m) ++ [0, 0, 0, 0]) := by simp only [List.append_assoc]
   have h8 : 8 = (([67, 87, 77, 49] : List UInt8) ++ Z).length := by rw [List.length_append, hz]; rfl
   have hd : List.drop 8 (([67, 87, 77, 49] ++ Z) ++ ((R ++ bodL m) ++ [0, 0, 0, 0])) = (R ++ bodL m) ++ [0, 0, 0, 0] := by
    conv =>
     lhs
     rw [h8]
    exact List.drop_left
   rw [e, hd]
   have h9 : 27 + (bodL m).length - 4 - 8 = (R ++ bodL m).length := by rw [List.length_append, hR]; omega
   rw [h9]
   exact List.take_left
  rw [f1, f2]
  simp only [List.append_assoc]
 rw [hb]
 unfold seal2
 rw [mk_list (imgP m)]
 exact mk_app ⟨#[]⟩ _ _
end Go.Ab.T
namespace Go.Ab.T
open Go Go.Ab
theorem same_loop {α : Type} [DecidableEq α] (l m : List α) (hlm : l.length = m.length) (Q : Nat -> Prop) (K : Bool -> Prop) (hk : K (decide (l = m))) (hend : K true -> Q l.length)
 (hstep : ∀ (i : Nat) (y z : α), l[i]? = some y -> m[i]? = some z -> (y = z -> Q (i + 1)) -> (y ≠ z -> K false) -> Q i) : Q 0 := by
 have main : ∀ (n i : Nat), n + i = l.length -> K (decide (l.drop i = m.drop i)) -> Q i := by
  intro n
  induction n with
  | zero =>
   intro i hi hk
   have hi : i = l.length := by omega
   subst hi
   rw [List.drop_length, hlm, List.drop_length] at hk
   exact hend (by simpa using hk)
  | succ n ih =>
   intro i hi hk
   have h1 : i < l.length := by omega
   have h2 : i < m.length := by omega
   have e1 : l.drop i = l[i] :: l.drop (i + 1) := List.drop_eq_getElem_cons h1
   have e2 : m.drop i = m[i] :: m.drop (i + 1) := List.drop_eq_getElem_cons h2
   refine hstep i l[i] m[i] (List.getElem?_eq_getElem h1) (List.getElem?_eq_getElem h2) (fun h => ih (i + 1) (by omega) ?_) (fun h => ?_)
   ·have e3 : ∀ (a : α) (x y : List α), decide (a :: x = a :: y) = decide (x = y) := fun a x y => by simp
    rw [e1, e2, h, e3] at hk
    exact hk
   ·rw [e1, e2] at hk
    rw [decide_eq_false (fun e => h (List.cons.inj e).1)] at hk
    exact hk
 exact main l.length 0 (by omega) hk
theorem len_ne {α : Type} {l m : List α} (c : ((l.length : Int) != (m.length : Int)) = true) : l ≠ m := fun h => by rw [h, bne_self_eq_false] at c; cases c
theorem len_eq {α : Type} {l m : List α} (c : ((l.length : Int) != (m.length : Int)) = false) : l.length = m.length := by
 have : ((l.length : Int) == (m.length : Int)) = true := by rw [<- Bool.not_eq_false']; exact c
 rw [beq_iff_eq] at this; omega
end Go.Ab.T
namespace Go.Ab.T
open Go Go.Ab
theorem lnP_ge : ∀ (ps : List Prt) (n : Int), 0 <= n -> n + (ps.length : Int) * 281474976710656 <= 4611686018427387904 -> (∀ x, x ∈ ps -> x.2.2.2.length <= 140737488351232 /\ x.2.1.size <= 140737488351232) ->
 n <= lnP n ps /\ lnP n ps <= n + (ps.length : Int) * 281474976710656 /\ ∀ x, x ∈ ps -> (x.2.2.2.length : Int) <= lnP n ps
 | [], n, _, _, _ => ⟨Int.le_refl _, by simp [lnP], fun x hx => by cases hx⟩
 | x :: r, n, h0, h1, h2 => by
  obtain ⟨a1, a2⟩ := h2 x (List.mem_cons_self ..)
  have e : ((x :: r).length : Int) = (r.length : Int) + 1 := by simp
  rw [e] at h1 ⊢
  have h3 : (0 : Int) <= (r.length : Int) := Int.natCast_nonneg _
  have w1 : IntKind.i64.wrap ((x.2.2.2.length : Int) + (x.2.1.size : Int)) = (x.2.2.2.length : Int) + (x.2.1.size : Int) := wrap_id _ (by omega) (by omega)
  have w2 : IntKind.i64.wrap (n + ((x.2.2.2.length : Int) + (x.2.1.size : Int))) = n + ((x.2.2.2.length : Int) + (x.2.1.size : Int)) := wrap_id _ (by omega) (by omega)
  rw [lnP, w1, w2]
  obtain ⟨b1, b2, b3⟩ := lnP_ge r (n + ((x.2.2.2.length : Int) + (x.2.1.size : Int))) (by omega) (by omega) (fun y hy => h2 y (List.mem_cons_of_mem _ hy))
  refine ⟨by omega, by omega, fun y hy => ?_⟩
  rcases List.mem_cons.1 hy with e | e
  ·rw [e]; omega
  ·exact b3 y e
theorem lnS_ge : ∀ (ss : List Sch) (n : Int), 0 <= n -> n + (ss.length : Int) * 281474976710656 <= 4611686018427387904 -> (∀ x, x ∈ ss -> x.2.2.1.length <= 140737488351232 /\ x.2.2.2.length <= 140737488351232) ->
 n <= lnS n ss /\ ∀ x, x ∈ ss -> (x.2.2.1.length : Int) <= lnS n ss /\ (x.2.2.2.length : Int) <= lnS n ss
 | [], n, _, _, _ => ⟨Int.le_refl _, fun x hx => by cases hx⟩
 | x :: r, n, h0, h1, h2 => by
  obtain ⟨a1, a2⟩ := h2 x (List.mem_cons_self ..)
  have e : ((x :: r).length : Int) = (r.length : Int) + 1 := by simp
  rw [e] at h1
  have h3 : (0 : Int) <= (r.length : Int) := Int.natCast_nonneg _
  have w1 : IntKind.i64.wrap ((x.2.2.1.length : Int) + (x.2.2.2.length : Int)) = (x.2.2.1.length : Int) + (x.2.2.2.length : Int) := wrap_id _ (by omega) (by omega)
  have w2 : IntKind.i64.wrap (n + ((x.2.2.1.length : Int) + (x.2.2.2.length : Int))) = n + ((x.2.2.1.length : Int) + (x.2.2.2.length : Int)) := wrap_id _ (by omega) (by omega)
  rw [lnS, w1, w2]
  obtain ⟨b1, b3⟩ := lnS_ge r (n + ((x.2.2.1.length : Int) + (x.2.2.2.length : Int))) (by omega) (by omega) (fun y hy => h2 y (List.mem_cons_of_mem _ hy))
  refine ⟨by omega, fun y hy => ?_⟩
  rcases List.mem_cons.1 hy with e | e
  ·rw [e]; constructor <;> omega
  ·exact b3 y e
def FitM (m : Mdl) : Prop := (∀ x, x ∈ m.2.2.1 -> x.2.2.2.length <= 140737488351232 /\ x.2.1.size <= 140737488351232) /\ ∀ x, x ∈ m.2.2.2.1 -> x.2.2.1.length <= 140737488351232 /\ x.2.2.2.length <= 140737488351232
theorem longM_rows {m : Mdl} (hf : FitM m) (h : longM m = false) : (∀ x, x ∈ m.2.2.1 -> x.2.2.2.length <= 700) /\ ∀ x, x ∈ m.2.2.2.1 -> x.2.2.1.length <= 700 /\ x.2.2.2.length <= 700 := by
 obtain ⟨n1, n2, _, _⟩ := longM_no h
 have h700 : lnS (lnP 0 m.2.2.1) m.2.2.2.1 <= 700 := by
  unfold longM at h
  cases c1 : decide ((m.2.2.1.length : Int) > 40) <;> cases c2 : decide ((m.2.2.2.1.length : Int) > 20) <;> cases c3 : decide ((m.2.2.2.2.1.length : Int) > 250) <;> cases c4 : decide ((m.2.2.2.2.2.length : Int) > 520) <;>
   simp only [c1, c2, c3, c4, cond_true, cond_false] at h <;> first | cases h | skip
  rw [decide_eq_false_iff_not] at h
  omega
 obtain ⟨p1, p2, p3⟩ := lnP_ge m.2.2.1 0 (Int.le_refl _) (by omega) hf.1
 obtain ⟨s1, s2⟩ := lnS_ge m.2.2.2.1 (lnP 0 m.2.2.1) p1 (by omega) hf.2
 refine ⟨fun x hx => ?_, fun x hx => ?_⟩
 ·have := p3 x hx; omega
 ·have := s2 x hx; omega
end Go.Ab.T
