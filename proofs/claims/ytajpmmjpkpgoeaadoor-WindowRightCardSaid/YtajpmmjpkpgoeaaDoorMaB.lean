import Derived.Test.YtajpmmjpkpgoeaaDoorAbC
import Derived.Test.YtajpmmjpkpgoeaaDoorMaErr
import Derived.Deep.Slices
import Derived.WideShapes
import Derived.ChangeArms
import Derived.Handed
import Derived.Laws.Strings
set_option linter.unusedVariables false
set_option linter.unusedSimpArgs false
set_option linter.unusedSectionVars false
namespace Go.Ab.T
open Go Go.Ab
def uCod : Cod := ⟨Unit, fun _ => .bool false, 1, fun _ => rfl, fun _ => rfl⟩
def e_api_Window (w : Int × Int × Int) : PV := .agg [.int .i64 w.1, .int .i64 w.2.1, .int .i64 w.2.2]
def c_api_Window : Cod := ⟨Int × Int × Int, e_api_Window, 3, fun _ => rfl, fun _ => rfl⟩
def e_api_Need (w : Int × Int × Int) : PV := .agg [.int .i64 w.1, .int .i64 w.2.1, .int .i64 w.2.2]
def c_api_Need : Cod := ⟨Int × Int × Int, e_api_Need, 3, fun _ => rfl, fun _ => rfl⟩
def e_int (w : Int) : PV := .int .i64 w
def c_int : Cod := ⟨Int, e_int, 1, fun _ => rfl, fun _ => rfl⟩
def e_string (w : ByteArray) : PV := .str w
def c_string : Cod := ⟨ByteArray, e_string, 1, fun _ => rfl, fun _ => rfl⟩
def e_error (w : Err) : PV := .err w
def c_error : Cod := ⟨Err, e_error, 1, fun _ => rfl, fun _ => rfl⟩
def e_abi_Method (w : Int × Int × Int × Int) : PV := .agg [.int .i32 w.1, .int .i32 w.2.1, .int .i32 w.2.2.1, .int .i32 w.2.2.2]
def c_abi_Method : Cod := ⟨Int × Int × Int × Int, e_abi_Method, 4, fun _ => rfl, fun _ => rfl⟩
end Go.Ab.T
namespace Go.Ab
theorem Closed.nf {K : Codes} {C : Cfg K} {f : Fun} {k : List PV -> Heap K -> Prop} {A : KA K} (hA : Closed C f k A) {n : Nat} {force : Bool} {todo : List AItem} {env : List PV} {L : Heap K} {q : Prop}
 (h : evT C f A k n force todo env L = q) (hq : q) : A todo env L := hA n force todo env L (h ▸ hq)
end Go.Ab
namespace Go.Ab.T
open Go Go.Ab
def nms : List ByteArray := [⟨#[]⟩, ⟨#[97, 114, 103, 117, 109, 101, 110, 116]⟩, ⟨#[115, 104, 111, 114, 116]⟩, ⟨#[109, 97, 103, 105, 99]⟩, ⟨#[108, 101, 110, 103, 116, 104]⟩, ⟨#[115, 117, 109]⟩, ⟨#[102, 111, 114, 109]⟩, ⟨#[110, 97, 109, 101]⟩, ⟨#[109, 97, 110, 121]⟩, ⟨#[111, 114, 100, 101, 114]⟩, ⟨#[114, 101, 102, 101, 114, 101, 110, 99, 101]⟩, ⟨#[119, 105, 110, 100, 111, 119]⟩, ⟨#[111, 118, 101, 114, 108, 97, 112]⟩, ⟨#[112, 101, 114, 105, 111, 100]⟩, ⟨#[98, 117, 100, 103, 101, 116]⟩, ⟨#[112, 97, 105, 114]⟩, ⟨#[104, 97, 108, 116]⟩, ⟨#[115, 116, 97, 116, 101]⟩, ⟨#[114, 97, 110, 103, 101]⟩]
def isCls (n : Int) : Bool := decide (1 <= n) && decide (n <= 18)
def nameOf (n : Int) : ByteArray := bif isCls n then nms.getD n.toNat ⟨#[]⟩ else ⟨#[]⟩
theorem nms_get {n : Int} (h : isCls n = true) {y : ByteArray} (hy : nms[n.toNat]? = some y) : nameOf n = y := by
 simp [nameOf, h, List.getD_eq_getElem?_getD, hy]
theorem nameOf_empty (n : Int) : ((nameOf n).toList == ByteArray.toList ⟨#[]⟩) = !isCls n := by
 rw [ByteArray.toList_eq, ByteArray.toList_eq]
 unfold nameOf
 cases h : isCls n with
 | false => rfl
 | true =>
  simp only [isCls, Bool.and_eq_true, decide_eq_true_eq] at h
  have key : ∀ k : Nat, k < 19 -> 1 <= k -> ((nms.getD k ⟨#[]⟩).data.toList == (⟨#[]⟩ : ByteArray).data.toList) = false := by decide
  exact key n.toNat (by omega) (by omega)
def newE (n : Int) : Err := bif isCls n then .cls n else .nil
def atE (n : Int) (e : Err) : Err := bif e.isNil then .nil else .plc n e
def inE (n : Int) (e : Err) : Err := bif e.isNil then .nil else .sec n e
theorem isNil_newE (n : Int) : (newE n).isNil = !isCls n := by
 unfold newE; cases isCls n <;> rfl
end Go.Ab.T
namespace Go.Ab.T
open Go Go.Ab
theorem down_loop {α : Type} (l : List α) (Q : Nat -> Prop) (h0 : Q l.length) (hs : ∀ (i : Nat) (y : α), l[i]? = some y -> Q (i + 1) -> Q i) : ∀ i, i <= l.length -> Q i := by
 have key : ∀ n i, i + n = l.length -> Q i := by
  intro n
  induction n with
  | zero => intro i h; have : i = l.length := by omega
            subst this; exact h0
  | succ n ih =>
   intro i h
   have hlt : i < l.length := by omega
   exact hs i l[i] (List.getElem?_eq_getElem hlt) (ih (i + 1) (by omega))
 intro i hi
 exact key (l.length - i) i (by omega)
theorem drop_cons' {α : Type} {l : List α} {i : Nat} {y : α} (h : l[i]? = some y) : l.drop i = y :: l.drop (i + 1) := by
 obtain ⟨h1, h2⟩ := List.getElem?_eq_some_iff.1 h
 rw [<- h2]; exact List.drop_eq_getElem_cons h1
theorem lt_of_get {α : Type} {l : List α} {i : Nat} {y : α} (h : l[i]? = some y) : i < l.length := (List.getElem?_eq_some_iff.1 h).1
theorem ilt_true {a b : Nat} (h : a < b) : decide ((a : Int) < (b : Int)) = true := decide_eq_true (by omega)
theorem ilt_false {a b : Nat} (h : ¬ a < b) : decide ((a : Int) < (b : Int)) = false := decide_eq_false (by omega)
theorem get_at {α : Type} {l : List α} {i : Nat} {y : α} {p : α -> Prop} (hy : l[i]? = some y) (h : p y) : (0 <= (i : Int) /\ (i : Int) < (l.length : Int)) /\ ∀ z, l[(i : Int).toNat]? = some z -> p z := by
 have := lt_of_get hy
 refine ⟨⟨by omega, by omega⟩, fun z hz => ?_⟩
 rw [Int.toNat_natCast, hy] at hz
 cases hz; exact h
theorem get_at' {α : Type} {l : List α} {i : Nat} {x : Int} {y : α} {p : α -> Prop} (hx : x = (i : Int)) (hy : l[i]? = some y) (h : p y) : (0 <= x /\ x < (l.length : Int)) /\ ∀ z, l[x.toNat]? = some z -> p z := by
 subst hx; exact get_at hy h
theorem wrap_succ {i : Nat} (h : i < 4611686018427387904) : IntKind.i64.wrap ((i : Int) + 1) = ((i + 1 : Nat) : Int) := by
 rw [wrap_id _ (by omega) (by omega)]; omega
theorem wrap_nat {i : Nat} {x : Int} (hx : x = (i : Int)) (h : i < 4611686018427387904) : IntKind.i64.wrap x = (i : Int) := by
 subst hx; exact wrap_id _ (by omega) (by omega)
theorem mmI_max (a b : Int) : mmI true a b = max a b := by
 show (if b > a then b else a) = max a b
 split <;> omega
end Go.Ab.T
namespace Go.Ab.T
open Go Go.Ab Go.Deep Go.WideShapes Go.ChangeShapes
section
variable {P : Program} {I : Ids}
def NoM : Nat -> Prop := fun _ => False
structure Opens (P : Program) (I : Ids) (t : TypeId) {α : Type} (cells : α -> List PV) (good : α -> Prop) : Prop where
 get : ∀ {H : Type} (encH : TypeId × Value -> H) (w : World) (base : Nat) (spare : Nat -> Bool) (held : Bool) (fuel : Nat) (cs : List Value) (x : DataW H × List MemPlace),
  DataW.trod encH P w base spare held fuel t cs = some x -> (x.1.weights P t).all (· <= reachBytes) = true -> ∃ a, good a /\ RepF.go I NoM w (cells a) cs
structure OpensF (P : Program) (I : Ids) (fs : List (TypeId × Nat)) (o n : Nat) {α : Type} (cells : α -> List PV) (good : α -> Prop) : Prop where
 get : ∀ {H : Type} (encH : TypeId × Value -> H) (w : World) (base : Nat) (spare : Nat -> Bool) (held : Bool) (fuel : Nat) (cs : List Value), cs.length = n ->
  (∀ (j : Nat) (f : TypeId × Nat), fs[j]? = some f -> ∃ y, DataW.trod encH P w base spare held fuel f.1 ((cs.drop (f.2 - o)).take (P.cellsOf f.1)) = some y /\ (y.1.weights P f.1).all (· <= reachBytes) = true) -> ∃ a, good a /\ RepF.go I NoM w (cells a) cs
theorem all_mem {H : Type} {e : TypeId} : ∀ {l : List (DataW H)}, (DataW.weightsAll P e l).all (· <= reachBytes) = true -> ∀ d, d ∈ l -> (d.weights P e).all (· <= reachBytes) = true
 | [], _, d, hd => by cases hd
 | x :: r, h, d, hd => by
  simp only [DataW.weightsAll, List.all_append, Bool.and_eq_true] at h
  rcases List.mem_cons.1 hd with e | e
  ·rw [e]; exact h.1
  ·exact all_mem h.2 d e
theorem each_get {H : Type} : ∀ {ts : List TypeId} {l : List (DataW H)}, (DataW.weightsEach P ts l).all (· <= reachBytes) = true -> ∀ (j : Nat) t d, ts[j]? = some t -> l[j]? = some d -> (d.weights P t).all (· <= reachBytes) = true
 | [], _, _, j, t, d, h1, _ => by simp at h1
 | _ :: _, [], _, j, t, d, _, h2 => by simp at h2
 | u :: ts, x :: r, h, j, t, d, h1, h2 => by
  simp only [DataW.weightsEach, List.all_append, Bool.and_eq_true] at h
  cases j with
  | zero => simp at h1 h2; rw [<- h1, <- h2]; exact h.1
  | succ j => exact each_get h.2 j t d (by simpa using h1) (by simpa using h2)
theorem go_one {M : Nat -> Prop} {w : World} {x : PV} {v : Value} (hx : x.isAgg = false) (hv : v.oneCell' = true) (h : RepF I M w x [v]) : RepF.go I M w [x] [v] := ⟨v, [], rfl, ⟨hx, hv⟩, h, rfl⟩
theorem go_append {M : Nat -> Prop} {w : World} : ∀ {xs ys : List PV} {l m : List Value}, RepF.go I M w xs l -> RepF.go I M w ys m -> RepF.go I M w (xs ++ ys) (l ++ m)
 | [], _, l, m, h, h' => by simp only [RepF.go] at h; subst h; exact h'
 | x :: xs, ys, l, m, h, h' => by
  obtain ⟨v, r, rfl, h0, h1, h2⟩ := h
  exact ⟨v, r ++ m, rfl, h0, h1, go_append h2 h'⟩
theorem opens_int {t : TypeId} {k : IntKind} (ht : P.underlying t = some (.int k)) : Opens P I t (fun n : Int => [.int k n]) (fun n => (Lit.int k n).wf = true) := by
 refine ⟨?_⟩
 intro H encH w base spare held fuel cs x h hw0
 obtain ⟨n, rfl, _, hw⟩ := DataW.trod_int ht h
 exact ⟨n, hw, go_one rfl rfl rfl⟩
theorem add_none {a : Addr} (h : a.spot = none) (n : Nat) : a.add n = ⟨a.block, a.off + n, none⟩ := by
 unfold Addr.add
 split
 ·rename_i h0; subst h0; cases a; simp_all
 ·rfl
theorem cell_some {w : World} {a : Addr} {v : Value} (h : w.cell? a = some v) : a.spot = none /\ ∃ cells t fr, w.heap[a.block]? = some (.cells cells t fr) /\ cells[a.off]? = some v := by
 unfold World.cell? at h
 split at h
 ·rename_i c t fr hh
  split at h
  ·cases h
  ·rename_i hs
   exact ⟨by simpa using hs, c, t, fr, hh, h⟩
 ·cases h
theorem opens_slice {t e : TypeId} {s : Nat} (ht : P.underlying t = some (.slice e)) (hC : P.cellsOf e = s) (hs : Nat.blt 0 s = true) {b : Nat} (hB : P.bytesOf e = b) {α : Type} {enc : α -> PV} {cells : α -> List PV} {good : α -> Prop}
 (henc : ∀ (w : World) a cs, RepF.go I NoM w (cells a) cs -> RepF I NoM w (enc a) cs) (ho : Opens P I e cells good) :
 Opens P I t (fun l : List α => [.sl α enc l]) (fun l => l.length <= maxLen /\ (∀ a, a ∈ l -> good a) /\ l.length * b <= reachBytes) := by
 refine ⟨?_⟩
 intro H encH w base spare held fuel cs x h hw0
 have hs : 0 < s := by rwa [Nat.blt_eq] at hs
 rcases open_slice ht h with ⟨rfl, _⟩ | ⟨a, len, cap, m, n, D, Pl, rfl, _, hlc, hcm, hm, rfl, hel⟩
 ·exact ⟨[], ⟨Nat.zero_le _, (fun a h => by cases h), by simp⟩, go_one rfl rfl ⟨none, 0, rfl, Nat.le_refl _, .inl rfl⟩⟩
 ·rw [hC] at hel
  simp only [DataW.weights, ht, List.all_cons, List.all_append, Bool.and_eq_true, decide_eq_true_eq, List.length_map, List.length_range] at hw0
  obtain ⟨hw1, hw2, _⟩ := hw0
  have hml : len <= m := by rw [hm]; split <;> omega
  have each : ∀ i, i < len -> ∃ (y : α) (cs' : List Value), good y /\ RepF.go I NoM w (cells y) cs' /\ cs'.length = s /\ ∀ j, j < s -> w.cell? ((a.add (i * s)).add j) = cs'[j]? := by
   intro i hi
   obtain ⟨cs', h1, h2⟩ := hel i (by omega)
   obtain ⟨_, h3, h4⟩ := World.cells?_some h1
   obtain ⟨y, hy, hr⟩ := ho.get encH w base spare held n cs' _ h2 (all_mem hw2 _ (List.mem_map.2 ⟨i, List.mem_range.2 hi, rfl⟩))
   exact ⟨y, cs', hy, hr, h3, h4⟩
  have mk : ∀ k, k <= len -> ∃ l : List α, l.length = k /\ (∀ i y, l[i]? = some y -> ∃ cs' : List Value, good y /\ RepF.go I NoM w (cells y) cs' /\ cs'.length = s /\ ∀ j, j < s -> w.cell? ((a.add (i * s)).add j) = cs'[j]?) := by
   intro k
   induction k with
   | zero => intro _; exact ⟨[], rfl, fun i y h => by simp at h⟩
   | succ k ih =>
    intro hk
    obtain ⟨l, hl, hall⟩ := ih (by omega)
    obtain ⟨y, cs', hy⟩ := each k (by omega)
    refine ⟨l ++ [y], by simp [hl], fun i z hz => ?_⟩
    rcases Nat.lt_or_ge i l.length with hi | hi
    ·rw [List.getElem?_append_left hi] at hz; exact hall i z hz
    ·rw [List.getElem?_append_right hi] at hz
     have : i - l.length = 0 := by
      rcases Nat.eq_zero_or_pos (i - l.length) with h | h
      ·exact h
      ·rw [List.getElem?_eq_none (by simp; omega)] at hz; cases hz
     rw [this] at hz
     simp at hz
     subst hz
     have : i = k := by omega
     subst this
     exact ⟨cs', hy⟩
  obtain ⟨l, hl, hall⟩ := mk len (Nat.le_refl _)
  refine ⟨l, ⟨by omega, fun y hy => ?_, ?_⟩, go_one rfl rfl ⟨some a, cap, by rw [hl], by omega, ?_⟩⟩
  rotate_left 1
  ·rw [hl, <- hB]; exact Nat.le_trans (Nat.mul_le_mul_right _ (Nat.le_add_right _ _)) hw1
  rotate_left 1
  ·obtain ⟨i, hi⟩ := List.mem_iff_getElem?.1 hy
   obtain ⟨_, h1, _⟩ := hall i y hi
   exact h1
  ·rcases Nat.eq_zero_or_pos len with h0 | h0
   ·left; exact List.eq_nil_of_length_eq_zero (by omega)
   ·right
    obtain ⟨y0, hy0⟩ : ∃ y, l[0]? = some y := ⟨l[0]'(by omega), List.getElem?_eq_getElem (by omega)⟩
    obtain ⟨cs0, _, _, hlen0, hc0⟩ := hall 0 y0 hy0
    have hc00 := hc0 0 hs
    rw [List.getElem?_eq_getElem (by omega)] at hc00
    have ha0 : (a.add (0 * s)).add 0 = a := by rw [Nat.zero_mul]; rfl
    rw [ha0] at hc00
    obtain ⟨hsp, cells0, t0, fr0, hh, _⟩ := cell_some hc00
    refine ⟨a.block, a.off, s, cells0, t0, fr0, by cases a; simp_all, hs, fun h => h, hh, fun i y hi => ?_⟩
    obtain ⟨cs', _, hr, hlen, hcell⟩ := hall i y hi
    refine ⟨cs', hlen, henc w y cs' hr, fun j v hj => ?_⟩
    have hjs : j < s := by rw [<- hlen]; exact (List.getElem?_eq_some_iff.1 hj).1
    have hc := hcell j hjs
    rw [hj, add_none hsp, add_none (by rfl)] at hc
    obtain ⟨_, c2, t2, fr2, hh2, hv2⟩ := cell_some hc
    simp only at hh2 hv2
    rw [hh] at hh2
    cases hh2
    exact hv2
theorem opensF_one {t : TypeId} {o n : Nat} {α : Type} {cells : α -> List PV} {good : α -> Prop} (hn : P.cellsOf t = n) (h : Opens P I t cells good) : OpensF P I [(t, o)] o n cells good := by
 refine ⟨?_⟩
 intro H encH w base spare held fuel cs hlen hall
 obtain ⟨y, hy, hz⟩ := hall 0 _ rfl
 simp only at hy
 rw [Nat.sub_self, List.drop_zero, hn, <- hlen, List.take_length] at hy
 exact h.get encH w base spare held fuel cs y hy hz
theorem opensF_cons {t : TypeId} {fs : List (TypeId × Nat)} {o c n : Nat} {α β : Type} {cells : α -> List PV} {good : α -> Prop} {cells2 : β -> List PV} {good2 : β -> Prop} (hc : P.cellsOf t = c)
 (h : Opens P I t cells good) (hoff : (fs.all fun g => Nat.ble (o + c) g.2) = true) (h2 : OpensF P I fs (o + c) n cells2 good2) :
 OpensF P I ((t, o) :: fs) o (c + n) (fun x : α × β => cells x.1 ++ cells2 x.2) (fun x => good x.1 /\ good2 x.2) := by
 refine ⟨?_⟩
 intro H encH w base spare held fuel cs hlen hall
 obtain ⟨y, hy, hz0⟩ := hall 0 _ rfl
 simp only at hy
 rw [Nat.sub_self, List.drop_zero, hc] at hy
 obtain ⟨a, ha, hra⟩ := h.get encH w base spare held fuel _ y hy hz0
 obtain ⟨b, hb, hrb⟩ := h2.get encH w base spare held fuel (cs.drop c) (by rw [List.length_drop, hlen]; omega) (fun j g hg => by
  obtain ⟨z, hz, hz1⟩ := hall (j + 1) g hg
  have hge : o + c <= g.2 := by
   have := List.all_eq_true.1 hoff g (List.mem_of_getElem? hg)
   exact Nat.le_of_ble_eq_true this
  refine ⟨z, ?_, hz1⟩
  rw [List.drop_drop, show c + (g.2 - (o + c)) = g.2 - o by omega]
  exact hz)
 refine ⟨(a, b), ⟨ha, hb⟩, ?_⟩
 have := go_append hra hrb
 rwa [List.take_append_drop] at this
theorem opens_struct {t : TypeId} {fs : Array Field} {ps : List (TypeId × Nat)} {n : Nat} (ht : P.underlying t = some (.struct fs)) (hps : fs.toList.map (fun f => (f.type, f.offset)) = ps) (hn : P.cellsOf t = n) {α : Type} {cells : α -> List PV} {good : α -> Prop}
 (h : OpensF P I ps 0 n cells good) : Opens P I t cells good := by
 refine ⟨?_⟩
 intro H encH w base spare held fuel cs x hx hw0
 obtain ⟨xs, m, _, rfl, hlen, hsz, hall⟩ := DataW.trod_struct ht hx
 simp only [DataW.weights, ht] at hw0
 refine h.get encH w base spare held m cs (by rw [hlen, hn]) (fun j f hj => ?_)
 rw [<- hps, List.getElem?_map] at hj
 obtain ⟨g, hg, rfl⟩ := Option.map_eq_some_iff.1 hj
 have hj' : fs[j]? = some g := by rw [<- Array.getElem?_toList]; exact hg
 have h1 := hall j g hj'
 have hjlt : j < xs.length := by rw [hsz]; exact (Array.getElem?_eq_some_iff.1 hj').1
 rw [List.getElem?_eq_getElem hjlt] at h1
 simp only [Nat.sub_zero]
 exact ⟨_, h1, each_get hw0 j g.type _ (by rw [List.getElem?_map, hg]; rfl) (by rw [List.getElem?_map, List.getElem?_eq_getElem hjlt]; rfl)⟩
theorem Opens.arg {t : TypeId} {α : Type} {enc : α -> PV} {cells : α -> List PV} {good : α -> Prop} (ho : Opens P I t cells good) (hagg : ∀ a, (enc a).isAgg = (match P.underlying t with | some (.struct _) | some (.array _ _) => true | _ => false))
 (henc : ∀ (w : World) a cs, RepF.go I NoM w (cells a) cs -> RepF I NoM w (enc a) cs) {H : Type} {encH : TypeId × Value -> H} {w W : World} {base : Nat} {spare : Nat -> Bool} {held : Bool} {r : Reach} {b0 : Nat} {v : Value} {d : DataW H} {ps : List MemPlace}
 (hv : Value.okWide P W r b0 t v) (h : DataW.Trod encH P w base spare held t v d ps) (hw0 : (d.weights P t).all (· <= reachBytes) = true) : ∃ a, good a /\ RepF I NoM w (enc a) v.cells.toList /\ isAggV v = (enc a).isAgg := by
 obtain ⟨fuel, h⟩ := h
 obtain ⟨a, ha, hr⟩ := ho.get encH w base spare held fuel _ _ h hw0
 refine ⟨a, ha, henc w a _ hr, ?_⟩
 rw [hagg]
 cases hu : P.underlying t with
 | none =>
  cases fuel with
  | zero => simp [DataW.trod] at h
  | succ n => simp [DataW.trod, hu] at h
 | some td =>
  have notag : ∀ {v : Value}, Value.okWide P W r b0 t v -> (match some td with | some (.struct _) | some (.array _ _) => true | _ => false) = false -> isAggV v = false := by
   intro v hv hq
   cases v with
   | agg cs =>
    exfalso
    unfold Value.okWide at hv
    rw [hu] at hv
    cases td <;> simp [Cell.okWide, hu, Cell.ok] at hv hq
   | _ => rfl
  cases td with
  | struct fs => obtain ⟨cs, rfl, _⟩ := okWide_struct hu hv; rfl
  | array n e =>
   unfold Value.okWide at hv
   rw [hu] at hv
   obtain ⟨cs, rfl, _⟩ := hv; rfl
  | _ => exact notag hv rfl
end
end Go.Ab.T
namespace Go.Ab.T
open Go Go.Ab
def hasI (v : Int) : List Int -> Bool
 | [] => false
 | x :: r => bif v == x then true else hasI v r
def idxI (v : Int) : List Int -> Int -> Int
 | [], _ => -1
 | x :: r, i => bif v == x then i else idxI v r (i + 1)
theorem idxI_has (v : Int) : ∀ (l : List Int) (i : Int), 0 <= i -> decide (idxI v l i >= 0) = hasI v l
 | [], i, h => rfl
 | x :: r, i, h => by
  by_cases hx : (v == x) = true
  ·have e1 : idxI v (x :: r) i = i := by rw [idxI, hx]; rfl
   have e2 : hasI v (x :: r) = true := by rw [hasI, hx]; rfl
   rw [e1, e2]; simpa using h
  ·have hx : (v == x) = false := by simpa using hx
   have e1 : idxI v (x :: r) i = idxI v r (i + 1) := by rw [idxI, hx]; rfl
   have e2 : hasI v (x :: r) = hasI v r := by rw [hasI, hx]; rfl
   rw [e1, e2]; exact idxI_has v r (i + 1) (by omega)
abbrev Win := Int × Int × Int
def fitsW (w : Win) (fr : Int) : Bool := decide (w.2.2 > 0) && decide (w.2.1 >= 0) && decide (w.2.1 <= fr) && decide (w.2.2 <= IntKind.i64.wrap (fr - w.2.1))
def wrongW (fr : Int) (ids : List Int) (p w : Win) : Int :=
 bif !hasI w.1 ids then 10 else bif !fitsW w fr then 11 else bif decide (w.2.1 < p.2.1) then 9 else bif decide (w.2.1 < IntKind.i64.wrap (p.2.1 + p.2.2)) then 12 else 0
def chkW (fr : Int) (ids : List Int) : Win -> List Win -> Int -> Int × Int
 | _, [], _ => (0, 0)
 | p, w :: r, i => bif wrongW fr ids p w == 0 then chkW fr ids w r (i + 1) else (i, wrongW fr ids p w)
def prevW (ws : List Win) : Nat -> Option Win
 | 0 => some (0, 0, 0)
 | m + 1 => ws[m]?
def errW (r : Int × Int) : Err := bif r.2 == 0 then .nil else .plc r.1 (.cls r.2)
theorem wrongW_cases (fr : Int) (ids : List Int) (p w : Win) : wrongW fr ids p w = 10 \/ wrongW fr ids p w = 11 \/ wrongW fr ids p w = 9 \/ wrongW fr ids p w = 12 \/ wrongW fr ids p w = 0 := by
 unfold wrongW
 cases hasI w.1 ids <;> cases fitsW w fr <;> cases decide (w.2.1 < p.2.1) <;> cases decide (w.2.1 < IntKind.i64.wrap (p.2.1 + p.2.2)) <;> simp
theorem isCls_wrongW (fr : Int) (ids : List Int) (p w : Win) : isCls (wrongW fr ids p w) = !(wrongW fr ids p w == 0) := by
 rcases wrongW_cases fr ids p w with h | h | h | h | h <;> rw [h] <;> decide
theorem at_new (i c : Int) (h : isCls c = true) : atE i (newE c) = .plc i (.cls c) := by
 unfold newE; rw [h]; rfl
end Go.Ab.T
namespace Go.Ab.T
open Go Go.Ab
def byteAt (s : ByteArray) (i : Nat) : Nat := (s.data.toList.getD i 0).toNat
def beV (s : ByteArray) (at_ : Nat) : Nat -> Nat
 | 0 => 0
 | n + 1 => 256 * beV s at_ n + byteAt s (at_ + n)
def failR (e : Err) (sec k a : Int) : Err := bif e.isNil then inE sec (atE a (newE k)) else e
def needE (e : Err) (ok : Bool) (sec k a : Int) : Err := bif ok then e else failR e sec k a
def rdOk (s : ByteArray) (a n : Int) (e : Err) : Bool := decide (n <= (s.size : Int) - a) && e.isNil
def rdE (s : ByteArray) (a n sec : Int) (e : Err) : Err := needE e (decide (n <= (s.size : Int) - a)) sec 2 a
def rdV (s : ByteArray) (a n : Int) (e : Err) : Int := bif rdOk s a n e then (beV s a.toNat n.toNat : Int) else 0
def rdAt (s : ByteArray) (a n : Int) (e : Err) : Int := bif rdOk s a n e then a + n else a
end Go.Ab.T
namespace Go.Ab.T
open Go Go.Ab
abbrev F3 := Int × Int × Int
inductive GoodE : Err -> Prop where
 | nil : GoodE .nil
 | spc (s a k : Int) (h : isCls k = true) : GoodE (.sec s (.plc a (.cls k)))
theorem GoodE.cases {e : Err} (h : GoodE e) : e = .nil \/ ∃ s a k, isCls k = true /\ e = .sec s (.plc a (.cls k)) := by
 cases h with
 | nil => exact .inl rfl
 | spc s a k h => exact .inr ⟨s, a, k, h, rfl⟩
theorem GoodE.fail {e : Err} (h : GoodE e) (sec k a : Int) : GoodE (failR e sec k a) := by
 unfold failR
 cases hn : e.isNil with
 | false => exact h
 | true =>
  show GoodE (inE sec (atE a (newE k)))
  unfold newE
  cases hk : isCls k with
  | false => exact .nil
  | true => exact .spc sec a k hk
section
variable {e : Err} (h : GoodE e) {s : ByteArray} {a n : Int}
include h
end
theorem rdAt_le {s : ByteArray} {a n : Int} {e : Err} (h0 : 0 <= a) (h1 : a <= s.size) (hn : 0 <= n) : 0 <= rdAt s a n e /\ rdAt s a n e <= s.size := by
 unfold rdAt
 cases h : rdOk s a n e with
 | false => exact ⟨h0, h1⟩
 | true =>
  simp only [rdOk, Bool.and_eq_true, decide_eq_true_eq] at h
  show 0 <= a + n /\ a + n <= (s.size : Int)
  omega
section
variable {e : Err} (h : GoodE e) {s : ByteArray} {a n : Int}
include h
end
end Go.Ab.T
namespace Go.Ab.T
open Go Go.Ab
def letZ (b : Int) : Bool := decide (b >= 65) && decide (b <= 90)
def digZ (b : Int) : Bool := b == 95 || (decide (b >= 48) && decide (b <= 57))
def allR : List UInt8 -> Bool
 | [] => true
 | b :: r => (letZ b.toNat || digZ b.toNat) && allR r
inductive GoodF : F3 -> Prop where
 | mk {e : Err} (h : GoodE e) : GoodF (ofE e)
theorem isNil_eq {e : Err} (h : e.isNil = true) : e = .nil := by cases e <;> first | rfl | cases h
end Go.Ab.T
namespace Go.Ab.T
open Go Go.Ab
abbrev RS := Int × Err
def hM (s : ByteArray) (c : Int) (x : RS) : RS := (rdAt s x.1 1 x.2, needE (rdE s x.1 1 1 x.2) (rdV s x.1 1 x.2 == c) 1 3 x.1)
def hR (s : ByteArray) (n : Int) (x : RS) : RS := (rdAt s x.1 n x.2, rdE s x.1 n 1 x.2)
def hN (s : ByteArray) (n lo hi : Int) (x : RS) : RS := (rdAt s x.1 n x.2, needE (rdE s x.1 n 1 x.2) (decide (rdV s x.1 n x.2 >= lo) && decide (rdV s x.1 n x.2 <= hi)) 1 8 x.1)
def hIn (s : ByteArray) (x : RS) : Prop := 0 <= x.1 /\ x.1 <= (s.size : Int)
def hV (s : ByteArray) (n : Int) (x y : RS) : Int := bif x.2.isNil then rdV s y.1 n y.2 else 0
theorem hIn.m {s : ByteArray} {x : RS} (c : Int) (h : hIn s x) : hIn s (hM s c x) := rdAt_le h.1 h.2 (by omega)
theorem hIn.r {s : ByteArray} {x : RS} {n : Int} (hn : 0 <= n) (h : hIn s x) : hIn s (hR s n x) := rdAt_le h.1 h.2 hn
theorem hIn.n {s : ByteArray} {x : RS} {n lo hi : Int} (hn : 0 <= n) (h : hIn s x) : hIn s (hN s n lo hi x) := rdAt_le h.1 h.2 hn
end Go.Ab.T
namespace Go.Ab.T
open Go Go.Ab
end Go.Ab.T
namespace Go.Ab.T
open Go Go.Ab
end Go.Ab.T
namespace Go.Ab.T
open Go Go.Ab
end Go.Ab.T
namespace Go.Ab.T
open Go Go.Ab
end Go.Ab.T
namespace Go.Ab.T
open Go Go.Ab
def Has (S : ByteArray) (a : Nat) (l : List UInt8) : Prop := ∃ pre post, S.data.toList = pre ++ (l ++ post) /\ pre.length = a
theorem Has.left {S : ByteArray} {a : Nat} {l m : List UInt8} (h : Has S a (l ++ m)) : Has S a l := by
 obtain ⟨p, q, h1, h2⟩ := h
 exact ⟨p, m ++ q, by rw [h1, List.append_assoc], h2⟩
theorem Has.right {S : ByteArray} {a : Nat} {l m : List UInt8} (h : Has S a (l ++ m)) : Has S (a + l.length) m := by
 obtain ⟨p, q, h1, h2⟩ := h
 exact ⟨p ++ l, q, by rw [h1]; simp, by rw [List.length_append, h2]⟩
theorem Has.size {S : ByteArray} {a : Nat} {l : List UInt8} (h : Has S a l) : a + l.length <= S.size := by
 obtain ⟨p, q, h1, h2⟩ := h
 have h3 : S.data.toList.length = S.size := by simp
 rw [<- h3, h1]; simp; omega
theorem Has.byte {S : ByteArray} {a : Nat} {l : List UInt8} (h : Has S a l) {i : Nat} {b : UInt8} (hi : l[i]? = some b) : byteAt S (a + i) = b.toNat := by
 obtain ⟨p, q, h1, h2⟩ := h
 unfold byteAt
 rw [h1, List.getD_eq_getElem?_getD, List.getElem?_append_right (by omega), List.getElem?_append_left (by
  have := (List.getElem?_eq_some_iff.1 hi).1; omega)]
 have e : a + i - p.length = i := by omega
 rw [e, hi]; rfl
end Go.Ab.T
namespace Go.Ab.T
open Go Go.Ab
end Go.Ab.T
namespace Go.Ab.T
open Go Go.Ab
abbrev W3 := Int × Int × Int
abbrev Sch := Int × Int × List W3 × List W3
def wiV (v a b : Int) : Bool := decide (v >= a) && decide (v <= b)
theorem wiV_iff {v a b : Int} : wiV v a b = true ↔ a <= v /\ v <= b := by
 unfold wiV; rw [Bool.and_eq_true, decide_eq_true_eq, decide_eq_true_eq]
def okW (w : W3) : Bool := wiV w.1 0 255 && (wiV w.2.1 0 1048576 && wiV w.2.2 0 1048576)
def rowsR (l : List W3) : Bool := l.all okW
def schR (x : Sch) : Int :=
 bif !wiV x.1 0 255 then 18 else bif !wiV x.2.1 1 1048576 then 18 else bif decide ((x.2.2.1.length : Int) > 256) then 8 else bif !rowsR x.2.2.1 then 18 else
 bif decide ((x.2.2.2.length : Int) > 32) then 8 else bif !rowsR x.2.2.2 then 18 else 0
end Go.Ab.T
namespace Go.Ab.T
open Go Go.Ab
def tkE (s : ByteArray) (sec least : Int) (x : RS) : Err := needE (rdE s x.1 4 sec x.2) (wiV (rdV s x.1 4 x.2) least 1048576) sec 18 x.1
def tk (s : ByteArray) (sec least : Int) (x : RS) : RS := (rdAt s x.1 4 x.2, tkE s sec least x)
def r1 (s : ByteArray) (sec n : Int) (x : RS) : RS := (rdAt s x.1 n x.2, rdE s x.1 n sec x.2)
def rowX (s : ByteArray) (sec : Int) (x : RS) : RS := tk s sec 0 (tk s sec 0 (r1 s sec 1 x))
def rowsX (s : ByteArray) (sec : Int) : Nat -> RS -> RS
 | 0, x => x
 | n + 1, x => bif x.2.isNil then rowsX s sec n (rowX s sec x) else x
def cntX (s : ByteArray) (sec size most : Int) (x : RS) : RS := (rdAt s x.1 size x.2, needE (rdE s x.1 size sec x.2) (decide (rdV s x.1 size x.2 <= most)) sec 8 x.1)
def manyX (s : ByteArray) (sec size most : Int) (x : RS) : RS := bif (cntX s sec size most x).2.isNil then rowsX s sec (rdV s x.1 size x.2).toNat (cntX s sec size most x) else cntX s sec size most x
def idX (s : ByteArray) (last : Int) (x : RS) : RS := (rdAt s x.1 1 x.2, needE (rdE s x.1 1 3 x.2) (decide (rdV s x.1 1 x.2 > last)) 3 9 x.1)
def s1X (s : ByteArray) (last : Int) (x : RS) : RS := tk s 3 1 (idX s last x)
def s2X (s : ByteArray) (last : Int) (x : RS) : RS := manyX s 3 2 256 (s1X s last x)
theorem hIn.tk {s : ByteArray} {x : RS} (sec least : Int) (h : hIn s x) : hIn s (tk s sec least x) := rdAt_le h.1 h.2 (by omega)
theorem hIn.r1 {s : ByteArray} {x : RS} (sec : Int) {n : Int} (hn : 0 <= n) (h : hIn s x) : hIn s (r1 s sec n x) := rdAt_le h.1 h.2 hn
theorem hIn.rowX {s : ByteArray} {x : RS} (sec : Int) (h : hIn s x) : hIn s (rowX s sec x) := ((h.r1 sec (by omega)).tk _ _).tk _ _
theorem hIn.rowsX {s : ByteArray} (sec : Int) : ∀ (n : Nat) {x : RS}, hIn s x -> hIn s (rowsX s sec n x)
 | 0, _, h => h
 | n + 1, x, h => by
  unfold Go.Ab.T.rowsX
  cases x.2.isNil with
  | false => exact h
  | true => exact hIn.rowsX sec n (h.rowX sec)
theorem hIn.cnt {s : ByteArray} {x : RS} (sec : Int) {size : Int} (most : Int) (hn : 0 <= size) (h : hIn s x) : hIn s (cntX s sec size most x) := rdAt_le h.1 h.2 hn
theorem hIn.many {s : ByteArray} {x : RS} (sec : Int) {size : Int} (most : Int) (hn : 0 <= size) (h : hIn s x) : hIn s (manyX s sec size most x) := by
 unfold manyX
 cases (cntX s sec size most x).2.isNil with
 | false => exact h.cnt sec most hn
 | true => exact (h.cnt sec most hn).rowsX sec _
theorem hIn.id {s : ByteArray} {x : RS} (last : Int) (h : hIn s x) : hIn s (idX s last x) := rdAt_le h.1 h.2 (by omega)
theorem hIn.s1 {s : ByteArray} {x : RS} (last : Int) (h : hIn s x) : hIn s (s1X s last x) := (h.id last).tk _ _
theorem hIn.s2 {s : ByteArray} {x : RS} (last : Int) (h : hIn s x) : hIn s (s2X s last x) := (h.s1 last).many _ _ (by omega)
end Go.Ab.T
namespace Go.Ab.T
open Go Go.Ab
def ownW : List Win -> Int -> Int
 | [], _ => -1
 | w :: r, t => bif decide (t >= w.2.1) && decide (t < IntKind.i64.wrap (w.2.1 + w.2.2)) then w.1 else ownW r t
def wordW (fr : Int) (ws : List Win) : List Int := (List.range fr.toNat).map fun (i : Nat) => ownW ws (i : Int)
theorem wordW_len (fr : Int) (ws : List Win) : (wordW fr ws).length = fr.toNat := by simp [wordW]
theorem wordW_get (fr : Int) (ws : List Win) {i : Nat} (h : i < fr.toNat) : (wordW fr ws)[i]? = some (ownW ws (i : Int)) := by
 simp [wordW, h]
end Go.Ab.T
namespace Go.Ab.T
open Go Go.Ab
def inW (w : Win) (t : Int) : Bool := decide (t >= w.2.1) && decide (IntKind.i64.wrap (t - w.2.1) < w.2.2)
def ixW (t : Int) : List Win -> Int -> Int
 | [], _ => -1
 | w :: r, i => bif inW w t then i else ixW t r (i + 1)
def ownI : List Win -> Int -> Int
 | [], _ => -1
 | w :: r, t => bif inW w t then w.1 else ownI r t
def ownR (fr : Int) (ws : List Win) (t : Int) : Int := bif decide (t < 0) || decide (t >= fr) then -1 else ownI ws t
theorem ixW_own (t : Int) : ∀ (ws : List Win) (i : Nat), (ixW t ws (i : Int) = -1 /\ ownI ws t = -1) \/ ∃ (j : Nat) (w : Win), ixW t ws (i : Int) = ((i + j : Nat) : Int) /\ ws[j]? = some w /\ ownI ws t = w.1
 | [], i => .inl ⟨rfl, rfl⟩
 | w :: r, i => by
  cases h : inW w t with
  | true => exact .inr ⟨0, w, by rw [ixW, h]; rfl, rfl, by rw [ownI, h]; rfl⟩
  | false =>
   have e : ((i : Int) + 1) = ((i + 1 : Nat) : Int) := by omega
   rcases ixW_own t r (i + 1) with ⟨h1, h2⟩ | ⟨j, v, h1, h2, h3⟩
   ·exact .inl ⟨by rw [ixW, h, e]; exact h1, by rw [ownI, h]; exact h2⟩
   ·refine .inr ⟨j + 1, v, ?_, h2, by rw [ownI, h]; exact h3⟩
    rw [ixW, h, e]
    exact h1.trans (by congr 1; omega)
def busyN : List Int -> Int
 | [] => 0
 | x :: r => (bif x != -1 then 1 else 0) + busyN r
theorem busyN_append : ∀ a b : List Int, busyN (a ++ b) = busyN a + busyN b
 | [], b => by simp [busyN]
 | x :: a, b => by rw [List.cons_append, busyN, busyN, busyN_append a b]; omega
def RgtW (fr : Int) : Int -> List Win -> Prop
 | _, [] => True
 | e, w :: r => e <= w.2.1 /\ 0 < w.2.2 /\ w.2.1 + w.2.2 <= fr /\ 0 <= w.1 /\ RgtW fr (w.2.1 + w.2.2) r
theorem rgt_of_chk (fr : Int) (hfr : 0 <= fr /\ fr <= 1048576) (ids : List Int) : ∀ (ws : List Win) (p : Win) (i : Int), 0 <= p.2.1 -> p.2.1 <= 1048576 -> 0 <= p.2.2 -> p.2.2 <= 1048576 -> rowsR ws = true -> (chkW fr ids p ws i).2 = 0 -> RgtW fr (p.2.1 + p.2.2) ws
 | [], _, _, _, _, _, _, _, _ => trivial
 | w :: r, p, i, p1, p2, p3, p4, hr, h => by
  rw [chkW] at h
  unfold rowsR at hr
  rw [List.all_cons, Bool.and_eq_true] at hr
  obtain ⟨hw, hr⟩ := hr
  unfold okW at hw
  rw [Bool.and_eq_true, Bool.and_eq_true, wiV_iff, wiV_iff, wiV_iff] at hw
  obtain ⟨⟨w1, _⟩, ⟨w2, w3⟩, ⟨w4, w5⟩⟩ := hw
  cases h0 : (wrongW fr ids p w == 0) with
  | false =>
   rw [h0] at h
   have h : wrongW fr ids p w = 0 := h
   rw [h] at h0; exact absurd h0 (by decide)
  | true =>
   rw [h0] at h
   have h0 : wrongW fr ids p w = 0 := by simpa using h0
   have ih := rgt_of_chk fr hfr ids r w (i + 1) w2 w3 w4 w5 hr h
   unfold wrongW at h0
   rw [wrap_id _ (by omega) (by omega)] at h0
   cases c1 : hasI w.1 ids with
   | false => rw [c1] at h0; exact absurd (show (10 : Int) = 0 from h0) (by decide)
   | true =>
    cases c2 : fitsW w fr with
    | false => rw [c1, c2] at h0; exact absurd (show (11 : Int) = 0 from h0) (by decide)
    | true =>
     cases c3 : decide (w.2.1 < p.2.1) with
     | true => rw [c1, c2, c3] at h0; exact absurd (show (9 : Int) = 0 from h0) (by decide)
     | false =>
      cases c4 : decide (w.2.1 < p.2.1 + p.2.2) with
      | true => rw [c1, c2, c3, c4] at h0; exact absurd (show (12 : Int) = 0 from h0) (by decide)
      | false =>
       unfold fitsW at c2
       rw [wrap_id _ (by omega) (by omega)] at c2
       simp only [Bool.and_eq_true, decide_eq_true_eq, decide_eq_false_iff_not] at c2 c3 c4
       exact ⟨by omega, by omega, by omega, w1, ih⟩
theorem RgtW.ends {fr : Int} : ∀ {ws : List Win} {e : Int} {w : Win}, RgtW fr e ws -> w ∈ ws -> e <= w.2.1 /\ 0 < w.2.2 /\ w.2.1 + w.2.2 <= fr /\ 0 <= w.1
 | v :: r, e, w, h, hw => by
  rcases List.mem_cons.1 hw with rfl | hw
  ·exact ⟨h.1, h.2.1, h.2.2.1, h.2.2.2.1⟩
  ·have := RgtW.ends h.2.2.2.2 hw
   have h1 := h.1
   have h2 := h.2.1
   exact ⟨by omega, this.2⟩
theorem own_right {fr : Int} (hfr : fr <= 1048576) : ∀ (ws : List Win) (e : Int) (i : Nat) (w : Win) (t : Int), 0 <= e -> RgtW fr e ws -> ws[i]? = some w -> w.2.1 <= t -> t < w.2.1 + w.2.2 -> ownI ws t = w.1
 | v :: r, e, 0, w, t, he, h, hi, h1, h2 => by
  have hi : v = w := by simpa using hi
  subst hi
  have h3 := h.1
  have h4 := h.2.2.1
  have : inW v t = true := by
   unfold inW
   rw [wrap_id _ (by omega) (by omega), Bool.and_eq_true, decide_eq_true_eq, decide_eq_true_eq]
   omega
  rw [ownI, this]; rfl
 | v :: r, e, i + 1, w, t, he, h, hi, h1, h2 => by
  have hi : r[i]? = some w := by simpa using hi
  have hm := h.2.2.2.2.ends (List.mem_of_getElem? hi)
  have h3 := h.1
  have h4 := h.2.1
  have : inW v t = false := by
   unfold inW
   rw [wrap_id _ (by omega) (by omega), Bool.and_eq_false_iff, decide_eq_false_iff_not, decide_eq_false_iff_not]
   omega
  rw [ownI, this]
  exact own_right hfr r _ i w t (by omega) h.2.2.2.2 hi h1 h2
theorem rgt_prev {fr : Int} : ∀ (ws : List Win) (e : Int) (i : Nat) (p w : Win), RgtW fr e ws -> ws[i]? = some p -> ws[i + 1]? = some w -> p.2.1 + p.2.2 <= w.2.1
 | v :: r, e, 0, p, w, h, hp, hw => by
  have hp : v = p := by simpa using hp
  subst hp
  have hw : r[0]? = some w := by simpa using hw
  exact (h.2.2.2.2.ends (List.mem_of_getElem? hw)).1
 | v :: r, e, i + 1, p, w, h, hp, hw => rgt_prev r _ i p w h.2.2.2.2 (by simpa using hp) (by simpa using hw)
def cntI (f : Nat -> Int) : Nat -> Int
 | 0 => 0
 | n + 1 => cntI f n + f n
theorem cntI_congr {f g : Nat -> Int} : ∀ n, (∀ j, j < n -> f j = g j) -> cntI f n = cntI g n
 | 0, _ => rfl
 | n + 1, h => by rw [cntI, cntI, cntI_congr n fun j hj => h j (by omega), h n (by omega)]
theorem cntI_add (f g : Nat -> Int) : ∀ n, cntI (fun j => f j + g j) n = cntI f n + cntI g n
 | 0 => rfl
 | n + 1 => by rw [cntI, cntI, cntI, cntI_add f g n]; omega
theorem cntI_zero : ∀ n, cntI (fun _ => 0) n = 0
 | 0 => rfl
 | n + 1 => by rw [cntI, cntI_zero n]; rfl
def ind (w : Win) (t : Int) : Int := if w.2.1 <= t /\ t < w.2.1 + w.2.2 then 1 else 0
theorem cntI_ind (w : Win) (h0 : 0 <= w.2.1) (h1 : 0 <= w.2.2) : ∀ n : Nat, cntI (fun j => ind w (j : Int)) n = if (n : Int) <= w.2.1 then 0 else if (n : Int) <= w.2.1 + w.2.2 then (n : Int) - w.2.1 else w.2.2
 | 0 => by rw [if_pos (by simpa using h0)]; rfl
 | n + 1 => by
  rw [cntI, cntI_ind w h0 h1 n]
  unfold ind
  push_cast
  by_cases c1 : (n : Int) + 1 <= w.2.1
  ·rw [if_pos c1, if_pos (by omega), if_neg (by omega)]; rfl
  ·rw [if_neg c1]
   by_cases c2 : (n : Int) + 1 <= w.2.1 + w.2.2
   ·rw [if_pos c2, if_pos (c := w.2.1 <= (n : Int) /\ (n : Int) < w.2.1 + w.2.2) (by omega)]
    by_cases c3 : (n : Int) <= w.2.1
    ·rw [if_pos c3]; omega
    ·rw [if_neg c3, if_pos (by omega)]; omega
   ·rw [if_neg c2, if_neg (c := w.2.1 <= (n : Int) /\ (n : Int) < w.2.1 + w.2.2) (by omega)]
    by_cases c3 : (n : Int) <= w.2.1
    ·rw [if_pos c3]; omega
    ·rw [if_neg c3]
     by_cases c4 : (n : Int) <= w.2.1 + w.2.2
     ·rw [if_pos c4]; omega
     ·rw [if_neg c4]; omega
def sumInd : List Win -> Int -> Int
 | [], _ => 0
 | w :: r, t => ind w t + sumInd r t
def lenW : List Win -> Int
 | [] => 0
 | w :: r => w.2.2 + lenW r
theorem cntI_sum {fr : Nat} : ∀ (ws : List Win) (e : Int), 0 <= e -> RgtW (fr : Int) e ws -> cntI (fun j => sumInd ws (j : Int)) fr = lenW ws
 | [], _, _, _ => cntI_zero _
 | w :: r, e, he, h => by
  obtain ⟨h1, h2, h3, h4, h5⟩ := h
  have e1 : (fun j : Nat => sumInd (w :: r) (j : Int)) = fun j : Nat => ind w (j : Int) + sumInd r (j : Int) := rfl
  rw [e1, cntI_add, cntI_sum r _ (by omega) h5, cntI_ind w (by omega) (by omega), lenW, if_neg (by omega)]
  by_cases c : (fr : Int) <= w.2.1 + w.2.2
  ·rw [if_pos c]; omega
  ·rw [if_neg c]
theorem sumInd_zero {fr : Int} : ∀ (ws : List Win) (e t : Int), RgtW fr e ws -> t < e -> sumInd ws t = 0
 | [], _, _, _, _ => rfl
 | w :: r, e, t, h, ht => by
  obtain ⟨h1, h2, h3, h4, h5⟩ := h
  rw [sumInd, sumInd_zero r _ t h5 (by omega), ind, if_neg (by omega)]; rfl
theorem ind_own {fr : Int} (hfr : fr <= 1048576) : ∀ (ws : List Win) (e t : Int), 0 <= e -> RgtW fr e ws -> (bif ownW ws t != -1 then (1 : Int) else 0) = sumInd ws t
 | [], _, _, _, _ => rfl
 | w :: r, e, t, he, h => by
  obtain ⟨h1, h2, h3, h4, h5⟩ := h
  rw [ownW, wrap_id _ (by omega) (by omega), sumInd]
  by_cases c : w.2.1 <= t /\ t < w.2.1 + w.2.2
  ·have : (decide (t >= w.2.1) && decide (t < w.2.1 + w.2.2)) = true := by
    rw [Bool.and_eq_true, decide_eq_true_eq, decide_eq_true_eq]; exact c
   rw [this, ind, if_pos c, sumInd_zero r _ t h5 c.2]
   have : (w.1 != -1) = true := by rw [bne_iff_ne]; omega
   show (bif w.1 != -1 then (1 : Int) else 0) = _
   rw [this]; rfl
  ·have : (decide (t >= w.2.1) && decide (t < w.2.1 + w.2.2)) = false := by
    rw [Bool.and_eq_false_iff, decide_eq_false_iff_not, decide_eq_false_iff_not]; omega
   rw [this, ind, if_neg c]
   show (bif ownW r t != -1 then (1 : Int) else 0) = _
   rw [ind_own hfr r _ t (by omega) h5]; omega
theorem busy_range (f : Nat -> Int) : ∀ n : Nat, busyN ((List.range n).map f) = cntI (fun j => bif f j != -1 then 1 else 0) n
 | 0 => rfl
 | n + 1 => by rw [List.range_succ, List.map_append, busyN_append, busy_range f n, cntI]; simp [busyN]
theorem busy_right {fr : Int} (h0 : 0 <= fr) (hfr : fr <= 1048576) {ws : List Win} (h : RgtW fr 0 ws) : busyN (wordW fr ws) = lenW ws := by
 obtain ⟨n, rfl⟩ : ∃ n : Nat, fr = (n : Int) := ⟨fr.toNat, by omega⟩
 unfold wordW
 rw [busy_range, Int.toNat_natCast, cntI_congr n fun j _ => ind_own hfr ws 0 (j : Int) (Int.le_refl _) h]
 exact cntI_sum ws 0 (Int.le_refl _) h
theorem lenW_append : ∀ a b : List Win, lenW (a ++ b) = lenW a + lenW b
 | [], b => by simp [lenW]
 | x :: a, b => by rw [List.cons_append, lenW, lenW, lenW_append a b]; omega
theorem lenW_bound : ∀ ws : List Win, rowsR ws = true -> 0 <= lenW ws /\ lenW ws <= 1048576 * (ws.length : Int)
 | [], _ => ⟨Int.le_refl _, Int.le_refl _⟩
 | w :: r, hr => by
  unfold rowsR at hr
  rw [List.all_cons, Bool.and_eq_true] at hr
  obtain ⟨hw, hr⟩ := hr
  unfold okW at hw
  rw [Bool.and_eq_true, Bool.and_eq_true, wiV_iff, wiV_iff, wiV_iff] at hw
  have := lenW_bound r hr
  have e : ((w :: r).length : Int) = (r.length : Int) + 1 := by simp
  rw [lenW, e]
  omega
end Go.Ab.T
