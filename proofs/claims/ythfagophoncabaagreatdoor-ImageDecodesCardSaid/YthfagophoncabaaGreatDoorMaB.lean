import Derived.Test.YthfagophoncabaaGreatDoorAbC
import Derived.Test.YthfagophoncabaaGreatDoorMaErr
import Derived.Deep.Slices
import Derived.WideShapes
import Derived.ChangeArms
import Derived.Handed
import Derived.Laws.Strings
import Derived.Test.YthfagophoncabaaGreatDoorAbA
set_option linter.unusedVariables false
set_option linter.unusedSimpArgs false
set_option linter.unusedSectionVars false
namespace Go.Ab.T
open Go Go.Ab
def uCod : Cod := ⟨Unit, fun _ => .bool false, 1, fun _ => rfl, fun _ => rfl⟩
def e_api_Window (w : Int × Int × Int) : PV := .agg [.int .i64 w.1, .int .i64 w.2.1, .int .i64 w.2.2]
def c_api_Window : Cod := ⟨Int × Int × Int, e_api_Window, 3, fun _ => rfl, fun _ => rfl⟩
def e_api_Need (w : Int × Int × Int) : PV := .agg [.int .i64 w.1, .int .i64 w.2.1, .int .i64 w.2.2]
def c_api_Need : Cod := ⟨Int × Int × Int, e_api_Need, 3, fun _ => rfl, fun _ => rfl⟩
def e_int (w : Int) : PV := .int .i64 w
def c_int : Cod := ⟨Int, e_int, 1, fun _ => rfl, fun _ => rfl⟩
def e_api_Cell (w : Int × Bool) : PV := .agg [.int .u32 w.1, .bool w.2]
def c_api_Cell : Cod := ⟨Int × Bool, e_api_Cell, 2, fun _ => rfl, fun _ => rfl⟩
def e_api_Pair (w : Int × Int) : PV := .agg [.int .i64 w.1, .int .i64 w.2]
def c_api_Pair : Cod := ⟨Int × Int, e_api_Pair, 2, fun _ => rfl, fun _ => rfl⟩
def e_api_Act (w : Int × Int × Int) : PV := .agg [.int .i64 w.1, .int .i64 w.2.1, .int .i64 w.2.2]
def c_api_Act : Cod := ⟨Int × Int × Int, e_api_Act, 3, fun _ => rfl, fun _ => rfl⟩
def e_uint8 (w : UInt8) : PV := .int .u8 w.toNat
def c_uint8 : Cod := ⟨UInt8, e_uint8, 1, fun _ => rfl, fun _ => rfl⟩
def e_string (w : ByteArray) : PV := .str w
def c_string : Cod := ⟨ByteArray, e_string, 1, fun _ => rfl, fun _ => rfl⟩
def e_error (w : Err) : PV := .err w
def c_error : Cod := ⟨Err, e_error, 1, fun _ => rfl, fun _ => rfl⟩
def e_abi_Method (w : Int × Int × Int × Int) : PV := .agg [.int .i32 w.1, .int .i32 w.2.1, .int .i32 w.2.2.1, .int .i32 w.2.2.2]
def c_abi_Method : Cod := ⟨Int × Int × Int × Int, e_abi_Method, 4, fun _ => rfl, fun _ => rfl⟩
def e_struct_v_uint64_n_int_ (w : Int × Int) : PV := .agg [.int .u64 w.1, .int .i64 w.2]
def c_struct_v_uint64_n_int_ : Cod := ⟨Int × Int, e_struct_v_uint64_n_int_, 2, fun _ => rfl, fun _ => rfl⟩
def e__3_int (w : Int × Int × Int) : PV := .agg [.int .i64 w.1, .int .i64 w.2.1, .int .i64 w.2.2]
def c__3_int : Cod := ⟨Int × Int × Int, e__3_int, 3, fun _ => rfl, fun _ => rfl⟩
def e_api_Fault (w : Int × Int × Int) : PV := .agg [.int .i64 w.1, .int .i64 w.2.1, .int .i64 w.2.2]
def c_api_Fault : Cod := ⟨Int × Int × Int, e_api_Fault, 3, fun _ => rfl, fun _ => rfl⟩
def e_api_Partition (w : Int × ByteArray × Bool × (List (Int × Bool))) : PV := .agg [.int .i64 w.1, .str w.2.1, .bool w.2.2.1, .sl (Int × Bool) e_api_Cell w.2.2.2]
def c_api_Partition : Cod := ⟨Int × ByteArray × Bool × (List (Int × Bool)), e_api_Partition, 4, fun _ => rfl, fun _ => rfl⟩
def e_api_Schedule (w : Int × Int × (List (Int × Int × Int)) × (List (Int × Int × Int))) : PV := .agg [.int .i64 w.1, .int .i64 w.2.1, .sl (Int × Int × Int) e_api_Window w.2.2.1, .sl (Int × Int × Int) e_api_Need w.2.2.2]
def c_api_Schedule : Cod := ⟨Int × Int × (List (Int × Int × Int)) × (List (Int × Int × Int)), e_api_Schedule, 4, fun _ => rfl, fun _ => rfl⟩
end Go.Ab.T
namespace Go.Ab
theorem Closed.nf {K : Codes} {C : Cfg K} {f : Fun} {k : List PV -> Heap K -> Prop} {A : KA K} (hA : Closed C f k A) {n : Nat} {force : Bool} {todo : List AItem} {env : List PV} {L : Heap K} {q : Prop}
 (h : evT C f A k n force todo env L = q) (hq : q) : A todo env L := hA n force todo env L (h ▸ hq)
end Go.Ab
namespace Go.Ab.T
open Go Go.Ab
theorem by_nf {p q : Prop} (h : p = q) (hq : q) : p := h ▸ hq
def nms : List ByteArray := [⟨#[]⟩, ⟨#[97, 114, 103, 117, 109, 101, 110, 116]⟩, ⟨#[115, 104, 111, 114, 116]⟩, ⟨#[109, 97, 103, 105, 99]⟩, ⟨#[108, 101, 110, 103, 116, 104]⟩, ⟨#[115, 117, 109]⟩, ⟨#[102, 111, 114, 109]⟩, ⟨#[110, 97, 109, 101]⟩, ⟨#[109, 97, 110, 121]⟩, ⟨#[111, 114, 100, 101, 114]⟩, ⟨#[114, 101, 102, 101, 114, 101, 110, 99, 101]⟩, ⟨#[119, 105, 110, 100, 111, 119]⟩, ⟨#[111, 118, 101, 114, 108, 97, 112]⟩, ⟨#[112, 101, 114, 105, 111, 100]⟩, ⟨#[98, 117, 100, 103, 101, 116]⟩, ⟨#[112, 97, 105, 114]⟩, ⟨#[104, 97, 108, 116]⟩, ⟨#[115, 116, 97, 116, 101]⟩, ⟨#[114, 97, 110, 103, 101]⟩]
def isCls (n : Int) : Bool := decide (1 <= n) && decide (n <= 18)
def nameOf (n : Int) : ByteArray := bif isCls n then nms.getD n.toNat ⟨#[]⟩ else ⟨#[]⟩
theorem nms_get {n : Int} (h : isCls n = true) {y : ByteArray} (hy : nms[n.toNat]? = some y) : nameOf n = y := by
 simp [nameOf, h, List.getD_eq_getElem?_getD, hy]
theorem nameOf_empty (n : Int) : ((nameOf n).toList == ByteArray.toList ⟨#[]⟩) = !isCls n := by
 rw [ByteArray.toList_eq, ByteArray.toList_eq]
 unfold nameOf
 cases h : isCls n with
 | false => rfl
 | true =>
  simp only [isCls, Bool.and_eq_true, decide_eq_true_eq] at h
  have key : ∀ k : Nat, k < 19 -> 1 <= k -> ((nms.getD k ⟨#[]⟩).data.toList == (⟨#[]⟩ : ByteArray).data.toList) = false := by decide
  exact key n.toNat (by omega) (by omega)
def newE (n : Int) : Err := bif isCls n then .cls n else .nil
def atE (n : Int) (e : Err) : Err := bif e.isNil then .nil else .plc n e
def inE (n : Int) (e : Err) : Err := bif e.isNil then .nil else .sec n e
end Go.Ab.T
namespace Go.Ab.T
open Go Go.Ab
theorem down_loop {α : Type} (l : List α) (Q : Nat -> Prop) (h0 : Q l.length) (hs : ∀ (i : Nat) (y : α), l[i]? = some y -> Q (i + 1) -> Q i) : ∀ i, i <= l.length -> Q i := by
 have key : ∀ n i, i + n = l.length -> Q i := by
  intro n
  induction n with
  | zero => intro i h; have : i = l.length := by omega
            subst this; exact h0
  | succ n ih =>
   intro i h
   have hlt : i < l.length := by omega
   exact hs i l[i] (List.getElem?_eq_getElem hlt) (ih (i + 1) (by omega))
 intro i hi
 exact key (l.length - i) i (by omega)
theorem downN (m : Nat) (Q : Nat -> Prop) (h0 : Q m) (hs : ∀ i, i < m -> Q (i + 1) -> Q i) : ∀ i, i <= m -> Q i := by
 have key : ∀ n i, i + n = m -> Q i := by
  intro n
  induction n with
  | zero => intro i h; have : i = m := by omega
            subst this; exact h0
  | succ n ih => intro i h; exact hs i (by omega) (ih (i + 1) (by omega))
 intro i hi
 exact key (m - i) i (by omega)
theorem drop_cons' {α : Type} {l : List α} {i : Nat} {y : α} (h : l[i]? = some y) : l.drop i = y :: l.drop (i + 1) := by
 obtain ⟨h1, h2⟩ := List.getElem?_eq_some_iff.1 h
 rw [<- h2]; exact List.drop_eq_getElem_cons h1
theorem lt_of_get {α : Type} {l : List α} {i : Nat} {y : α} (h : l[i]? = some y) : i < l.length := (List.getElem?_eq_some_iff.1 h).1
theorem ilt_true {a b : Nat} (h : a < b) : decide ((a : Int) < (b : Int)) = true := decide_eq_true (by omega)
theorem ilt_false {a b : Nat} (h : ¬ a < b) : decide ((a : Int) < (b : Int)) = false := decide_eq_false (by omega)
theorem get_at {α : Type} {l : List α} {i : Nat} {y : α} {p : α -> Prop} (hy : l[i]? = some y) (h : p y) : (0 <= (i : Int) /\ (i : Int) < (l.length : Int)) /\ ∀ z, l[(i : Int).toNat]? = some z -> p z := by
 have := lt_of_get hy
 refine ⟨⟨by omega, by omega⟩, fun z hz => ?_⟩
 rw [Int.toNat_natCast, hy] at hz
 cases hz; exact h
theorem get_at' {α : Type} {l : List α} {i : Nat} {x : Int} {y : α} {p : α -> Prop} (hx : x = (i : Int)) (hy : l[i]? = some y) (h : p y) : (0 <= x /\ x < (l.length : Int)) /\ ∀ z, l[x.toNat]? = some z -> p z := by
 subst hx; exact get_at hy h
theorem wrap_succ {i : Nat} (h : i < 4611686018427387904) : IntKind.i64.wrap ((i : Int) + 1) = ((i + 1 : Nat) : Int) := by
 rw [wrap_id _ (by omega) (by omega)]; omega
theorem wrap_nat {i : Nat} {x : Int} (hx : x = (i : Int)) (h : i < 4611686018427387904) : IntKind.i64.wrap x = (i : Int) := by
 subst hx; exact wrap_id _ (by omega) (by omega)
theorem mmI_max (a b : Int) : mmI true a b = max a b := by
 show (if b > a then b else a) = max a b
 split <;> omega
end Go.Ab.T
namespace Go.Ab.T
open Go Go.Ab Go.Deep Go.WideShapes Go.ChangeShapes
section
variable {P : Program} {I : Ids}
def NoM : Nat -> Prop := fun _ => False
structure Opens (P : Program) (I : Ids) (t : TypeId) {α : Type} (cells : α -> List PV) (good : α -> Prop) : Prop where
 get : ∀ {H : Type} (encH : TypeId × Value -> H) (w : World) (base : Nat) (spare : Nat -> Bool) (held : Bool) (fuel : Nat) (cs : List Value) (x : DataW H × List MemPlace),
  DataW.trod encH P w base spare held fuel t cs = some x -> (x.1.weights P t).all (· <= reachBytes) = true -> ∃ a, good a /\ RepF.go I NoM w (cells a) cs
structure OpensF (P : Program) (I : Ids) (fs : List (TypeId × Nat)) (o n : Nat) {α : Type} (cells : α -> List PV) (good : α -> Prop) : Prop where
 get : ∀ {H : Type} (encH : TypeId × Value -> H) (w : World) (base : Nat) (spare : Nat -> Bool) (held : Bool) (fuel : Nat) (cs : List Value), cs.length = n ->
  (∀ (j : Nat) (f : TypeId × Nat), fs[j]? = some f -> ∃ y, DataW.trod encH P w base spare held fuel f.1 ((cs.drop (f.2 - o)).take (P.cellsOf f.1)) = some y /\ (y.1.weights P f.1).all (· <= reachBytes) = true) -> ∃ a, good a /\ RepF.go I NoM w (cells a) cs
theorem each_get {H : Type} : ∀ {ts : List TypeId} {l : List (DataW H)}, (DataW.weightsEach P ts l).all (· <= reachBytes) = true -> ∀ (j : Nat) t d, ts[j]? = some t -> l[j]? = some d -> (d.weights P t).all (· <= reachBytes) = true
 | [], _, _, j, t, d, h1, _ => by simp at h1
 | _ :: _, [], _, j, t, d, _, h2 => by simp at h2
 | u :: ts, x :: r, h, j, t, d, h1, h2 => by
  simp only [DataW.weightsEach, List.all_append, Bool.and_eq_true] at h
  cases j with
  | zero => simp at h1 h2; rw [<- h1, <- h2]; exact h.1
  | succ j => exact each_get h.2 j t d (by simpa using h1) (by simpa using h2)
theorem go_one {M : Nat -> Prop} {w : World} {x : PV} {v : Value} (hx : x.isAgg = false) (hv : v.oneCell' = true) (h : RepF I M w x [v]) : RepF.go I M w [x] [v] := ⟨v, [], rfl, ⟨hx, hv⟩, h, rfl⟩
theorem opens_bool {t : TypeId} (ht : P.underlying t = some .bool) : Opens P I t (fun b : Bool => [.bool b]) (fun _ => True) := by
 refine ⟨?_⟩
 intro H encH w base spare held fuel cs x h hw0
 obtain ⟨b, rfl, _⟩ := DataW.trod_bool ht h
 exact ⟨b, trivial, go_one rfl rfl rfl⟩
theorem opens_str {t : TypeId} (ht : P.underlying t = some .string) : Opens P I t (fun s : ByteArray => [.str s]) (fun s => s.size <= reachBytes) := by
 refine ⟨?_⟩
 intro H encH w base spare held fuel cs x h hw0
 obtain ⟨s, rfl, rfl, hs⟩ := DataW.trod_string ht h
 simp only [DataW.weights, List.all_cons, Bool.and_eq_true, decide_eq_true_eq] at hw0
 have e : s.data.toList.length = s.size := by rw [Array.length_toList]; rfl
 exact ⟨s, by have := hw0.1; omega, go_one rfl rfl rfl⟩
theorem Opens.arg {t : TypeId} {α : Type} {enc : α -> PV} {cells : α -> List PV} {good : α -> Prop} (ho : Opens P I t cells good) (hagg : ∀ a, (enc a).isAgg = (match P.underlying t with | some (.struct _) | some (.array _ _) => true | _ => false))
 (henc : ∀ (w : World) a cs, RepF.go I NoM w (cells a) cs -> RepF I NoM w (enc a) cs) {H : Type} {encH : TypeId × Value -> H} {w W : World} {base : Nat} {spare : Nat -> Bool} {held : Bool} {r : Reach} {b0 : Nat} {v : Value} {d : DataW H} {ps : List MemPlace}
 (hv : Value.okWide P W r b0 t v) (h : DataW.Trod encH P w base spare held t v d ps) (hw0 : (d.weights P t).all (· <= reachBytes) = true) : ∃ a, good a /\ RepF I NoM w (enc a) v.cells.toList /\ isAggV v = (enc a).isAgg := by
 obtain ⟨fuel, h⟩ := h
 obtain ⟨a, ha, hr⟩ := ho.get encH w base spare held fuel _ _ h hw0
 refine ⟨a, ha, henc w a _ hr, ?_⟩
 rw [hagg]
 cases hu : P.underlying t with
 | none =>
  cases fuel with
  | zero => simp [DataW.trod] at h
  | succ n => simp [DataW.trod, hu] at h
 | some td =>
  have notag : ∀ {v : Value}, Value.okWide P W r b0 t v -> (match some td with | some (.struct _) | some (.array _ _) => true | _ => false) = false -> isAggV v = false := by
   intro v hv hq
   cases v with
   | agg cs =>
    exfalso
    unfold Value.okWide at hv
    rw [hu] at hv
    cases td <;> simp [Cell.okWide, hu, Cell.ok] at hv hq
   | _ => rfl
  cases td with
  | struct fs => obtain ⟨cs, rfl, _⟩ := okWide_struct hu hv; rfl
  | array n e =>
   unfold Value.okWide at hv
   rw [hu] at hv
   obtain ⟨cs, rfl, _⟩ := hv; rfl
  | _ => exact notag hv rfl
end
end Go.Ab.T
namespace Go.Ab.T
open Go Go.Ab
def sizeOk (n : Int) : Bool := n == 1 || n == 2 || n == 4 || n == 8
def sizeB (n : Int) : Int := bif sizeOk n then 8 * n else 0
def byteAt (s : ByteArray) (i : Nat) : Nat := (s.data.toList.getD i 0).toNat
def beV (s : ByteArray) (at_ : Nat) : Nat -> Nat
 | 0 => 0
 | n + 1 => 256 * beV s at_ n + byteAt s (at_ + n)
theorem byteAt_lt (s : ByteArray) (i : Nat) : byteAt s i < 256 := by unfold byteAt; exact UInt8.toNat_lt _
theorem beV_lt (s : ByteArray) (a : Nat) : ∀ n, beV s a n < 256 ^ n
 | 0 => by simp [beV]
 | n + 1 => by
  have h1 := beV_lt s a n
  have h2 := byteAt_lt s (a + n)
  rw [beV, Nat.pow_succ]
  omega
theorem byteAt_of {s : ByteArray} {i : Nat} {b : UInt8} (h : s[i]? = some b) : byteAt s i = b.toNat := by
 have hlt : i < s.size := by
  rcases Nat.lt_or_ge i s.size with h1 | h1
  ·exact h1
  ·rw [ByteArray.getElem?_ge' s i (by omega)] at h; cases h
 rw [ByteArray.getElem?_lt' s i hlt] at h
 cases h
 unfold byteAt
 have : i < s.data.toList.length := by simpa using hlt
 rw [List.getD_eq_getElem?_getD, List.getElem?_eq_getElem this]
 simp [ByteArray.getElem_eq_getElem_data]
theorem sget {s : ByteArray} {i : Nat} {p : UInt8 -> Prop} (hi : i < s.size) (h : ∀ b, s[i]? = some b -> p b) : (0 <= (i : Int) /\ (i : Int) < (s.size : Int)) /\ ∀ z, s[(i : Int).toNat]? = some z -> p z := by
 refine ⟨⟨by omega, by omega⟩, fun z hz => h z ?_⟩
 simpa using hz
theorem pow256 (n : Nat) (h : n <= 8) : 256 ^ n <= 18446744073709551616 := by
 have : 256 ^ n <= 256 ^ 8 := Nat.pow_le_pow_right (by omega) h
 have h8 : (256 : Nat) ^ 8 = 18446744073709551616 := by decide
 omega
theorem u64_id (n : Int) (h0 : 0 <= n) (h1 : n < 18446744073709551616) : IntKind.u64.wrap n = n := by
 unfold IntKind.wrap
 have e1 : ((2 : Int) ^ IntKind.u64.bits) = 18446744073709551616 := by decide
 have e2 : IntKind.u64.signed = false := rfl
 rw [e1, e2]
 simp only [Bool.false_and, Bool.false_eq_true, if_false]
 omega
theorem or_u64 (x y : Nat) (hx : x < 18446744073709551616) (hy : y < 18446744073709551616) : Go.bits .or .u64 (x : Int) (y : Int) = ((x ||| y : Nat) : Int) := by
 unfold Go.bits
 show IntKind.u64.wrap (((BitVec.ofInt 64 (x : Int)) ||| (BitVec.ofInt 64 (y : Int))).toNat : Int) = _
 rw [BitVec.ofInt_natCast, BitVec.ofInt_natCast, BitVec.toNat_or, BitVec.toNat_ofNat, BitVec.toNat_ofNat]
 have e : (2 : Nat) ^ 64 = 18446744073709551616 := by decide
 rw [e, Nat.mod_eq_of_lt hx, Nat.mod_eq_of_lt hy]
 have hlt : x ||| y < 2 ^ 64 := Nat.or_lt_two_pow (by omega) (by omega)
 exact u64_id _ (by omega) (by omega)
theorem or_byte (v b : Nat) (hv : v * 256 < 18446744073709551616) (hb : b < 256) : Go.bits .or .u64 (IntKind.u64.wrap ((v : Int) * 2 ^ min (8 : Int).toNat IntKind.u64.bits)) (b : Int) = ((256 * v + b : Nat) : Int) := by
 have h1 : (2 : Int) ^ min (8 : Int).toNat IntKind.u64.bits = 256 := by decide
 rw [h1, u64_id _ (by omega) (by omega)]
 have e1 : ((v : Int) * 256) = ((v * 256 : Nat) : Int) := by omega
 rw [e1]
 have h3 : (v * 256) ||| b = 256 * v + b := by
  have := Nat.shiftLeft_add_eq_or_of_lt (i := 8) (b := b) (by omega) v
  rw [Nat.shiftLeft_eq] at this
  have e2 : (2 : Nat) ^ 8 = 256 := by decide
  rw [e2] at this
  omega
 rw [or_u64 _ _ (by omega) (by omega), h3]
def failR (e : Err) (sec k a : Int) : Err := bif e.isNil then inE sec (atE a (newE k)) else e
def needE (e : Err) (ok : Bool) (sec k a : Int) : Err := bif ok then e else failR e sec k a
theorem failR2_not (e : Err) (sec a : Int) : (failR e sec 2 a).isNil = false := by
 unfold failR
 cases h : e.isNil with
 | true => rfl
 | false => exact h
def rdOk (s : ByteArray) (a n : Int) (e : Err) : Bool := decide (n <= (s.size : Int) - a) && e.isNil
def rdE (s : ByteArray) (a n sec : Int) (e : Err) : Err := needE e (decide (n <= (s.size : Int) - a)) sec 2 a
theorem rdE_nil (s : ByteArray) (a n sec : Int) (e : Err) : (rdE s a n sec e).isNil = rdOk s a n e := by
 unfold rdE rdOk needE
 cases decide (n <= (s.size : Int) - a) with
 | true => rfl
 | false => exact failR2_not e sec a
def rdV (s : ByteArray) (a n : Int) (e : Err) : Int := bif rdOk s a n e then (beV s a.toNat n.toNat : Int) else 0
def rdAt (s : ByteArray) (a n : Int) (e : Err) : Int := bif rdOk s a n e then a + n else a
def rdT (s : ByteArray) (a n : Int) (e : Err) : ByteArray := bif rdOk s a n e then s.extract a.toNat (a + n).toNat else ⟨#[]⟩
theorem sizeOk_cases {n : Int} (h : sizeOk n = true) : n = 1 \/ n = 2 \/ n = 4 \/ n = 8 := by
 simp only [sizeOk, Bool.or_eq_true, beq_iff_eq] at h
 omega
theorem rdV_lt (s : ByteArray) (a : Int) (n : Nat) (e : Err) : 0 <= rdV s a n e /\ rdV s a n e < ((256 ^ n : Nat) : Int) := by
 unfold rdV
 have h1 := beV_lt s a.toNat n
 cases rdOk s a n e with
 | false =>
  show (0 : Int) <= 0 /\ (0 : Int) < ((256 ^ n : Nat) : Int)
  omega
 | true =>
  show 0 <= (beV s a.toNat (n : Int).toNat : Int) /\ (beV s a.toNat (n : Int).toNat : Int) < ((256 ^ n : Nat) : Int)
  rw [Int.toNat_natCast]
  omega
theorem u32_id (n : Int) (h0 : 0 <= n) (h1 : n < 4294967296) : IntKind.u32.wrap n = n := by
 unfold IntKind.wrap
 have e1 : ((2 : Int) ^ IntKind.u32.bits) = 4294967296 := by decide
 have e2 : IntKind.u32.signed = false := rfl
 rw [e1, e2]
 simp only [Bool.false_and, Bool.false_eq_true, if_false]
 omega
def beL : Nat -> Nat -> List UInt8
 | 0, _ => []
 | n + 1, v => UInt8.ofNat (v / 256 ^ n % 256) :: beL n v
theorem beL_len (v : Nat) : ∀ n, (beL n v).length = n
 | 0 => rfl
 | n + 1 => by rw [beL, List.length_cons, beL_len v n]
theorem u8_id (n : Int) (h0 : 0 <= n) (h1 : n < 256) : IntKind.u8.wrap n = n := by
 unfold IntKind.wrap
 have e1 : ((2 : Int) ^ IntKind.u8.bits) = 256 := by decide
 have e2 : IntKind.u8.signed = false := rfl
 rw [e1, e2]
 simp only [Bool.false_and, Bool.false_eq_true, if_false]
 omega
def getOk (s : ByteArray) (a n : Int) : Bool := sizeOk n && decide (0 <= a) && decide (a <= s.size) && decide (n <= (s.size : Int) - a)
def getV (s : ByteArray) (a n : Int) : Int := bif getOk s a n then (beV s a.toNat n.toNat : Int) else 0
end Go.Ab.T
namespace Go.Ab.T
open Go Go.Ab
abbrev F3 := Int × Int × Int
def rFail (f : F3) (sec k a : Int) : F3 := bif (f.1 == 0) && isCls k then (k, sec, a) else f
def nOk (s : ByteArray) (a n : Int) (f : F3) : Bool := (f.1 == 0) && getOk s a n
def nV (s : ByteArray) (a n : Int) (f : F3) : Int := bif nOk s a n f then (beV s a.toNat n.toNat : Int) else 0
def nAt (s : ByteArray) (a n : Int) (f : F3) : Int := bif nOk s a n f then a + n else a
def nF (s : ByteArray) (a n sec : Int) (f : F3) : F3 := bif getOk s a n then f else rFail f sec 2 a
def tOk (s : ByteArray) (a n : Int) (f : F3) : Bool := (f.1 == 0) && (decide (0 < n) && decide (n <= (s.size : Int) - a))
def tT (s : ByteArray) (a n : Int) (f : F3) : ByteArray := bif tOk s a n f then s.extract a.toNat (a + n).toNat else ⟨#[]⟩
def tAt (s : ByteArray) (a n : Int) (f : F3) : Int := bif tOk s a n f then a + n else a
def tF (s : ByteArray) (a n sec : Int) (f : F3) : F3 := bif decide (n <= 0) || decide (n <= (s.size : Int) - a) then f else rFail f sec 2 a
theorem rFail_bad {f : F3} (h : (f.1 == 0) = false) (sec k a : Int) : rFail f sec k a = f := by
 unfold rFail; rw [h]; rfl
inductive GoodE : Err -> Prop where
 | nil : GoodE .nil
 | spc (s a k : Int) (h : isCls k = true) : GoodE (.sec s (.plc a (.cls k)))
theorem GoodE.cases {e : Err} (h : GoodE e) : e = .nil \/ ∃ s a k, isCls k = true /\ e = .sec s (.plc a (.cls k)) := by
 cases h with
 | nil => exact .inl rfl
 | spc s a k h => exact .inr ⟨s, a, k, h, rfl⟩
theorem ofE_spc (s a k : Int) : ofE (.sec s (.plc a (.cls k))) = (k, s, a) := rfl
theorem isCls_ne {k : Int} (h : isCls k = true) : (k == 0) = false := by
 simp only [isCls, Bool.and_eq_true, decide_eq_true_eq] at h
 simp; omega
theorem GoodE.nil_iff {e : Err} (h : GoodE e) : ((ofE e).1 == 0) = e.isNil := by
 rcases h.cases with rfl | ⟨s, a, k, hk, rfl⟩
 ·rfl
 ·rw [ofE_spc]; exact isCls_ne hk
theorem GoodE.fail {e : Err} (h : GoodE e) (sec k a : Int) : GoodE (failR e sec k a) := by
 unfold failR
 cases hn : e.isNil with
 | false => exact h
 | true =>
  show GoodE (inE sec (atE a (newE k)))
  unfold newE
  cases hk : isCls k with
  | false => exact .nil
  | true => exact .spc sec a k hk
theorem GoodE.ofE_fail {e : Err} (h : GoodE e) (sec k a : Int) : ofE (failR e sec k a) = rFail (ofE e) sec k a := by
 unfold failR rFail
 rw [h.nil_iff]
 cases hn : e.isNil with
 | false => rfl
 | true =>
  show ofE (inE sec (atE a (newE k))) = _
  unfold newE
  cases hk : isCls k with
  | true => rfl
  | false =>
   rcases h.cases with rfl | ⟨s, a, k, hk, rfl⟩
   ·rfl
   ·cases hn
theorem GoodE.need {e : Err} (h : GoodE e) (t : Bool) (sec k a : Int) : GoodE (needE e t sec k a) := by
 unfold needE; cases t
 ·exact h.fail sec k a
 ·exact h
theorem GoodE.ofE_need {e : Err} (h : GoodE e) (t : Bool) (sec k a : Int) : ofE (needE e t sec k a) = bif t then ofE e else rFail (ofE e) sec k a := by
 unfold needE; cases t
 ·exact h.ofE_fail sec k a
 ·rfl
theorem GoodE.rd {e : Err} (h : GoodE e) (s : ByteArray) (a n sec : Int) : GoodE (rdE s a n sec e) := h.need _ _ _ _
section
variable {e : Err} (h : GoodE e) {s : ByteArray} {a n : Int}
include h
theorem GoodE.nOk (h0 : 0 <= a) (h1 : a <= s.size) (hn : sizeOk n = true) : nOk s a n (ofE e) = rdOk s a n e := by
 unfold Go.Ab.T.nOk rdOk getOk
 rw [h.nil_iff, hn]
 simp only [h0, h1, decide_true, Bool.true_and]
 exact Bool.and_comm _ _
theorem GoodE.nV (h0 : 0 <= a) (h1 : a <= s.size) (hn : sizeOk n = true) : nV s a n (ofE e) = rdV s a n e := by
 unfold Go.Ab.T.nV rdV; rw [h.nOk h0 h1 hn]
theorem GoodE.nAt (h0 : 0 <= a) (h1 : a <= s.size) (hn : sizeOk n = true) : nAt s a n (ofE e) = rdAt s a n e := by
 unfold Go.Ab.T.nAt rdAt; rw [h.nOk h0 h1 hn]
theorem GoodE.nF (sec : Int) (h0 : 0 <= a) (h1 : a <= s.size) (hn : sizeOk n = true) : nF s a n sec (ofE e) = ofE (rdE s a n sec e) := by
 unfold Go.Ab.T.nF rdE
 rw [h.ofE_need]
 have : getOk s a n = decide (n <= (s.size : Int) - a) := by
  unfold getOk; rw [hn]; simp only [h0, h1, decide_true, Bool.true_and]
 rw [this]
end
theorem rdAt_le {s : ByteArray} {a n : Int} {e : Err} (h0 : 0 <= a) (h1 : a <= s.size) (hn : 0 <= n) : 0 <= rdAt s a n e /\ rdAt s a n e <= s.size := by
 unfold rdAt
 cases h : rdOk s a n e with
 | false => exact ⟨h0, h1⟩
 | true =>
  simp only [rdOk, Bool.and_eq_true, decide_eq_true_eq] at h
  show 0 <= a + n /\ a + n <= (s.size : Int)
  omega
theorem rdOk_bad (s : ByteArray) (a n : Int) {e : Err} (h : e.isNil = false) : rdOk s a n e = false := by
 unfold rdOk; rw [h, Bool.and_false]
theorem rd_bad (s : ByteArray) (a n sec : Int) {e : Err} (h : e.isNil = false) : rdV s a n e = 0 /\ rdAt s a n e = a /\ rdT s a n e = ⟨#[]⟩ /\ rdE s a n sec e = e := by
 have h1 := rdOk_bad s a n h
 refine ⟨by rw [rdV, h1]; rfl, by rw [rdAt, h1]; rfl, by rw [rdT, h1]; rfl, ?_⟩
 unfold rdE needE failR
 rw [h]
 cases decide (n <= (s.size : Int) - a) <;> rfl
theorem rd_fits (s : ByteArray) (a n sec : Int) (h : n <= (s.size : Int) - a) : rdV s a n .nil = (beV s a.toNat n.toNat : Int) /\ rdAt s a n .nil = a + n /\ rdT s a n .nil = s.extract a.toNat (a + n).toNat /\ rdE s a n sec .nil = .nil := by
 have h0 : decide (n <= (s.size : Int) - a) = true := decide_eq_true h
 have h1 : rdOk s a n .nil = true := by unfold rdOk; rw [h0]; rfl
 refine ⟨by rw [rdV, h1]; rfl, by rw [rdAt, h1]; rfl, by rw [rdT, h1]; rfl, ?_⟩
 unfold rdE; rw [h0]; rfl
section
variable {e : Err} (h : GoodE e) {s : ByteArray} {a n : Int}
include h
theorem GoodE.tOk (hn : 0 < n) : tOk s a n (ofE e) = rdOk s a n e := by
 unfold Go.Ab.T.tOk rdOk
 rw [h.nil_iff, decide_eq_true hn, Bool.true_and, Bool.and_comm]
theorem GoodE.tAt (h1 : a <= s.size) : tAt s a n (ofE e) = rdAt s a (max n 0) e := by
 by_cases hn : 0 < n
 ·have : max n 0 = n := by omega
  unfold Go.Ab.T.tAt rdAt; rw [h.tOk hn, this]
 ·have h2 : max n 0 = 0 := by omega
  have h3 : decide (0 < n) = false := decide_eq_false hn
  unfold Go.Ab.T.tAt rdAt Go.Ab.T.tOk
  rw [h2, h3, Bool.false_and, Bool.and_false, Int.add_zero]
  cases rdOk s a 0 e <;> rfl
theorem GoodE.tT (h0 : 0 <= a) : ((rdT s a (max n 0) e).toList == (Go.Ab.T.tT s a n (ofE e)).toList) = true := by
 by_cases hn : 0 < n
 ·have : max n 0 = n := by omega
  unfold Go.Ab.T.tT rdT; rw [h.tOk hn, this]; simp
 ·have h2 : max n 0 = 0 := by omega
  have h3 : decide (0 < n) = false := decide_eq_false hn
  have h4 : Go.Ab.T.tT s a n (ofE e) = ⟨#[]⟩ := by unfold Go.Ab.T.tT Go.Ab.T.tOk; rw [h3, Bool.false_and, Bool.and_false]; rfl
  have h5 : (rdT s a 0 e).toList = [] := by
   unfold rdT
   cases rdOk s a 0 e with
   | false => rw [cond_false, ByteArray.toList_eq]
   | true =>
    rw [cond_true, Int.add_zero, ByteArray.toList_eq]
    have : (s.extract a.toNat a.toNat).size = 0 := by simp
    exact List.eq_nil_of_length_eq_zero (by simp)
  rw [h2, h4, h5, ByteArray.toList_eq]; rfl
theorem GoodE.tF (sec : Int) (h1 : a <= s.size) : tF s a n sec (ofE e) = ofE (rdE s a (max n 0) sec e) := by
 unfold Go.Ab.T.tF rdE
 rw [h.ofE_need]
 by_cases hn : 0 < n
 ·have h2 : max n 0 = n := by omega
  have h3 : decide (n <= 0) = false := decide_eq_false (by omega)
  rw [h2, h3, Bool.false_or]
 ·have h2 : max n 0 = 0 := by omega
  have h3 : decide (n <= 0) = true := decide_eq_true (by omega)
  have h4 : decide ((0 : Int) <= (s.size : Int) - a) = true := decide_eq_true (by omega)
  rw [h2, h3, h4]; rfl
end
theorem F3_eta (f : F3) : (f.1, f.2.1, f.2.2) = f := rfl
end Go.Ab.T
namespace Go.Ab.T
open Go Go.Ab
def letZ (b : Int) : Bool := decide (b >= 65) && decide (b <= 90)
def digZ (b : Int) : Bool := b == 95 || (decide (b >= 48) && decide (b <= 57))
def mayZ (b i : Int) : Bool := bif digZ b then !(i == 0) else letZ b
def rightFrom : List UInt8 -> Nat -> Bool
 | [], _ => true
 | b :: r, i => mayZ b.toNat i && rightFrom r (i + 1)
def rightN (s : ByteArray) : Bool := decide (1 <= (s.size : Int)) && (decide ((s.size : Int) <= 16) && rightFrom s.data.toList 0)
def allR : List UInt8 -> Bool
 | [] => true
 | b :: r => (letZ b.toNat || digZ b.toNat) && allR r
theorem bget (s : ByteArray) (i : Nat) : s[i]? = s.data.toList[i]? := by
 rcases Nat.lt_or_ge i s.size with h | h
 ·rw [ByteArray.getElem?_lt' s i h]
  have : i < s.data.toList.length := by simpa using h
  rw [List.getElem?_eq_getElem this]
  simp [ByteArray.getElem_eq_getElem_data]
 ·rw [ByteArray.getElem?_ge' s i (by omega)]
  rw [List.getElem?_eq_none (by simpa using h)]
theorem blen (s : ByteArray) : s.data.toList.length = s.size := by simp
theorem let_dig (b : Int) : (letZ b && digZ b) = false := by
 cases h : digZ b with
 | false => simp
 | true =>
  have h2 : letZ b = false := by
   simp only [digZ, Bool.or_eq_true, beq_iff_eq, Bool.and_eq_true, decide_eq_true_eq] at h
   simp only [letZ, Bool.and_eq_false_iff, decide_eq_false_iff_not]
   omega
  simp [h2]
theorem mayZ_zero (b : Int) : mayZ b 0 = letZ b := by
 have := let_dig b
 unfold mayZ
 cases h : digZ b with
 | false => rfl
 | true => rw [h, Bool.and_true] at this; rw [this]; rfl
theorem mayZ_succ (b : Int) (i : Nat) : mayZ b ((i + 1 : Nat) : Int) = (letZ b || digZ b) := by
 unfold mayZ
 have h0 : (((i + 1 : Nat) : Int) == 0) = false := beq_false_of_ne (by omega)
 rw [h0]
 cases digZ b <;> simp
theorem rightFrom_succ : ∀ (l : List UInt8) (i : Nat), rightFrom l (i + 1) = allR l
 | [], _ => rfl
 | b :: r, i => by rw [rightFrom, allR, mayZ_succ, rightFrom_succ r (i + 1)]
theorem rightN_ref (s : ByteArray) : rightN s = (!(s.toList == ByteArray.toList ⟨#[]⟩) && (decide ((s.size : Int) <= 16) && (letZ (byteAt s 0) && allR s.data.toList))) := by
 rw [ByteArray.toList_eq, ByteArray.toList_eq]
 unfold rightN byteAt
 have hl := blen s
 cases hs : s.data.toList with
 | nil =>
  rw [hs] at hl
  have : decide (1 <= (s.size : Int)) = false := decide_eq_false (by simp at hl; omega)
  rw [this]; rfl
 | cons b r =>
  rw [hs] at hl
  have : decide (1 <= (s.size : Int)) = true := decide_eq_true (by simp at hl; omega)
  have e0 : (((0 : Nat)) : Int) = 0 := rfl
  rw [this, rightFrom, rightFrom_succ, e0, mayZ_zero, allR]
  show (true && _) = (true && _)
  simp only [Bool.true_and, List.getD_cons_zero]
  cases letZ (b.toNat : Int) <;> simp
def nmK (s : ByteArray) (a sec : Int) (e : Err) : Err := needE (rdE s a 1 sec e) (decide (rdV s a 1 e >= 1) && decide (rdV s a 1 e <= 16)) sec 7 a
def nmE (s : ByteArray) (a sec : Int) (e : Err) : Err := bif (nmK s a sec e).isNil then needE (rdE s (rdAt s a 1 e) (max (rdV s a 1 e) 0) sec (nmK s a sec e)) (rightN (rdT s (rdAt s a 1 e) (max (rdV s a 1 e) 0) (nmK s a sec e))) sec 7 a else nmK s a sec e
def nmAt (s : ByteArray) (a sec : Int) (e : Err) : Int := bif (nmK s a sec e).isNil then rdAt s (rdAt s a 1 e) (max (rdV s a 1 e) 0) (nmK s a sec e) else rdAt s a 1 e
def nmT (s : ByteArray) (a sec : Int) (e : Err) : ByteArray := bif (nmE s a sec e).isNil then rdT s (rdAt s a 1 e) (max (rdV s a 1 e) 0) (nmK s a sec e) else ⟨#[]⟩
def toE (f : F3) : Err := bif f.1 == 0 then .nil else .sec f.2.1 (.plc f.2.2 (.cls f.1))
theorem GoodE.toE {e : Err} (h : GoodE e) : toE (ofE e) = e := by
 rcases h.cases with rfl | ⟨s, a, k, hk, rfl⟩
 ·rfl
 ·unfold Go.Ab.T.toE; rw [ofE_spc, isCls_ne hk]; rfl
inductive GoodF : F3 -> Prop where
 | mk {e : Err} (h : GoodE e) : GoodF (ofE e)
theorem GoodF.ex {f : F3} (h : GoodF f) : ∃ e, GoodE e /\ f = ofE e := by cases h with | mk h => exact ⟨_, h, rfl⟩
theorem failR_bad {e : Err} (h : e.isNil = false) (sec k a : Int) : failR e sec k a = e := by unfold failR; rw [h]; rfl
theorem needE_bad {e : Err} (h : e.isNil = false) (t : Bool) (sec k a : Int) : needE e t sec k a = e := by
 unfold needE; rw [failR_bad h]; cases t <;> rfl
theorem isNil_eq {e : Err} (h : e.isNil = true) : e = .nil := by cases e <;> first | rfl | cases h
theorem nmK_good {e : Err} (h : GoodE e) (s : ByteArray) (a sec : Int) : GoodE (nmK s a sec e) := (h.rd s a 1 sec).need _ _ _ _
theorem nmE_good {e : Err} (h : GoodE e) (s : ByteArray) (a sec : Int) : GoodE (nmE s a sec e) := by
 unfold nmE
 cases (nmK s a sec e).isNil with
 | false => exact nmK_good h s a sec
 | true => exact ((nmK_good h s a sec).rd _ _ _ _).need _ _ _ _
theorem nmAt_le {s : ByteArray} {a : Int} {e : Err} (sec : Int) (h0 : 0 <= a) (h1 : a <= s.size) : 0 <= nmAt s a sec e /\ nmAt s a sec e <= s.size := by
 obtain ⟨q0, q1⟩ := rdAt_le (e := e) (n := 1) h0 h1 (by omega)
 unfold nmAt
 cases (nmK s a sec e).isNil with
 | false => exact ⟨q0, q1⟩
 | true => exact rdAt_le q0 q1 (by omega)
end Go.Ab.T
namespace Go.Ab.T
open Go Go.Ab
theorem beL_get (v : Nat) : ∀ (n i : Nat), i < n -> (beL n v)[i]? = some (UInt8.ofNat (v / 256 ^ (n - 1 - i) % 256))
 | 0, i, h => absurd h (Nat.not_lt_zero _)
 | n + 1, 0, _ => by rw [beL]; simp
 | n + 1, i + 1, h => by
  have e : n + 1 - 1 - (i + 1) = n - 1 - i := by omega
  rw [beL, e, List.getElem?_cons_succ, beL_get v n i (by omega)]
theorem beV_step (u m : Nat) : 256 * (u / 256 % 256 ^ m) + u % 256 = u % 256 ^ (m + 1) := by
 have := Nat.mod_mul (x := u) (a := 256) (b := 256 ^ m)
 rw [Nat.pow_succ, Nat.mul_comm (256 ^ m) 256, this]; omega
theorem ofNat_toNat (x : Nat) : (UInt8.ofNat (x % 256)).toNat = x % 256 := by rw [UInt8.toNat_ofNat']; omega
theorem beV_of {S : ByteArray} {a n v : Nat} (h : ∀ i, i < n -> byteAt S (a + i) = v / 256 ^ (n - 1 - i) % 256) : ∀ m, m <= n -> beV S a m = v / 256 ^ (n - m) % 256 ^ m
 | 0, _ => by rw [beV]; simp [Nat.mod_one]
 | m + 1, hm => by
  rw [beV, beV_of h m (by omega), h m (by omega)]
  have e1 : n - m = (n - 1 - m) + 1 := by omega
  have e2 : n - (m + 1) = n - 1 - m := by omega
  rw [e1, e2, Nat.pow_succ, <- Nat.div_div_eq_div_mul]
  exact beV_step _ m
end Go.Ab.T
namespace Go.Ab.T
open Go Go.Ab
theorem push_fold (l : List UInt8) : ∀ r : ByteArray, (l.map e_uint8).foldl (fun r x => r.push (UInt8.ofNat (pvNat x))) r = r ++ ⟨l.toArray⟩ := by
 induction l with
 | nil => intro r; apply ByteArray.ext; simp
 | cons b l ih =>
  intro r
  rw [List.map_cons, List.foldl_cons, ih]
  have h1 : UInt8.ofNat (pvNat (e_uint8 b)) = b := by
   show UInt8.ofNat ((b.toNat : Int).toNat) = b
   rw [Int.toNat_natCast, UInt8.ofNat_toNat]
  rw [h1]
  apply ByteArray.ext
  simp
theorem strPV_e (l : List UInt8) : strPV (l.map e_uint8) = ⟨l.toArray⟩ := by
 rw [strPV, push_fold]; apply ByteArray.ext; simp
theorem mk_size (l : List UInt8) : (ByteArray.mk l.toArray).size = l.length := by
 show l.toArray.size = _; simp
end Go.Ab.T
namespace Go.Ab.T
open Go Go.Ab
def fitsV (v n : Int) : Bool := sizeOk n && decide (v < ((256 ^ n.toNat : Nat) : Int))
def putV (l : List UInt8) (v n : Int) : List UInt8 := bif fitsV v n then l ++ beL n.toNat v.toNat else l
theorem fitsV_bad {v n : Int} (h : sizeOk n = false) : fitsV v n = false := by unfold fitsV; rw [h]; rfl
theorem fitsV_size {v n : Int} (h : fitsV v n = true) : sizeOk n = true := by
 unfold fitsV at h; simp only [Bool.and_eq_true] at h; exact h.1
theorem fdiv_beq_zero (v : Int) (p : Int) (hv : 0 <= v) (hp : 0 < p) : (v.fdiv p == 0) = decide (v < p) := by
 rw [Int.fdiv_eq_ediv_of_nonneg v (by omega)]
 have h : v / p = 0 ↔ v < p := by
  constructor
  ·intro h
   have := Int.lt_ediv_add_one_mul_self v hp
   rw [h] at this; omega
  ·intro h; exact Int.ediv_eq_zero_of_lt hv h
 rw [Bool.eq_iff_iff, beq_iff_eq, decide_eq_true_eq]; exact h
theorem fitsV_ok {v n : Int} (hs : sizeOk n = true) (h0 : 0 <= v) (h1 : v < 18446744073709551616) :
 (0 <= sizeB n /\ (v.fdiv (2 ^ min (sizeB n).toNat IntKind.u64.bits) == 0) = fitsV v n) /\ ((sizeB n == 64) = true -> fitsV v n = true) := by
 have hz : sizeB n = 8 * n := by unfold sizeB; rw [hs]; rfl
 have hp : ∀ p : Nat, ((2 : Int) ^ p) = ((2 ^ p : Nat) : Int) := fun p => by simp
 have hf : fitsV v n = decide (v < ((256 ^ n.toNat : Nat) : Int)) := by unfold fitsV; rw [hs]; rfl
 rw [hf, hz]
 rcases sizeOk_cases hs with rfl | rfl | rfl | rfl
 all_goals
  refine ⟨⟨by decide, ?_⟩, ?_⟩
  ·rw [fdiv_beq_zero v _ h0 (by decide)]; rfl
 ·intro h; exact absurd h (by decide)
 ·intro h; exact absurd h (by decide)
 ·intro h; exact absurd h (by decide)
 ·intro _; exact decide_eq_true (by show v < ((256 ^ 8 : Nat) : Int); have : ((256 ^ 8 : Nat) : Int) = 18446744073709551616 := by decide
                                    omega)
theorem u8_wrap (n : Nat) : IntKind.u8.wrap (n : Int) = ((n % 256 : Nat) : Int) := by
 unfold IntKind.wrap
 have e1 : ((2 : Int) ^ IntKind.u8.bits) = 256 := by decide
 have e2 : IntKind.u8.signed = false := rfl
 rw [e1, e2]
 simp only [Bool.false_and, Bool.false_eq_true, if_false]
 omega
theorem shr_byte (v m : Nat) (hm : m < 8) : ((v : Int).fdiv (2 ^ min (IntKind.i64.wrap ((8 : Int) * (m : Int))).toNat IntKind.u64.bits)) = ((v / 256 ^ m : Nat) : Int) := by
 rw [wrap_id _ (by omega) (by omega)]
 have e : (8 * (m : Int)).toNat = 8 * m := by omega
 have e2 : min (8 * m) IntKind.u64.bits = 8 * m := by show min (8 * m) 64 = _; omega
 have e3 : ((2 : Int) ^ (8 * m)) = ((256 ^ m : Nat) : Int) := by
  rw [Int.pow_mul]; simp
 rw [e, e2, e3, Int.fdiv_eq_ediv_of_nonneg _ (Int.natCast_nonneg _)]
 simp
end Go.Ab.T
namespace Go.Ab.T
open Go Go.Ab
abbrev RS := Int × Err
def hM (s : ByteArray) (c : Int) (x : RS) : RS := (rdAt s x.1 1 x.2, needE (rdE s x.1 1 1 x.2) (rdV s x.1 1 x.2 == c) 1 3 x.1)
def hR (s : ByteArray) (n : Int) (x : RS) : RS := (rdAt s x.1 n x.2, rdE s x.1 n 1 x.2)
def hN (s : ByteArray) (n lo hi : Int) (x : RS) : RS := (rdAt s x.1 n x.2, needE (rdE s x.1 n 1 x.2) (decide (rdV s x.1 n x.2 >= lo) && decide (rdV s x.1 n x.2 <= hi)) 1 8 x.1)
def hx4 (s : ByteArray) (x : RS) : RS := hM s 49 (hM s 77 (hM s 87 (hM s 67 x)))
def hx5 (s : ByteArray) (x : RS) : RS := hR s 4 (hx4 s x)
def hx6 (s : ByteArray) (x : RS) : RS := hR s 8 (hx5 s x)
def hx7 (s : ByteArray) (x : RS) : RS := hR s 1 (hx6 s x)
def hx8 (s : ByteArray) (x : RS) : RS := hN s 1 1 32 (hx7 s x)
def hx9 (s : ByteArray) (x : RS) : RS := hN s 1 1 16 (hx8 s x)
def hx10 (s : ByteArray) (x : RS) : RS := hN s 2 0 240 (hx9 s x)
def hx11 (s : ByteArray) (x : RS) : RS := hN s 2 0 512 (hx10 s x)
def hIn (s : ByteArray) (x : RS) : Prop := 0 <= x.1 /\ x.1 <= (s.size : Int)
def hV (s : ByteArray) (n : Int) (x y : RS) : Int := bif x.2.isNil then rdV s y.1 n y.2 else 0
theorem hIn.m {s : ByteArray} {x : RS} (c : Int) (h : hIn s x) : hIn s (hM s c x) := rdAt_le h.1 h.2 (by omega)
theorem hIn.r {s : ByteArray} {x : RS} {n : Int} (hn : 0 <= n) (h : hIn s x) : hIn s (hR s n x) := rdAt_le h.1 h.2 hn
theorem hIn.n {s : ByteArray} {x : RS} {n lo hi : Int} (hn : 0 <= n) (h : hIn s x) : hIn s (hN s n lo hi x) := rdAt_le h.1 h.2 hn
end Go.Ab.T
namespace Go.Ab.T
open Go Go.Ab
def mostQ (i : Int) : Int := bif i == 1 then 32 else bif i == 2 then 16 else bif i == 3 then 240 else bif i == 4 then 512 else 0
def fineQ (i n : Int) : Bool := decide (n <= mostQ i) && (decide (n >= 1) || (decide (i >= 3) && (n == 0)))
theorem mostQ_get {i y : Int} (h0 : 0 <= i) (h1 : i < 5) (hy : ([0, 32, 16, 240, 512] : List Int)[i.toNat]? = some y) : y = mostQ i := by
 have : i = 0 \/ i = 1 \/ i = 2 \/ i = 3 \/ i = 4 := by omega
 rcases this with rfl | rfl | rfl | rfl | rfl <;> exact (Option.some.inj hy).symm
theorem fineQ_1 {v : Int} (h : 0 <= v) : fineQ 1 v = (decide (v >= 1) && decide (v <= 32)) := by
 have e : mostQ 1 = 32 := rfl
 have e2 : decide ((1 : Int) >= 3) = false := rfl
 unfold fineQ; rw [e, e2, Bool.false_and, Bool.or_false, Bool.and_comm]
theorem fineQ_2 {v : Int} (h : 0 <= v) : fineQ 2 v = (decide (v >= 1) && decide (v <= 16)) := by
 have e : mostQ 2 = 16 := rfl
 have e2 : decide ((2 : Int) >= 3) = false := rfl
 unfold fineQ; rw [e, e2, Bool.false_and, Bool.or_false, Bool.and_comm]
theorem fineQ_hi {i v m : Int} (h : 0 <= v) (hi : decide (i >= 3) = true) (e : mostQ i = m) : fineQ i v = (decide (v >= 0) && decide (v <= m)) := by
 unfold fineQ; rw [e, hi, Bool.true_and]
 have h1 : (decide (v >= 1) || v == 0) = true := by
  rw [Bool.or_eq_true, decide_eq_true_eq, beq_iff_eq]; omega
 have h2 : decide (v >= 0) = true := decide_eq_true h
 rw [h1, h2, Bool.and_true, Bool.true_and]
theorem fineQ_3 {v : Int} (h : 0 <= v) : fineQ 3 v = (decide (v >= 0) && decide (v <= 240)) := fineQ_hi h rfl rfl
theorem fineQ_4 {v : Int} (h : 0 <= v) : fineQ 4 v = (decide (v >= 0) && decide (v <= 512)) := fineQ_hi h rfl rfl
end Go.Ab.T
namespace Go.Ab.T
open Go Go.Ab
def Has (S : ByteArray) (a : Nat) (l : List UInt8) : Prop := ∃ pre post, S.data.toList = pre ++ (l ++ post) /\ pre.length = a
theorem Has.left {S : ByteArray} {a : Nat} {l m : List UInt8} (h : Has S a (l ++ m)) : Has S a l := by
 obtain ⟨p, q, h1, h2⟩ := h
 exact ⟨p, m ++ q, by rw [h1, List.append_assoc], h2⟩
theorem Has.right {S : ByteArray} {a : Nat} {l m : List UInt8} (h : Has S a (l ++ m)) : Has S (a + l.length) m := by
 obtain ⟨p, q, h1, h2⟩ := h
 exact ⟨p ++ l, q, by rw [h1]; simp, by rw [List.length_append, h2]⟩
theorem Has.size {S : ByteArray} {a : Nat} {l : List UInt8} (h : Has S a l) : a + l.length <= S.size := by
 obtain ⟨p, q, h1, h2⟩ := h
 have h3 : S.data.toList.length = S.size := by simp
 rw [<- h3, h1]; simp; omega
theorem Has.byte {S : ByteArray} {a : Nat} {l : List UInt8} (h : Has S a l) {i : Nat} {b : UInt8} (hi : l[i]? = some b) : byteAt S (a + i) = b.toNat := by
 obtain ⟨p, q, h1, h2⟩ := h
 unfold byteAt
 rw [h1, List.getD_eq_getElem?_getD, List.getElem?_append_right (by omega), List.getElem?_append_left (by
  have := (List.getElem?_eq_some_iff.1 hi).1; omega)]
 have e : a + i - p.length = i := by omega
 rw [e, hi]; rfl
theorem Has.num {S : ByteArray} {a n v : Nat} (h : Has S a (beL n v)) (hv : v < 256 ^ n) : beV S a n = v := by
 have := beV_of (S := S) (a := a) (n := n) (v := v) (fun i hi => by
  rw [h.byte (beL_get v n i hi)]; exact ofNat_toNat _) n (Nat.le_refl _)
 rw [this, Nat.sub_self, Nat.pow_zero, Nat.div_one, Nat.mod_eq_of_lt hv]
theorem Has.rd {S : ByteArray} {a n v : Nat} (h : Has S a (beL n v)) (hv : v < 256 ^ n) {x y : Int} (hx : x = (a : Int)) (hy : y = (n : Int)) :
 rdV S x y .nil = (v : Int) /\ rdAt S x y .nil = ((a + n : Nat) : Int) /\ ∀ sec, rdE S x y sec .nil = .nil := by
 subst hx hy
 have hs := h.size
 rw [beL_len] at hs
 refine ⟨?_, ?_, fun sec => ?_⟩
 ·obtain ⟨g1, _⟩ := rd_fits S (a : Int) (n : Int) 0 (by omega)
  rw [g1, Int.toNat_natCast, Int.toNat_natCast, h.num hv]
 ·obtain ⟨_, g2, _⟩ := rd_fits S (a : Int) (n : Int) 0 (by omega)
  rw [g2]; omega
 ·exact (rd_fits S (a : Int) (n : Int) sec (by omega)).2.2.2
theorem beL_beV (S : ByteArray) (a : Nat) : ∀ n, a + n <= S.size -> beL n (beV S a n) = (S.data.toList.drop a).take n := by
 have gen : ∀ n, a + n <= S.size -> ∀ i, i < n -> (beL n (beV S a n))[i]? = S.data.toList[a + i]? := by
  intro n
  induction n with
  | zero => intro _ i hi; omega
  | succ n ih =>
   intro hn i hi
   have hlen : S.data.toList.length = S.size := by simp
   have hget : S.data.toList[a + i]? = some (UInt8.ofNat (byteAt S (a + i))) := by
    unfold byteAt
    have hlt : a + i < S.data.toList.length := by omega
    rw [List.getD_eq_getElem?_getD, List.getElem?_eq_getElem hlt]
    simp
   rw [hget, beL_get _ _ _ hi]
   congr 1
   have hb := byteAt_lt S (a + n)
   rcases Nat.lt_or_ge i n with h | h
   ·have e := ih (by omega) i h
    rw [hget, beL_get _ _ _ h] at e
    have e2 : n + 1 - 1 - i = (n - 1 - i) + 1 := by omega
    have e3 : beV S a (n + 1) / 256 ^ (n - 1 - i + 1) = beV S a n / 256 ^ (n - 1 - i) := by
     rw [Nat.pow_succ, Nat.mul_comm, <- Nat.div_div_eq_div_mul, beV]
     congr 1; omega
    rw [e2, e3]
    exact Option.some.inj e
   ·have : i = n := by omega
    subst this
    rw [Nat.add_sub_cancel, Nat.sub_self, Nat.pow_zero, Nat.div_one, beV]
    congr 1; omega
 intro n hn
 apply List.ext_getElem?
 intro i
 rcases Nat.lt_or_ge i n with h | h
 ·rw [gen n hn i h, List.getElem?_take, if_pos h, List.getElem?_drop]
 ·rw [List.getElem?_eq_none (by rw [beL_len]; exact h), List.getElem?_eq_none (by simp; omega)]
end Go.Ab.T
namespace Go.Ab.T
open Go Go.Ab
theorem fineQ_1' {v : Int} : fineQ 1 v = (decide (v >= 1) && decide (v <= 32)) := by
 have e : mostQ 1 = 32 := rfl
 have e2 : decide ((1 : Int) >= 3) = false := rfl
 unfold fineQ; rw [e, e2, Bool.false_and, Bool.or_false, Bool.and_comm]
theorem fineQ_2' {v : Int} : fineQ 2 v = (decide (v >= 1) && decide (v <= 16)) := by
 have e : mostQ 2 = 16 := rfl
 have e2 : decide ((2 : Int) >= 3) = false := rfl
 unfold fineQ; rw [e, e2, Bool.false_and, Bool.or_false, Bool.and_comm]
theorem fineQ_hi' {i v m : Int} (hi : decide (i >= 3) = true) (e : mostQ i = m) : fineQ i v = (decide (v >= 0) && decide (v <= m)) := by
 unfold fineQ; rw [e, hi, Bool.true_and]
 have h1 : (decide (v >= 1) || v == 0) = decide (v >= 0) := by
  rw [Bool.eq_iff_iff, Bool.or_eq_true, decide_eq_true_eq, beq_iff_eq, decide_eq_true_eq]; omega
 rw [h1, Bool.and_comm]
theorem fineQ_3' {v : Int} : fineQ 3 v = (decide (v >= 0) && decide (v <= 240)) := fineQ_hi' rfl rfl
theorem fineQ_4' {v : Int} : fineQ 4 v = (decide (v >= 0) && decide (v <= 512)) := fineQ_hi' rfl rfl
def hdrE (f p s r a : Int) : Err :=
 bif decide (f < 0) || decide (f > 255) then .sec 1 (.plc 0 (.cls 18)) else
 bif !fineQ 1 p then .sec 1 (.plc 1 (.cls 8)) else bif !fineQ 2 s then .sec 1 (.plc 2 (.cls 8)) else
 bif !fineQ 3 r then .sec 1 (.plc 3 (.cls 8)) else bif !fineQ 4 a then .sec 1 (.plc 4 (.cls 8)) else .nil
def hdrOk (h0 h1 h2 h3 h4 h5 h6 : Int) : Prop := (0 <= h0 /\ h0 < 4294967296 /\ 0 <= h1 /\ h1 < 18446744073709551616) /\ (hdrE h2 h3 h4 h5 h6).isNil = true
def hdrL (h0 h1 h2 h3 h4 h5 h6 : Int) : List UInt8 := [67, 87, 77, 49] ++ (beL 4 h0.toNat ++ (beL 8 h1.toNat ++ (beL 1 h2.toNat ++ (beL 1 h3.toNat ++ (beL 1 h4.toNat ++ (beL 2 h5.toNat ++ beL 2 h6.toNat))))))
theorem hdrE_ok {f p s r a : Int} (h : (hdrE f p s r a).isNil = true) : (decide (f < 0) || decide (f > 255)) = false /\ fineQ 1 p = true /\ fineQ 2 s = true /\ fineQ 3 r = true /\ fineQ 4 a = true := by
 unfold hdrE at h
 cases c1 : decide (f < 0) || decide (f > 255) <;> cases c2 : fineQ 1 p <;> cases c3 : fineQ 2 s <;> cases c4 : fineQ 3 r <;> cases c5 : fineQ 4 a <;> simp only [c1, c2, c3, c4, c5] at h <;> first | exact ⟨rfl, rfl, rfl, rfl, rfl⟩ | cases h
theorem hdrOk_bounds {h0 h1 h2 h3 h4 h5 h6 : Int} (h : hdrOk h0 h1 h2 h3 h4 h5 h6) : (0 <= h0 /\ h0 < 4294967296 /\ 0 <= h1 /\ h1 < 18446744073709551616) /\ (0 <= h2 /\ h2 < 256) /\ (0 <= h3 /\ h3 < 256) /\ (0 <= h4 /\ h4 < 256) /\ (0 <= h5 /\ h5 < 65536) /\ 0 <= h6 /\ h6 < 65536 := by
 obtain ⟨h, hn⟩ := h
 obtain ⟨c1, c2, c3, c4, c5⟩ := hdrE_ok hn
 rw [fineQ_1'] at c2
 rw [fineQ_2'] at c3
 rw [fineQ_3'] at c4
 rw [fineQ_4'] at c5
 simp only [Bool.or_eq_false_iff, Bool.and_eq_true, decide_eq_true_eq, decide_eq_false_iff_not] at c1 c2 c3 c4 c5
 exact ⟨h, by omega, by omega, by omega, by omega, by omega⟩
def putAll (l : List UInt8) (zs : List (Int × Int)) : List UInt8 := zs.foldl (fun l y => putV l y.1 y.2) l
theorem putV_len (l : List UInt8) (v n : Int) : (putV l v n).length <= l.length + 8 := by
 unfold putV
 cases h : fitsV v n with
 | false => show l.length <= _; omega
 | true =>
  show (l ++ beL n.toNat v.toNat).length <= _
  rw [List.length_append, beL_len]
  rcases sizeOk_cases (fitsV_size h) with h | h | h | h <;> omega
theorem putV_ok (l : List UInt8) {v n : Int} (hn : sizeOk n = true) (hv : v < ((256 ^ n.toNat : Nat) : Int)) : putV l v n = l ++ beL n.toNat v.toNat := by
 unfold putV fitsV; rw [hn, decide_eq_true hv]; rfl
theorem putAll_hdr {l : List UInt8} {h0 h1 h2 h3 h4 h5 h6 : Int} (a0 : 0 <= h0) (a1 : h0 < 4294967296) (a2 : 0 <= h1) (a3 : h1 < 18446744073709551616) (b2 : 0 <= h2 /\ h2 < 256) (b3 : 0 <= h3 /\ h3 < 256) (b4 : 0 <= h4 /\ h4 < 256) (b5 : 0 <= h5 /\ h5 < 65536) (b6 : 0 <= h6 /\ h6 < 65536) :
 putAll (l ++ [67, 87, 77, 49]) [(h0, 4), (h1, 8), (h2, 1), (h3, 1), (h4, 1), (h5, 2), (h6, 2)] = l ++ hdrL h0 h1 h2 h3 h4 h5 h6 := by
 have p1 : ((256 ^ Int.toNat 1 : Nat) : Int) = 256 := by decide
 have p2 : ((256 ^ Int.toNat 2 : Nat) : Int) = 65536 := by decide
 have p4 : ((256 ^ Int.toNat 4 : Nat) : Int) = 4294967296 := by decide
 have p8 : ((256 ^ Int.toNat 8 : Nat) : Int) = 18446744073709551616 := by decide
 unfold putAll
 simp only [List.foldl_cons, List.foldl_nil]
 rw [putV_ok _ rfl (by rw [p2]; omega), putV_ok _ rfl (by rw [p2]; omega), putV_ok _ rfl (by rw [p1]; omega), putV_ok _ rfl (by rw [p1]; omega), putV_ok _ rfl (by rw [p1]; omega), putV_ok _ rfl (by rw [p8]; omega), putV_ok _ rfl (by rw [p4]; omega)]
 unfold hdrL
 have e1 : Int.toNat 1 = 1 := rfl
 have e2 : Int.toNat 2 = 2 := rfl
 have e4 : Int.toNat 4 = 4 := rfl
 have e8 : Int.toNat 8 = 8 := rfl
 rw [e1, e2, e4, e8]
 simp only [List.append_assoc]
end Go.Ab.T
namespace Go.Ab.T
open Go Go.Ab
end Go.Ab.T
namespace Go.Ab.T
open Go Go.Ab
abbrev W3 := Int × Int × Int
abbrev Sch := Int × Int × List W3 × List W3
def wiV (v a b : Int) : Bool := decide (v >= a) && decide (v <= b)
theorem wiV_iff {v a b : Int} : wiV v a b = true ↔ a <= v /\ v <= b := by
 unfold wiV; rw [Bool.and_eq_true, decide_eq_true_eq, decide_eq_true_eq]
def okW (w : W3) : Bool := wiV w.1 0 255 && (wiV w.2.1 0 1048576 && wiV w.2.2 0 1048576)
def rowsR (l : List W3) : Bool := l.all okW
def schR (x : Sch) : Int :=
 bif !wiV x.1 0 255 then 18 else bif !wiV x.2.1 1 1048576 then 18 else bif decide ((x.2.2.1.length : Int) > 256) then 8 else bif !rowsR x.2.2.1 then 18 else
 bif decide ((x.2.2.2.length : Int) > 32) then 8 else bif !rowsR x.2.2.2 then 18 else 0
def rowB (w : W3) : List UInt8 := beL 1 w.1.toNat ++ (beL 4 w.2.1.toNat ++ beL 4 w.2.2.toNat)
def rowsB : List W3 -> List UInt8
 | [] => []
 | w :: r => rowB w ++ rowsB r
def addN (l : List UInt8) (v n : Int) : List UInt8 := l ++ beL n.toNat v.toNat
def addR (l : List UInt8) (ws : List W3) : List UInt8 := l ++ rowsB ws
def schB (x : Sch) : List UInt8 := beL 1 x.1.toNat ++ (beL 4 x.2.1.toNat ++ (beL 2 x.2.2.1.length ++ (rowsB x.2.2.1 ++ (beL 1 x.2.2.2.length ++ rowsB x.2.2.2))))
def schsB : List Sch -> List UInt8
 | [] => []
 | x :: r => schB x ++ schsB r
theorem rowB_len (w : W3) : (rowB w).length = 9 := by unfold rowB; simp only [List.length_append, beL_len]
theorem rowsB_len : ∀ l : List W3, (rowsB l).length = 9 * l.length
 | [] => rfl
 | w :: l => by rw [rowsB, List.length_append, rowB_len, rowsB_len l, List.length_cons]; omega
def schE1 (p : Option Int) (x : Sch) : Int := bif schR x == 0 && (match p with | some i => decide (x.1 <= i) | none => false) then 9 else schR x
def schsE : Option Int -> Nat -> List Sch -> Err
 | _, _, [] => .nil
 | p, i, x :: r => bif schE1 p x == 0 then schsE (some x.1) (i + 1) r else .sec 3 (.plc (i : Int) (.cls (schE1 p x)))
theorem schR_cases (x : Sch) : schR x = 0 \/ schR x = 8 \/ schR x = 18 := by
 unfold schR
 cases wiV x.1 0 255 <;> cases wiV x.2.1 1 1048576 <;> cases decide ((x.2.2.1.length : Int) > 256) <;> cases rowsR x.2.2.1 <;> cases decide ((x.2.2.2.length : Int) > 32) <;> cases rowsR x.2.2.2 <;> simp
def OkS (x : Sch) : Prop := (0 <= x.1 /\ x.1 <= 255) /\ (1 <= x.2.1 /\ x.2.1 <= 1048576) /\ x.2.2.1.length <= 256 /\ (∀ w, w ∈ x.2.2.1 -> okW w = true) /\ x.2.2.2.length <= 32 /\ ∀ w, w ∈ x.2.2.2 -> okW w = true
theorem schR_ok {x : Sch} (h : schR x = 0) : OkS x := by
 unfold schR at h
 cases c1 : wiV x.1 0 255 <;> cases c2 : wiV x.2.1 1 1048576 <;> cases c3 : decide ((x.2.2.1.length : Int) > 256) <;> cases c4 : rowsR x.2.2.1 <;> cases c5 : decide ((x.2.2.2.length : Int) > 32) <;> cases c6 : rowsR x.2.2.2 <;>
  simp only [c1, c2, c3, c4, c5, c6, Bool.not_true, Bool.not_false, cond_true, cond_false] at h <;> first | (exfalso; omega) | skip
 rw [decide_eq_false_iff_not] at c3 c5
 rw [wiV_iff] at c1 c2
 exact ⟨by omega, by omega, by omega, List.all_eq_true.1 c4, by omega, List.all_eq_true.1 c6⟩
theorem schE1_zero {p : Option Int} {x : Sch} (h : schE1 p x = 0) : schR x = 0 /\ ∀ i, p = some i -> i < x.1 := by
 unfold schE1 at h
 cases c1 : schR x == 0 with
 | false => rw [c1] at h; rw [beq_eq_false_iff_ne] at c1; exact absurd h c1
 | true =>
  refine ⟨eq_of_beq c1, ?_⟩
  rintro i rfl
  rw [c1] at h
  cases c2 : decide (x.1 <= i) with
  | true => simp only [c2] at h; exact absurd (show (9 : Int) = 0 from h) (by decide)
  | false => rw [decide_eq_false_iff_not] at c2; omega
theorem okW_b {w : W3} (h : okW w = true) : (0 <= w.1 /\ w.1 <= 255) /\ (0 <= w.2.1 /\ w.2.1 <= 1048576) /\ 0 <= w.2.2 /\ w.2.2 <= 1048576 := by
 unfold okW at h
 simp only [Bool.and_eq_true, wiV_iff] at h
 exact ⟨h.1, h.2.1, h.2.2⟩
theorem addN_1 (l : List UInt8) (v : Int) : (addN l v 1).length = l.length + 1 := by unfold addN; rw [List.length_append, beL_len]; rfl
theorem addN_2 (l : List UInt8) (v : Int) : (addN l v 2).length = l.length + 2 := by unfold addN; rw [List.length_append, beL_len]; rfl
theorem addN_4 (l : List UInt8) (v : Int) : (addN l v 4).length = l.length + 4 := by unfold addN; rw [List.length_append, beL_len]; rfl
theorem addR_len (l : List UInt8) (ws : List W3) : (addR l ws).length = l.length + 9 * ws.length := by unfold addR; rw [List.length_append, rowsB_len]
def outS (b : List UInt8) (e : Err) (out rest : List UInt8) : List UInt8 := bif e.isNil then out ++ rest else b
def prevS (l : List Sch) : Nat -> Option Int
 | 0 => none
 | i + 1 => (l[i]?).map (·.1)
theorem sch_bytes (out : List UInt8) (y : Sch) (r : List UInt8) (b : List UInt8) (e : Err) :
 outS b e (addR (addN (addR (addN (addN (addN out y.1 1) y.2.1 4) (y.2.2.1.length : Int) 2) y.2.2.1) (y.2.2.2.length : Int) 1) y.2.2.2) r = outS b e out (schB y ++ r) := by
 unfold outS addR addN schB
 have e1 : Int.toNat 1 = 1 := rfl
 have e2 : Int.toNat 2 = 2 := rfl
 have e4 : Int.toNat 4 = 4 := rfl
 simp only [List.append_assoc, Int.toNat_natCast, e1, e2, e4]
theorem sch_err {e : Int} (h : e = 0 \/ e = 8 \/ e = 18 \/ e = 9) (h0 : (e == 0) = false) (i : Int) : inE 3 (atE i (newE e)) = .sec 3 (.plc i (.cls e)) := by
 rcases h with rfl | rfl | rfl | rfl
 ·cases h0
 ·rfl
 ·rfl
 ·rfl
theorem schE1_bad {p : Option Int} {x : Sch} (h : (schR x == 0) = false) : schE1 p x = schR x := by unfold schE1; rw [h]; rfl
theorem schE1_none {x : Sch} (h : (schR x == 0) = true) : schE1 none x = 0 := by unfold schE1; rw [h, eq_of_beq h]; rfl
theorem schE1_some {x : Sch} {i : Int} (h : (schR x == 0) = true) : schE1 (some i) x = bif decide (x.1 <= i) then 9 else 0 := by
 unfold schE1; rw [h, eq_of_beq h, Bool.true_and]
theorem schsE_cons (p : Option Int) (i : Nat) (x : Sch) (r : List Sch) : schsE p i (x :: r) = bif schE1 p x == 0 then schsE (some x.1) (i + 1) r else .sec 3 (.plc (i : Int) (.cls (schE1 p x))) := rfl
theorem mk_app (s : ByteArray) (l m : List UInt8) : (ByteArray.mk l.toArray ++ ByteArray.mk m.toArray) = ByteArray.mk (l ++ m).toArray := by
 apply ByteArray.ext; apply Array.ext'; simp
theorem schsE_ok : ∀ (l : List Sch) (p : Option Int) (i : Nat), (schsE p i l).isNil = true -> ∀ x, x ∈ l -> OkS x
 | [], _, _, _, x, hx => by cases hx
 | y :: r, p, i, h, x, hx => by
  rw [schsE_cons] at h
  cases c : schE1 p y == 0 with
  | false => rw [c] at h; cases h
  | true =>
   rw [c] at h
   rcases List.mem_cons.1 hx with rfl | hx
   ·exact schR_ok (schE1_zero (eq_of_beq c)).1
   ·exact schsE_ok r _ _ h x hx
theorem schB_len (x : Sch) : (schB x).length = 8 + 9 * x.2.2.1.length + 9 * x.2.2.2.length := by
 unfold schB; simp only [List.length_append, beL_len, rowsB_len]; omega
end Go.Ab.T
namespace Go.Ab.T
open Go Go.Ab
def tkE (s : ByteArray) (sec least : Int) (x : RS) : Err := needE (rdE s x.1 4 sec x.2) (wiV (rdV s x.1 4 x.2) least 1048576) sec 18 x.1
def tk (s : ByteArray) (sec least : Int) (x : RS) : RS := (rdAt s x.1 4 x.2, tkE s sec least x)
def tkV (s : ByteArray) (sec least : Int) (x : RS) : Int := bif (tkE s sec least x).isNil then rdV s x.1 4 x.2 else 0
def r1 (s : ByteArray) (sec n : Int) (x : RS) : RS := (rdAt s x.1 n x.2, rdE s x.1 n sec x.2)
def rowV (s : ByteArray) (sec : Int) (x : RS) : W3 := (rdV s x.1 1 x.2, tkV s sec 0 (r1 s sec 1 x), tkV s sec 0 (tk s sec 0 (r1 s sec 1 x)))
def rowX (s : ByteArray) (sec : Int) (x : RS) : RS := tk s sec 0 (tk s sec 0 (r1 s sec 1 x))
def rowsV (s : ByteArray) (sec : Int) : Nat -> RS -> List W3
 | 0, _ => []
 | n + 1, x => bif x.2.isNil then rowV s sec x :: rowsV s sec n (rowX s sec x) else []
def rowsX (s : ByteArray) (sec : Int) : Nat -> RS -> RS
 | 0, x => x
 | n + 1, x => bif x.2.isNil then rowsX s sec n (rowX s sec x) else x
def cntX (s : ByteArray) (sec size most : Int) (x : RS) : RS := (rdAt s x.1 size x.2, needE (rdE s x.1 size sec x.2) (decide (rdV s x.1 size x.2 <= most)) sec 8 x.1)
def manyV (s : ByteArray) (sec size most : Int) (x : RS) : List W3 := bif (cntX s sec size most x).2.isNil then rowsV s sec (rdV s x.1 size x.2).toNat (cntX s sec size most x) else []
def manyX (s : ByteArray) (sec size most : Int) (x : RS) : RS := bif (cntX s sec size most x).2.isNil then rowsX s sec (rdV s x.1 size x.2).toNat (cntX s sec size most x) else cntX s sec size most x
def idX (s : ByteArray) (last : Int) (x : RS) : RS := (rdAt s x.1 1 x.2, needE (rdE s x.1 1 3 x.2) (decide (rdV s x.1 1 x.2 > last)) 3 9 x.1)
def s1X (s : ByteArray) (last : Int) (x : RS) : RS := tk s 3 1 (idX s last x)
def s2X (s : ByteArray) (last : Int) (x : RS) : RS := manyX s 3 2 256 (s1X s last x)
def schX (s : ByteArray) (last : Int) (x : RS) : RS := manyX s 3 1 32 (s2X s last x)
def schV (s : ByteArray) (last : Int) (x : RS) : Sch := (rdV s x.1 1 x.2, tkV s 3 1 (idX s last x), manyV s 3 2 256 (s1X s last x), manyV s 3 1 32 (s2X s last x))
def schsV (s : ByteArray) : Nat -> Int -> RS -> List Sch
 | 0, _, _ => []
 | n + 1, last, x => bif x.2.isNil then schV s last x :: schsV s n (schV s last x).1 (schX s last x) else []
def schsX (s : ByteArray) : Nat -> Int -> RS -> RS
 | 0, _, x => x
 | n + 1, last, x => bif x.2.isNil then schsX s n (schV s last x).1 (schX s last x) else x
def addW (l m : List W3) : List W3 := l ++ m
def resS (s : ByteArray) (n : Nat) (x : RS) : List Sch := bif (schsX s n (-1) x).2.isNil then schsV s n (-1) x else []
def addS (l m : List Sch) : List Sch := l ++ m
theorem hIn.tk {s : ByteArray} {x : RS} (sec least : Int) (h : hIn s x) : hIn s (tk s sec least x) := rdAt_le h.1 h.2 (by omega)
theorem hIn.r1 {s : ByteArray} {x : RS} (sec : Int) {n : Int} (hn : 0 <= n) (h : hIn s x) : hIn s (r1 s sec n x) := rdAt_le h.1 h.2 hn
theorem hIn.rowX {s : ByteArray} {x : RS} (sec : Int) (h : hIn s x) : hIn s (rowX s sec x) := ((h.r1 sec (by omega)).tk _ _).tk _ _
theorem hIn.rowsX {s : ByteArray} (sec : Int) : ∀ (n : Nat) {x : RS}, hIn s x -> hIn s (rowsX s sec n x)
 | 0, _, h => h
 | n + 1, x, h => by
  unfold Go.Ab.T.rowsX
  cases x.2.isNil with
  | false => exact h
  | true => exact hIn.rowsX sec n (h.rowX sec)
theorem hIn.cnt {s : ByteArray} {x : RS} (sec : Int) {size : Int} (most : Int) (hn : 0 <= size) (h : hIn s x) : hIn s (cntX s sec size most x) := rdAt_le h.1 h.2 hn
theorem hIn.many {s : ByteArray} {x : RS} (sec : Int) {size : Int} (most : Int) (hn : 0 <= size) (h : hIn s x) : hIn s (manyX s sec size most x) := by
 unfold manyX
 cases (cntX s sec size most x).2.isNil with
 | false => exact h.cnt sec most hn
 | true => exact (h.cnt sec most hn).rowsX sec _
theorem hIn.id {s : ByteArray} {x : RS} (last : Int) (h : hIn s x) : hIn s (idX s last x) := rdAt_le h.1 h.2 (by omega)
theorem hIn.s1 {s : ByteArray} {x : RS} (last : Int) (h : hIn s x) : hIn s (s1X s last x) := (h.id last).tk _ _
theorem hIn.s2 {s : ByteArray} {x : RS} (last : Int) (h : hIn s x) : hIn s (s2X s last x) := (h.s1 last).many _ _ (by omega)
theorem hIn.sch {s : ByteArray} {x : RS} (last : Int) (h : hIn s x) : hIn s (schX s last x) := (h.s2 last).many _ _ (by omega)
theorem rowsV_len (s : ByteArray) (sec : Int) : ∀ (n : Nat) (x : RS), (rowsV s sec n x).length <= n
 | 0, _ => Nat.le_refl _
 | n + 1, x => by
  unfold rowsV
  cases x.2.isNil with
  | false => exact Nat.zero_le _
  | true => show (_ :: _).length <= _; rw [List.length_cons]; have := rowsV_len s sec n (rowX s sec x); omega
theorem rdAt_ge (s : ByteArray) (a : Int) {n : Int} (e : Err) (hn : 0 <= n) : a <= rdAt s a n e := by
 unfold rdAt; cases rdOk s a n e with
 | false => exact Int.le_refl _
 | true => show a <= a + n; omega
theorem failR_not (e : Err) (sec a : Int) {k : Int} (hk : isCls k = true) : (failR e sec k a).isNil = false := by
 unfold failR
 cases h : e.isNil with
 | false => exact h
 | true =>
  show (inE sec (atE a (newE k))).isNil = false
  unfold newE; rw [hk]; rfl
theorem needE_nil (e : Err) (t : Bool) (sec a : Int) {k : Int} (hk : isCls k = true) : (needE e t sec k a).isNil = (t && e.isNil) := by
 unfold needE; cases t with
 | true => rw [Bool.true_and]; rfl
 | false => rw [Bool.false_and]; exact failR_not e sec a hk
theorem rdE_keep {s : ByteArray} {a n sec : Int} {e : Err} (h : (rdE s a n sec e).isNil = true) : rdOk s a n e = true /\ e.isNil = true := by
 rw [rdE_nil] at h
 refine ⟨h, ?_⟩
 unfold rdOk at h; rw [Bool.and_eq_true] at h; exact h.2
theorem tk_keep {s : ByteArray} {sec least : Int} {x : RS} (h : (tk s sec least x).2.isNil = true) : (rdE s x.1 4 sec x.2).isNil = true /\ wiV (rdV s x.1 4 x.2) least 1048576 = true /\ x.2.isNil = true := by
 have h : (needE (rdE s x.1 4 sec x.2) (wiV (rdV s x.1 4 x.2) least 1048576) sec 18 x.1).isNil = true := h
 rw [needE_nil _ _ _ _ rfl, Bool.and_eq_true] at h
 exact ⟨h.2, h.1, (rdE_keep h.2).2⟩
theorem tk_ge (s : ByteArray) (sec least : Int) (x : RS) : x.1 <= (tk s sec least x).1 := rdAt_ge s _ _ (by omega)
theorem r1_keep {s : ByteArray} {sec n : Int} {x : RS} (h : (r1 s sec n x).2.isNil = true) : rdOk s x.1 n x.2 = true /\ x.2.isNil = true := rdE_keep h
theorem rowX_keep {s : ByteArray} {sec : Int} {x : RS} (h : (rowX s sec x).2.isNil = true) : (tk s sec 0 (r1 s sec 1 x)).2.isNil = true /\ (r1 s sec 1 x).2.isNil = true /\ x.2.isNil = true := by
 have h1 := (tk_keep h).2.2
 have h2 := (tk_keep h1).2.2
 exact ⟨h1, h2, (r1_keep h2).2⟩
theorem rowX_ge (s : ByteArray) (sec : Int) (x : RS) : x.1 <= (rowX s sec x).1 := by
 have h1 : x.1 <= (r1 s sec 1 x).1 := rdAt_ge s _ _ (by omega)
 have h2 := tk_ge s sec 0 (r1 s sec 1 x)
 have h3 := tk_ge s sec 0 (tk s sec 0 (r1 s sec 1 x))
 unfold rowX; omega
theorem rowsX_keep (s : ByteArray) (sec : Int) : ∀ (n : Nat) (x : RS), (rowsX s sec n x).2.isNil = true -> x.2.isNil = true
 | 0, _, h => h
 | n + 1, x, h => by
  unfold rowsX at h
  cases c : x.2.isNil with
  | true => rfl
  | false => rw [c] at h; rw [cond_false, c] at h; exact h
theorem rowsX_ge (s : ByteArray) (sec : Int) : ∀ (n : Nat) (x : RS), x.1 <= (rowsX s sec n x).1
 | 0, _ => Int.le_refl _
 | n + 1, x => by
  unfold rowsX
  cases x.2.isNil with
  | false => exact Int.le_refl _
  | true => exact Int.le_trans (rowX_ge s sec x) (rowsX_ge s sec n _)
theorem cntX_keep {s : ByteArray} {sec size most : Int} {x : RS} (h : (cntX s sec size most x).2.isNil = true) : rdOk s x.1 size x.2 = true /\ rdV s x.1 size x.2 <= most /\ x.2.isNil = true := by
 have h : (needE (rdE s x.1 size sec x.2) (decide (rdV s x.1 size x.2 <= most)) sec 8 x.1).isNil = true := h
 rw [needE_nil _ _ _ _ rfl, Bool.and_eq_true, decide_eq_true_eq] at h
 exact ⟨(rdE_keep h.2).1, h.1, (rdE_keep h.2).2⟩
theorem manyX_keep {s : ByteArray} {sec size most : Int} {x : RS} (h : (manyX s sec size most x).2.isNil = true) : (cntX s sec size most x).2.isNil = true := by
 unfold manyX at h
 cases c : (cntX s sec size most x).2.isNil with
 | true => rfl
 | false => rw [c, cond_false, c] at h; exact h
theorem manyX_ge {s : ByteArray} {sec size most : Int} (hs : 0 <= size) (x : RS) : x.1 <= (manyX s sec size most x).1 := by
 have h1 : x.1 <= (cntX s sec size most x).1 := rdAt_ge s _ _ hs
 unfold manyX
 cases (cntX s sec size most x).2.isNil with
 | false => exact h1
 | true => exact Int.le_trans h1 (rowsX_ge s sec _ _)
theorem idX_keep {s : ByteArray} {last : Int} {x : RS} (h : (idX s last x).2.isNil = true) : rdOk s x.1 1 x.2 = true /\ last < rdV s x.1 1 x.2 /\ x.2.isNil = true := by
 have h : (needE (rdE s x.1 1 3 x.2) (decide (rdV s x.1 1 x.2 > last)) 3 9 x.1).isNil = true := h
 rw [needE_nil _ _ _ _ rfl, Bool.and_eq_true, decide_eq_true_eq] at h
 exact ⟨(rdE_keep h.2).1, h.1, (rdE_keep h.2).2⟩
theorem schX_keep {s : ByteArray} {last : Int} {x : RS} (h : (schX s last x).2.isNil = true) : (s2X s last x).2.isNil = true /\ (s1X s last x).2.isNil = true /\ (idX s last x).2.isNil = true := by
 have h1 := (cntX_keep (manyX_keep h)).2.2
 have h2 := (cntX_keep (manyX_keep h1)).2.2
 exact ⟨h1, h2, (tk_keep h2).2.2⟩
theorem schX_adv {s : ByteArray} {last : Int} {x : RS} (h : (schX s last x).2.isNil = true) : x.1 + 1 <= (schX s last x).1 := by
 obtain ⟨_, _, h3⟩ := schX_keep h
 obtain ⟨h4, _, _⟩ := idX_keep h3
 have e : (idX s last x).1 = x.1 + 1 := by show rdAt s x.1 1 x.2 = _; unfold rdAt; rw [h4]; rfl
 have g1 := tk_ge s 3 1 (idX s last x)
 have g2 := manyX_ge (s := s) (sec := 3) (size := 2) (most := 256) (by omega) (s1X s last x)
 have g3 := manyX_ge (s := s) (sec := 3) (size := 1) (most := 32) (by omega) (s2X s last x)
 unfold schX
 unfold s1X at g2
 unfold s2X s1X at g3 ⊢
 omega
theorem wrap_succ' {i : Nat} (h : i < 9223372036854775807) : IntKind.i64.wrap ((i : Int) + 1) = ((i + 1 : Nat) : Int) := by
 rw [wrap_id _ (by omega) (by omega)]; omega
end Go.Ab.T
namespace Go.Ab.T
open Go Go.Ab
section
variable {S : ByteArray} {sec : Int}
theorem schsB_len : ∀ (l : List Sch), (∀ x, x ∈ l -> OkS x) -> (schsB l).length <= 3000 * l.length
 | [], _ => Nat.le_refl _
 | y :: r, h => by
  obtain ⟨_, _, o3, _, o5, _⟩ := h y List.mem_cons_self
  have := schsB_len r (fun x hx => h x (List.mem_cons_of_mem _ hx))
  rw [schsB, List.length_append, schB_len, List.length_cons]; omega
end
end Go.Ab.T
namespace Go.Ab.T
open Go Go.Ab
def Seg (s : ByteArray) (a b : Int) (l : List UInt8) : Prop := 0 <= a /\ a <= b /\ b <= (s.size : Int) /\ l = (s.data.toList.drop a.toNat).take (b.toNat - a.toNat)
theorem Seg.nil {s : ByteArray} {a : Int} (h0 : 0 <= a) (h1 : a <= (s.size : Int)) : Seg s a a [] := ⟨h0, Int.le_refl _, h1, by simp⟩
theorem Seg.app {s : ByteArray} {a b c : Int} {l m : List UInt8} (h : Seg s a b l) (k : Seg s b c m) : Seg s a c (l ++ m) := by
 obtain ⟨h0, h1, h2, rfl⟩ := h
 obtain ⟨k0, k1, k2, rfl⟩ := k
 refine ⟨h0, by omega, k2, ?_⟩
 have e : s.data.toList.drop b.toNat = (s.data.toList.drop a.toNat).drop (b.toNat - a.toNat) := by
  rw [List.drop_drop]; congr 1; omega
 rw [e]
 have e2 : c.toNat - a.toNat = (b.toNat - a.toNat) + (c.toNat - b.toNat) := by omega
 rw [e2, List.take_add]
theorem Seg.cast {s : ByteArray} {a b b' : Int} {l m : List UInt8} (h : Seg s a b l) (hb : b = b') (hl : l = m) : Seg s a b' m := by subst hb hl; exact h
section
variable {s : ByteArray} {sec : Int}
theorem seg_rd {x : RS} (hx : hIn s x) {n : Nat} {k : Int} (hk : k = (n : Int)) (h : rdOk s x.1 k x.2 = true) : Seg s x.1 (rdAt s x.1 k x.2) (beL n (rdV s x.1 k x.2).toNat) /\ 0 <= rdV s x.1 k x.2 := by
 subst hk
 have hat : rdAt s x.1 n x.2 = x.1 + n := by unfold rdAt; rw [h]; rfl
 have hv : rdV s x.1 n x.2 = (beV s x.1.toNat n : Int) := by unfold rdV; rw [h]; show (beV s x.1.toNat (n : Int).toNat : Int) = _; rw [Int.toNat_natCast]
 have hfit : (n : Int) <= (s.size : Int) - x.1 := by
  unfold rdOk at h; rw [Bool.and_eq_true, decide_eq_true_eq] at h; exact h.1
 obtain ⟨h0, h1⟩ := hx
 rw [hat, hv, Int.toNat_natCast]
 refine ⟨⟨h0, by omega, by omega, ?_⟩, by omega⟩
 rw [beL_beV s x.1.toNat n (by omega)]
 congr 1; omega
theorem seg_tk {x : RS} {least : Int} (hx : hIn s x) (h : (tk s sec least x).2.isNil = true) :
 Seg s x.1 (tk s sec least x).1 (beL 4 (tkV s sec least x).toNat) /\ least <= tkV s sec least x /\ tkV s sec least x <= 1048576 /\ 0 <= tkV s sec least x := by
 obtain ⟨h1, h2, h3⟩ := tk_keep h
 have hv : tkV s sec least x = rdV s x.1 4 x.2 := by
  unfold tkV
  have : (tkE s sec least x).isNil = true := h
  rw [this]; rfl
 obtain ⟨g1, g2⟩ := seg_rd hx (n := 4) (k := 4) rfl (rdE_keep h1).1
 rw [hv]
 obtain ⟨w1, w2⟩ := wiV_iff.1 h2
 exact ⟨g1, w1, w2, g2⟩
theorem seg_row {x : RS} (hx : hIn s x) (h : (rowX s sec x).2.isNil = true) : Seg s x.1 (rowX s sec x).1 (rowB (rowV s sec x)) /\ okW (rowV s sec x) = true := by
 obtain ⟨h1, h2, h3⟩ := rowX_keep h
 obtain ⟨g1, g1'⟩ := seg_rd hx (n := 1) (k := 1) rfl (r1_keep h2).1
 have x1 := hx.r1 (n := 1) sec (by omega)
 obtain ⟨g2, g3, g4, g5⟩ := seg_tk (least := 0) x1 h1
 obtain ⟨g6, g7, g8, g9⟩ := seg_tk (least := 0) (x1.tk sec 0) h
 obtain ⟨v0, v1⟩ := rdV_lt s x.1 1 x.2
 have v1 : rdV s x.1 (1 : Int) x.2 < 256 := v1
 refine ⟨g1.app (g2.app g6), ?_⟩
 unfold okW rowV
 rw [Bool.and_eq_true, Bool.and_eq_true, wiV_iff, wiV_iff, wiV_iff]
 exact ⟨⟨g1', by show rdV s x.1 1 x.2 <= 255; omega⟩, ⟨g3, g4⟩, g7, g8⟩
theorem seg_rows : ∀ (n : Nat) (x : RS), hIn s x -> (rowsX s sec n x).2.isNil = true -> Seg s x.1 (rowsX s sec n x).1 (rowsB (rowsV s sec n x)) /\ (∀ w, w ∈ rowsV s sec n x -> okW w = true) /\ (rowsV s sec n x).length = n
 | 0, x, hx, _ => ⟨Seg.nil hx.1 hx.2, (fun w hw => by cases hw), rfl⟩
 | n + 1, x, hx, h => by
  have hn := rowsX_keep s sec (n + 1) x h
  have e1 : rowsX s sec (n + 1) x = rowsX s sec n (rowX s sec x) := by show (bif x.2.isNil then _ else _) = _; rw [hn]; rfl
  have e2 : rowsV s sec (n + 1) x = rowV s sec x :: rowsV s sec n (rowX s sec x) := by show (bif x.2.isNil then _ else _) = _; rw [hn]; rfl
  rw [e1] at h
  obtain ⟨g1, g2⟩ := seg_row hx (rowsX_keep s sec n _ h)
  obtain ⟨g3, g4, g5⟩ := seg_rows n (rowX s sec x) (hx.rowX sec) h
  rw [e1, e2]
  refine ⟨g1.app g3, fun w hw => ?_, by rw [List.length_cons, g5]⟩
  rcases List.mem_cons.1 hw with rfl | hw
  ·exact g2
  ·exact g4 w hw
theorem seg_many {x : RS} (hx : hIn s x) {n : Nat} {k most : Int} (hk : k = (n : Int)) (h : (manyX s sec k most x).2.isNil = true) :
 Seg s x.1 (manyX s sec k most x).1 (beL n (manyV s sec k most x).length ++ rowsB (manyV s sec k most x)) /\ (∀ w, w ∈ manyV s sec k most x -> okW w = true) /\ ((manyV s sec k most x).length : Int) <= most := by
 have hc := manyX_keep h
 obtain ⟨c1, c2, c3⟩ := cntX_keep hc
 obtain ⟨g1, g1'⟩ := seg_rd hx hk c1
 have e1 : manyX s sec k most x = rowsX s sec (rdV s x.1 k x.2).toNat (cntX s sec k most x) := by unfold manyX; rw [hc]; rfl
 have e2 : manyV s sec k most x = rowsV s sec (rdV s x.1 k x.2).toNat (cntX s sec k most x) := by unfold manyV; rw [hc]; rfl
 rw [e1] at h
 obtain ⟨g3, g4, g5⟩ := seg_rows _ _ (hx.cnt sec most (by omega)) h
 rw [e1, e2]
 refine ⟨?_, g4, by rw [g5]; omega⟩
 rw [g5]
 exact g1.app g3
theorem seg_sch {x : RS} {last : Int} (hx : hIn s x) (hl : -1 <= last) (h : (schX s last x).2.isNil = true) : Seg s x.1 (schX s last x).1 (schB (schV s last x)) /\ OkS (schV s last x) /\ last < (schV s last x).1 := by
 obtain ⟨h1, h2, h3⟩ := schX_keep h
 obtain ⟨i1, i2, i3⟩ := idX_keep h3
 obtain ⟨g1, g1'⟩ := seg_rd hx (n := 1) (k := 1) rfl i1
 obtain ⟨g2, g3, g4, g5⟩ := seg_tk (sec := 3) (least := 1) (hx.id last) h2
 obtain ⟨g6, g7, g8⟩ := seg_many (sec := 3) (hx.s1 last) (n := 2) (k := 2) (most := 256) rfl h1
 obtain ⟨g9, g10, g11⟩ := seg_many (sec := 3) (hx.s2 last) (n := 1) (k := 1) (most := 32) rfl h
 obtain ⟨v0, v1⟩ := rdV_lt s x.1 1 x.2
 have v1 : rdV s x.1 (1 : Int) x.2 < 256 := v1
 refine ⟨(g1.app (g2.app (g6.app g9))).cast rfl ?_, ⟨⟨g1', by show rdV s x.1 1 x.2 <= 255; omega⟩, ⟨g3, g4⟩, ?_, g7, ?_, g10⟩, i2⟩
 ·unfold schB schV; simp only [List.append_assoc]
 ·show (manyV s 3 2 256 (s1X s last x)).length <= 256; omega
 ·show (manyV s 3 1 32 (s2X s last x)).length <= 32; omega
theorem okS_schR {x : Sch} (h : OkS x) : schR x = 0 := by
 obtain ⟨o1, o2, o3, o4, o5, o6⟩ := h
 have c1 : wiV x.1 0 255 = true := wiV_iff.2 o1
 have c2 : wiV x.2.1 1 1048576 = true := wiV_iff.2 o2
 have c3 : decide ((x.2.2.1.length : Int) > 256) = false := decide_eq_false (by omega)
 have c4 : rowsR x.2.2.1 = true := List.all_eq_true.2 o4
 have c5 : decide ((x.2.2.2.length : Int) > 32) = false := decide_eq_false (by omega)
 have c6 : rowsR x.2.2.2 = true := List.all_eq_true.2 o6
 unfold schR; rw [c1, c2, c3, c4, c5, c6]; rfl
theorem schsX_keep : ∀ (n : Nat) (last : Int) (x : RS), (schsX s n last x).2.isNil = true -> x.2.isNil = true
 | 0, _, _, h => h
 | n + 1, last, x, h => by
  unfold schsX at h
  cases c : x.2.isNil with
  | true => rfl
  | false => rw [c] at h; rw [cond_false, c] at h; exact h
theorem seg_schs : ∀ (n : Nat) (last : Int) (x : RS) (p : Option Int) (i : Nat), hIn s x -> (match p with | some q => last = q /\ 0 <= q | none => last = -1) -> (schsX s n last x).2.isNil = true ->
 Seg s x.1 (schsX s n last x).1 (schsB (schsV s n last x)) /\ (schsE p i (schsV s n last x)).isNil = true
 | 0, last, x, p, i, hx, _, _ => ⟨Seg.nil hx.1 hx.2, rfl⟩
 | n + 1, last, x, p, i, hx, hp, h => by
  have hn := schsX_keep (n + 1) last x h
  have e1 : schsX s (n + 1) last x = schsX s n (schV s last x).1 (schX s last x) := by show (bif x.2.isNil then _ else _) = _; rw [hn]; rfl
  have e2 : schsV s (n + 1) last x = schV s last x :: schsV s n (schV s last x).1 (schX s last x) := by show (bif x.2.isNil then _ else _) = _; rw [hn]; rfl
  rw [e1] at h
  have hl : -1 <= last := by
   cases p with
   | none => simp only at hp; omega
   | some q => simp only at hp; omega
  obtain ⟨g1, g2, g3⟩ := seg_sch hx hl (schsX_keep n _ _ h)
  obtain ⟨g4, g5⟩ := seg_schs n (schV s last x).1 (schX s last x) (some (schV s last x).1) (i + 1) (hx.sch last) ⟨rfl, g2.1.1⟩ h
  rw [e1, e2]
  refine ⟨g1.app g4, ?_⟩
  have hE : schE1 p (schV s last x) = 0 := by
   have h0 := okS_schR g2
   have hb : (schR (schV s last x) == 0) = true := by rw [h0]; rfl
   cases p with
   | none => exact schE1_none hb
   | some q =>
    rw [schE1_some hb]
    have : decide ((schV s last x).1 <= q) = false := decide_eq_false (by simp only at hp; omega)
    rw [this]; rfl
  rw [schsE_cons, hE]
  exact g5
end
end Go.Ab.T
namespace Go.Ab.T
open Go Go.Ab
abbrev Cl := Int × Bool
abbrev Prt := Int × ByteArray × Bool × List Cl
def bitN (b : Bool) : Nat := bif b then 1 else 0
def cellB (c : Cl) : List UInt8 := beL 1 (bitN c.2) ++ beL 4 c.1.toNat
def cellsB : List Cl -> List UInt8
 | [] => []
 | c :: r => cellB c ++ cellsB r
def nameB (s : ByteArray) : List UInt8 := UInt8.ofNat s.size :: s.data.toList
def prtB (p : Prt) : List UInt8 := beL 1 p.1.toNat ++ (beL 1 (bitN p.2.2.1) ++ (nameB p.2.1 ++ (beL 1 p.2.2.2.length ++ cellsB p.2.2.2)))
def prtsB : List Prt -> List UInt8
 | [] => []
 | p :: r => prtB p ++ prtsB r
def prtR (p : Prt) : Int := bif decide (p.1 < 0) then 18 else bif decide (p.1 > 255) then 18 else bif !rightN p.2.1 then 7 else bif decide ((p.2.2.2.length : Int) > 16) then 8 else 0
def wE1 (p : Option Int) (id r : Int) : Int := bif r == 0 && (match p with | some i => decide (id <= i) | none => false) then 9 else r
def wE (sec : Int) : Option Int -> Nat -> List (Int × Int) -> Err
 | _, _, [] => .nil
 | p, i, x :: r => bif wE1 p x.1 x.2 == 0 then wE sec (some x.1) (i + 1) r else .sec sec (.plc (i : Int) (.cls (wE1 p x.1 x.2)))
def prtsE (p : Option Int) (i : Nat) (l : List Prt) : Err := wE 2 p i (l.map fun x => (x.1, prtR x))
theorem cellB_len (c : Cl) : (cellB c).length = 5 := by unfold cellB; simp only [List.length_append, beL_len]
theorem cellsB_len : ∀ l : List Cl, (cellsB l).length = 5 * l.length
 | [] => rfl
 | c :: l => by rw [cellsB, List.length_append, cellB_len, cellsB_len l, List.length_cons]; omega
theorem nameB_len (s : ByteArray) : (nameB s).length = s.size + 1 := by unfold nameB; rw [List.length_cons, blen]
theorem prtB_len (p : Prt) : (prtB p).length = 4 + p.2.1.size + 5 * p.2.2.2.length := by
 unfold prtB; simp only [List.length_append, beL_len, nameB_len, cellsB_len]; omega
def OkC (c : Cl) : Prop := 0 <= c.1 /\ c.1 < 4294967296
def OkP (p : Prt) : Prop := (0 <= p.1 /\ p.1 <= 255) /\ rightN p.2.1 = true /\ p.2.2.2.length <= 16
theorem prtR_cases (p : Prt) : prtR p = 0 \/ prtR p = 7 \/ prtR p = 8 \/ prtR p = 18 := by
 unfold prtR
 cases decide (p.1 < 0) <;> cases decide (p.1 > 255) <;> cases rightN p.2.1 <;> cases decide ((p.2.2.2.length : Int) > 16) <;> simp
theorem prtR_ok {p : Prt} (h : prtR p = 0) : OkP p := by
 unfold prtR at h
 cases c1 : decide (p.1 < 0) <;> cases c2 : decide (p.1 > 255) <;> cases c3 : rightN p.2.1 <;> cases c4 : decide ((p.2.2.2.length : Int) > 16) <;>
  simp only [c1, c2, c3, c4, Bool.not_true, Bool.not_false, cond_true, cond_false] at h <;> first | (exfalso; omega) | skip
 rw [decide_eq_false_iff_not] at c1 c2 c4
 exact ⟨by omega, c3, by omega⟩
theorem right_len {s : ByteArray} (h : rightN s = true) : 1 <= s.size /\ s.size <= 16 := by
 simp only [rightN, Bool.and_eq_true, decide_eq_true_eq] at h
 omega
theorem wE1_bad {p : Option Int} {id r : Int} (h : (r == 0) = false) : wE1 p id r = r := by unfold wE1; rw [h]; rfl
theorem wE1_none {id r : Int} (h : (r == 0) = true) : wE1 none id r = 0 := by unfold wE1; rw [h, eq_of_beq h]; rfl
theorem wE1_some {id r i : Int} (h : (r == 0) = true) : wE1 (some i) id r = bif decide (id <= i) then 9 else 0 := by
 unfold wE1; rw [h, eq_of_beq h, Bool.true_and]
theorem wE1_zero {p : Option Int} {id r : Int} (h : wE1 p id r = 0) : r = 0 /\ ∀ i, p = some i -> i < id := by
 unfold wE1 at h
 cases c1 : r == 0 with
 | false => rw [c1] at h; rw [beq_eq_false_iff_ne] at c1; exact absurd h c1
 | true =>
  refine ⟨eq_of_beq c1, ?_⟩
  rintro i rfl
  rw [c1] at h
  cases c2 : decide (id <= i) with
  | true => simp only [c2] at h; exact absurd (show (9 : Int) = 0 from h) (by decide)
  | false => rw [decide_eq_false_iff_not] at c2; omega
theorem prtsE_cons (p : Option Int) (i : Nat) (x : Prt) (r : List Prt) : prtsE p i (x :: r) = bif wE1 p x.1 (prtR x) == 0 then prtsE (some x.1) (i + 1) r else .sec 2 (.plc (i : Int) (.cls (wE1 p x.1 (prtR x)))) := rfl
theorem prtsE_ok : ∀ (l : List Prt) (p : Option Int) (i : Nat), (prtsE p i l).isNil = true -> ∀ x, x ∈ l -> OkP x
 | [], _, _, _, x, hx => by cases hx
 | y :: r, p, i, h, x, hx => by
  rw [prtsE_cons] at h
  cases c : wE1 p y.1 (prtR y) == 0 with
  | false => rw [c] at h; cases h
  | true =>
   rw [c] at h
   rcases List.mem_cons.1 hx with rfl | hx
   ·exact prtR_ok (wE1_zero (eq_of_beq c)).1
   ·exact prtsE_ok r _ _ h x hx
def prevP (l : List Prt) : Nat -> Option Int
 | 0 => none
 | i + 1 => (l[i]?).map (·.1)
def nPutV (l : List UInt8) (s : ByteArray) : List UInt8 := bif rightN s then l ++ nameB s else l
theorem beL_one {v : Nat} (h : v < 256) : beL (Int.toNat 1) v = [UInt8.ofNat v] := by
 show [UInt8.ofNat (v / 256 ^ 0 % 256)] = _
 rw [Nat.pow_zero, Nat.div_one, Nat.mod_eq_of_lt h]
def addC (l : List UInt8) (cs : List Cl) : List UInt8 := l ++ cellsB cs
def addP (l : List UInt8) (p : Prt) : List UInt8 := l ++ prtB p
def outP (b : List UInt8) (e : Err) (out rest : List UInt8) : List UInt8 := bif e.isNil then out ++ rest else b
end Go.Ab.T
namespace Go.Ab.T
open Go Go.Ab
section
variable {S : ByteArray} {sec : Int}
theorem q256_4 : 256 ^ 4 = 4294967296 := by decide
theorem bitN_lt (b : Bool) : bitN b < 256 /\ bitN b <= 1 /\ ((bitN b : Int) == 1) = b := by cases b <;> exact ⟨by decide, by decide, by decide⟩
theorem prt_bytes (out : List UInt8) (y : Prt) (r : List UInt8) (b : List UInt8) (e : Err) : outP b e (addP out y) r = outP b e out (prtB y ++ r) := by
 unfold outP addP; simp only [List.append_assoc]
theorem prt_err {e : Int} (h : e = 0 \/ e = 7 \/ e = 8 \/ e = 18) (h0 : (e == 0) = false) (i : Int) : inE 2 (atE i (newE e)) = .sec 2 (.plc i (.cls e)) := by
 rcases h with rfl | rfl | rfl | rfl
 ·cases h0
 ·rfl
 ·rfl
 ·rfl
def addCl (l m : List Cl) : List Cl := l ++ m
def addPr (l m : List Prt) : List Prt := l ++ m
theorem prtsB_len : ∀ (l : List Prt), (∀ x, x ∈ l -> OkP x) -> (prtsB l).length <= 1000 * l.length
 | [], _ => Nat.le_refl _
 | y :: r, h => by
  obtain ⟨_, o2, o3⟩ := h y List.mem_cons_self
  have := right_len o2
  have := prtsB_len r (fun x hx => h x (List.mem_cons_of_mem _ hx))
  rw [prtsB, List.length_append, prtB_len, List.length_cons]; omega
end
end Go.Ab.T
namespace Go.Ab.T
open Go Go.Ab
abbrev Pr := Int × Int
def cmpI (a b : Int) : Int := bif decide (a < b) then -1 else bif decide (a > b) then 1 else 0
def orV : List Int -> Int
 | [] => 0
 | x :: r => bif x != 0 then x else orV r
def ltP (a b : Pr) : Bool := bif decide (a.1 < b.1) then true else bif a.1 == b.1 then decide (a.2 < b.2) else false
def cmpP (a b : Pr) : Int := orV [cmpI a.1 b.1, cmpI a.2 b.2]
theorem cmpI_cases (a b : Int) : (cmpI a b = -1 /\ a < b) \/ (cmpI a b = 1 /\ b < a) \/ (cmpI a b = 0 /\ a = b) := by
 unfold cmpI
 cases h : decide (a < b) with
 | true => rw [decide_eq_true_eq] at h; exact .inl ⟨rfl, h⟩
 | false =>
  rw [decide_eq_false_iff_not] at h
  cases h2 : decide (a > b) with
  | true => rw [decide_eq_true_eq] at h2; exact .inr (.inl ⟨rfl, h2⟩)
  | false => rw [decide_eq_false_iff_not] at h2; exact .inr (.inr ⟨rfl, by omega⟩)
theorem ltP_iff {a b : Pr} : ltP a b = true ↔ a.1 < b.1 \/ (a.1 = b.1 /\ a.2 < b.2) := by
 unfold ltP
 cases h : decide (a.1 < b.1) with
 | true => rw [decide_eq_true_eq] at h; exact ⟨fun _ => .inl h, fun _ => rfl⟩
 | false =>
  rw [decide_eq_false_iff_not] at h
  cases h2 : a.1 == b.1 with
  | true => rw [beq_iff_eq] at h2; show decide _ = true ↔ _; rw [decide_eq_true_eq]; exact ⟨fun h3 => .inr ⟨h2, h3⟩, fun h3 => by omega⟩
  | false => rw [beq_eq_false_iff_ne] at h2; exact ⟨fun h3 => (by cases h3), fun h3 => by omega⟩
theorem cmpP_lt (a b : Pr) : decide (cmpP a b < 0) = ltP a b := by
 rw [Bool.eq_iff_iff, decide_eq_true_eq, ltP_iff]
 unfold cmpP
 rcases cmpI_cases a.1 b.1 with ⟨h, h'⟩ | ⟨h, h'⟩ | ⟨h, h'⟩
 ·rw [h]; show (-1 : Int) < 0 ↔ _; omega
 ·rw [h]; show (1 : Int) < 0 ↔ _; omega
 ·rw [h]
  rcases cmpI_cases a.2 b.2 with ⟨k, k'⟩ | ⟨k, k'⟩ | ⟨k, k'⟩
  ·rw [k]; show (-1 : Int) < 0 ↔ _; omega
  ·rw [k]; show (1 : Int) < 0 ↔ _; omega
  ·rw [k]; show (0 : Int) < 0 ↔ _; omega
def idOk (n : Int) : Bool := bif decide (n >= 0) then decide (n <= 255) else false
theorem idOk_iff {n : Int} : idOk n = true ↔ 0 <= n /\ n <= 255 := by
 unfold idOk
 cases h : decide (n >= 0) with
 | true => rw [decide_eq_true_eq] at h; show decide _ = true ↔ _; rw [decide_eq_true_eq]; omega
 | false => rw [decide_eq_false_iff_not] at h; exact ⟨fun h => (by cases h), fun h => by omega⟩
def inP (p : Pr) : Bool := idOk p.1 && idOk p.2
theorem inP_iff {p : Pr} : inP p = true ↔ (0 <= p.1 /\ p.1 <= 255) /\ 0 <= p.2 /\ p.2 <= 255 := by
 unfold inP; rw [Bool.and_eq_true, idOk_iff, idOk_iff]
def pw1 (p : Option Pr) (x : Pr) : Int := bif inP x then (match p with | some q => bif ltP q x then 0 else 9 | none => 0) else 18
def prsE : Option Pr -> Nat -> List Pr -> Err
 | _, _, [] => .nil
 | p, i, x :: r => bif pw1 p x == 0 then prsE (some x) (i + 1) r else .sec 4 (.plc (i : Int) (.cls (pw1 p x)))
theorem prsE_cons (p : Option Pr) (i : Nat) (x : Pr) (r : List Pr) : prsE p i (x :: r) = bif pw1 p x == 0 then prsE (some x) (i + 1) r else .sec 4 (.plc (i : Int) (.cls (pw1 p x))) := rfl
def pairB (p : Pr) : List UInt8 := beL 1 p.1.toNat ++ beL 1 p.2.toNat
def pairsB : List Pr -> List UInt8
 | [] => []
 | p :: r => pairB p ++ pairsB r
theorem pairB_len (p : Pr) : (pairB p).length = 2 := by unfold pairB; simp only [List.length_append, beL_len]
theorem pairsB_len : ∀ l : List Pr, (pairsB l).length = 2 * l.length
 | [] => rfl
 | p :: r => by rw [pairsB, List.length_append, pairB_len, pairsB_len r, List.length_cons]; omega
def prevR (l : List Pr) : Nat -> Option Pr
 | 0 => none
 | i + 1 => l[i]?
def addB (l : List UInt8) (p : Pr) : List UInt8 := l ++ pairB p
theorem pair_bytes (out : List UInt8) (y : Pr) (r : List UInt8) (b : List UInt8) (e : Err) : outP b e (addB out y) r = outP b e out (pairB y ++ r) := by
 unfold outP addB; simp only [List.append_assoc]
def pr1 (s : ByteArray) (x : RS) : RS := r1 s 4 1 (r1 s 4 1 x)
def prV (s : ByteArray) (x : RS) : Pr := (rdV s x.1 1 x.2, rdV s (r1 s 4 1 x).1 1 (r1 s 4 1 x).2)
def prOk (last : Option Pr) (v : Pr) : Bool := match last with | none => true | some q => ltP q v
def prX (s : ByteArray) (last : Option Pr) (x : RS) : RS := ((pr1 s x).1, needE (pr1 s x).2 (prOk last (prV s x)) 4 9 x.1)
def prsV (s : ByteArray) : Nat -> Option Pr -> RS -> List Pr
 | 0, _, _ => []
 | n + 1, last, x => bif x.2.isNil then prV s x :: prsV s n (some (prV s x)) (prX s last x) else []
def prsX (s : ByteArray) : Nat -> Option Pr -> RS -> RS
 | 0, _, x => x
 | n + 1, last, x => bif x.2.isNil then prsX s n (some (prV s x)) (prX s last x) else x
def addP2 (l m : List Pr) : List Pr := l ++ m
def resP (s : ByteArray) (n : Nat) (x : RS) : List Pr := bif (prsX s n none x).2.isNil then prsV s n none x else []
theorem hIn.pr1 {s : ByteArray} {x : RS} (h : hIn s x) : hIn s (pr1 s x) := (h.r1 4 (by omega)).r1 4 (by omega)
theorem hIn.pr {s : ByteArray} {x : RS} (last : Option Pr) (h : hIn s x) : hIn s (prX s last x) := h.pr1
theorem hIn.prs {s : ByteArray} : ∀ (n : Nat) (last : Option Pr) {x : RS}, hIn s x -> hIn s (prsX s n last x)
 | 0, _, _, h => h
 | n + 1, last, x, h => by
  unfold prsX
  cases x.2.isNil with
  | false => exact h
  | true => exact hIn.prs n _ (h.pr last)
theorem prX_keep {s : ByteArray} {last : Option Pr} {x : RS} (h : (prX s last x).2.isNil = true) : (pr1 s x).2.isNil = true /\ (r1 s 4 1 x).2.isNil = true /\ x.2.isNil = true /\ prOk last (prV s x) = true := by
 have h : (needE (pr1 s x).2 (prOk last (prV s x)) 4 9 x.1).isNil = true := h
 rw [needE_nil _ _ _ _ rfl, Bool.and_eq_true] at h
 have h1 := (r1_keep h.2).2
 exact ⟨h.2, h1, (r1_keep h1).2, h.1⟩
theorem prsX_keep {s : ByteArray} : ∀ (n : Nat) (last : Option Pr) (x : RS), (prsX s n last x).2.isNil = true -> x.2.isNil = true
 | 0, _, _, h => h
 | n + 1, last, x, h => by
  unfold prsX at h
  cases c : x.2.isNil with
  | true => rfl
  | false => rw [c] at h; rw [cond_false, c] at h; exact h
theorem prV_in {s : ByteArray} (x : RS) : inP (prV s x) = true := by
 rw [inP_iff]
 obtain ⟨v0, v1⟩ := rdV_lt s x.1 1 x.2
 obtain ⟨w0, w1⟩ := rdV_lt s (r1 s 4 1 x).1 1 (r1 s 4 1 x).2
 have v1 : rdV s x.1 (1 : Int) x.2 < 256 := v1
 have w1 : rdV s (r1 s 4 1 x).1 (1 : Int) (r1 s 4 1 x).2 < 256 := w1
 exact ⟨⟨v0, by show rdV s x.1 1 x.2 <= 255; omega⟩, w0, by show rdV s (r1 s 4 1 x).1 1 (r1 s 4 1 x).2 <= 255; omega⟩
theorem seg_pr {s : ByteArray} {x : RS} {last : Option Pr} (hx : hIn s x) (h : (prX s last x).2.isNil = true) : Seg s x.1 (prX s last x).1 (pairB (prV s x)) /\ prOk last (prV s x) = true := by
 obtain ⟨h1, h2, h3, h4⟩ := prX_keep h
 obtain ⟨g1, _⟩ := seg_rd hx (n := 1) (k := 1) rfl (r1_keep h2).1
 obtain ⟨g2, _⟩ := seg_rd (hx.r1 (n := 1) 4 (by omega)) (n := 1) (k := 1) rfl (r1_keep h1).1
 exact ⟨g1.app g2, h4⟩
theorem seg_prs {s : ByteArray} : ∀ (n : Nat) (last : Option Pr) (x : RS) (i : Nat), hIn s x -> (prsX s n last x).2.isNil = true ->
 Seg s x.1 (prsX s n last x).1 (pairsB (prsV s n last x)) /\ (prsE last i (prsV s n last x)).isNil = true
 | 0, last, x, i, hx, _ => ⟨Seg.nil hx.1 hx.2, by cases last <;> rfl⟩
 | n + 1, last, x, i, hx, h => by
  have hn := prsX_keep (n + 1) last x h
  have e1 : prsX s (n + 1) last x = prsX s n (some (prV s x)) (prX s last x) := by show (bif x.2.isNil then _ else _) = _; rw [hn]; rfl
  have e2 : prsV s (n + 1) last x = prV s x :: prsV s n (some (prV s x)) (prX s last x) := by show (bif x.2.isNil then _ else _) = _; rw [hn]; rfl
  rw [e1] at h
  obtain ⟨g1, g2⟩ := seg_pr hx (prsX_keep n _ _ h)
  obtain ⟨g4, g5⟩ := seg_prs n (some (prV s x)) (prX s last x) (i + 1) (hx.pr last) h
  rw [e1, e2]
  refine ⟨g1.app g4, ?_⟩
  have hE : pw1 last (prV s x) = 0 := by
   unfold pw1
   rw [prV_in x]
   cases last with
   | none => rfl
   | some q =>
    have g2 : ltP q (prV s x) = true := g2
    show (bif ltP q (prV s x) then (0 : Int) else 9) = 0
    rw [g2]; rfl
  rw [prsE_cons, hE]
  exact g5
end Go.Ab.T
namespace Go.Ab.T
open Go Go.Ab
abbrev Act3 := Int × Int × Int
def ltA (a b : Act3) : Bool := ltP (a.1, a.2.1) (b.1, b.2.1)
def cmpA (a b : Act3) : Int := cmpP (a.1, a.2.1) (b.1, b.2.1)
theorem cmpA_lt (a b : Act3) : decide (cmpA a b < 0) = ltA a b := cmpP_lt _ _
def doesA (n : Int) : Bool := n == 1 || n == 2
theorem doesA_iff {n : Int} : doesA n = true ↔ n = 1 \/ n = 2 := by unfold doesA; rw [Bool.or_eq_true, beq_iff_eq, beq_iff_eq]
def inA (p : Act3) : Bool := idOk p.1 && idOk p.2.1
theorem inA_iff {p : Act3} : inA p = true ↔ (0 <= p.1 /\ p.1 <= 255) /\ 0 <= p.2.1 /\ p.2.1 <= 255 := by
 unfold inA; rw [Bool.and_eq_true, idOk_iff, idOk_iff]
def ordA (p : Option Act3) (x : Act3) : Bool := match p with | none => true | some q => ltA q x
def aw1 (p : Option Act3) (x : Act3) : Int := bif inA x then (bif doesA x.2.2 then (bif ordA p x then 0 else 9) else 6) else 18
def actsE : Option Act3 -> Nat -> List Act3 -> Err
 | _, _, [] => .nil
 | p, i, x :: r => bif aw1 p x == 0 then actsE (some x) (i + 1) r else .sec 5 (.plc (i : Int) (.cls (aw1 p x)))
theorem actsE_cons (p : Option Act3) (i : Nat) (x : Act3) (r : List Act3) : actsE p i (x :: r) = bif aw1 p x == 0 then actsE (some x) (i + 1) r else .sec 5 (.plc (i : Int) (.cls (aw1 p x))) := rfl
theorem aw1_cases (p : Option Act3) (x : Act3) : aw1 p x = 0 \/ aw1 p x = 9 \/ aw1 p x = 6 \/ aw1 p x = 18 := by
 unfold aw1
 cases inA x with
 | false => exact .inr (.inr (.inr rfl))
 | true =>
  cases doesA x.2.2 with
  | false => exact .inr (.inr (.inl rfl))
  | true =>
   cases ordA p x with
   | true => exact .inl rfl
   | false => exact .inr (.inl rfl)
theorem aw1_zero {p : Option Act3} {x : Act3} (h : aw1 p x = 0) : inA x = true /\ doesA x.2.2 = true /\ ordA p x = true := by
 unfold aw1 at h
 cases c : inA x with
 | false => rw [c] at h; exact absurd (show (18 : Int) = 0 from h) (by decide)
 | true =>
  cases c2 : doesA x.2.2 with
  | false => rw [c, c2] at h; exact absurd (show (6 : Int) = 0 from h) (by decide)
  | true =>
   cases c3 : ordA p x with
   | false => rw [c, c2, c3] at h; exact absurd (show (9 : Int) = 0 from h) (by decide)
   | true => exact ⟨rfl, rfl, rfl⟩
def actB (p : Act3) : List UInt8 := beL 1 p.1.toNat ++ beL 1 p.2.1.toNat ++ beL 1 p.2.2.toNat
def actsB : List Act3 -> List UInt8
 | [] => []
 | p :: r => actB p ++ actsB r
theorem actB_len (p : Act3) : (actB p).length = 3 := by unfold actB; simp only [List.length_append, beL_len]
theorem actsB_len : ∀ l : List Act3, (actsB l).length = 3 * l.length
 | [] => rfl
 | p :: r => by rw [actsB, List.length_append, actB_len, actsB_len r, List.length_cons]; omega
def prevA (l : List Act3) : Nat -> Option Act3
 | 0 => none
 | i + 1 => l[i]?
def addAc (l : List UInt8) (p : Act3) : List UInt8 := l ++ actB p
theorem act_bytes (out : List UInt8) (y : Act3) (r : List UInt8) (b : List UInt8) (e : Err) : outP b e (addAc out y) r = outP b e out (actB y ++ r) := by
 unfold outP addAc; simp only [List.append_assoc]
def ac1 (s : ByteArray) (x : RS) : RS := r1 s 5 1 (r1 s 5 1 (r1 s 5 1 x))
def acV (s : ByteArray) (x : RS) : Act3 := (rdV s x.1 1 x.2, rdV s (r1 s 5 1 x).1 1 (r1 s 5 1 x).2, rdV s (r1 s 5 1 (r1 s 5 1 x)).1 1 (r1 s 5 1 (r1 s 5 1 x)).2)
def acE (s : ByteArray) (x : RS) : Err := needE (ac1 s x).2 (doesA (acV s x).2.2) 5 6 (x.1 + 2)
def acX (s : ByteArray) (last : Option Act3) (x : RS) : RS := ((ac1 s x).1, needE (acE s x) (ordA last (acV s x)) 5 9 x.1)
def acsV (s : ByteArray) : Nat -> Option Act3 -> RS -> List Act3
 | 0, _, _ => []
 | n + 1, last, x => bif x.2.isNil then acV s x :: acsV s n (some (acV s x)) (acX s last x) else []
def acsX (s : ByteArray) : Nat -> Option Act3 -> RS -> RS
 | 0, _, x => x
 | n + 1, last, x => bif x.2.isNil then acsX s n (some (acV s x)) (acX s last x) else x
def addA2 (l m : List Act3) : List Act3 := l ++ m
def resA (s : ByteArray) (n : Nat) (x : RS) : List Act3 := bif (acsX s n none x).2.isNil then acsV s n none x else []
theorem hIn.ac1 {s : ByteArray} {x : RS} (h : hIn s x) : hIn s (ac1 s x) := ((h.r1 5 (by omega)).r1 5 (by omega)).r1 5 (by omega)
theorem hIn.ac {s : ByteArray} {x : RS} (last : Option Act3) (h : hIn s x) : hIn s (acX s last x) := h.ac1
theorem hIn.acs {s : ByteArray} : ∀ (n : Nat) (last : Option Act3) {x : RS}, hIn s x -> hIn s (acsX s n last x)
 | 0, _, _, h => h
 | n + 1, last, x, h => by
  unfold acsX
  cases x.2.isNil with
  | false => exact h
  | true => exact hIn.acs n _ (h.ac last)
theorem acX_keep {s : ByteArray} {last : Option Act3} {x : RS} (h : (acX s last x).2.isNil = true) :
 (ac1 s x).2.isNil = true /\ (r1 s 5 1 (r1 s 5 1 x)).2.isNil = true /\ (r1 s 5 1 x).2.isNil = true /\ x.2.isNil = true /\ doesA (acV s x).2.2 = true /\ ordA last (acV s x) = true := by
 have h : (needE (acE s x) (ordA last (acV s x)) 5 9 x.1).isNil = true := h
 rw [needE_nil _ _ _ _ rfl, Bool.and_eq_true] at h
 obtain ⟨h1, h2⟩ := h
 unfold acE at h2
 rw [needE_nil _ _ _ _ rfl, Bool.and_eq_true] at h2
 have g1 := (r1_keep h2.2).2
 have g2 := (r1_keep g1).2
 exact ⟨h2.2, g1, g2, (r1_keep g2).2, h2.1, h1⟩
theorem acsX_keep {s : ByteArray} : ∀ (n : Nat) (last : Option Act3) (x : RS), (acsX s n last x).2.isNil = true -> x.2.isNil = true
 | 0, _, _, h => h
 | n + 1, last, x, h => by
  unfold acsX at h
  cases c : x.2.isNil with
  | true => rfl
  | false => rw [c] at h; rw [cond_false, c] at h; exact h
theorem acV_in {s : ByteArray} (x : RS) : inA (acV s x) = true := by
 rw [inA_iff]
 obtain ⟨v0, v1⟩ := rdV_lt s x.1 1 x.2
 obtain ⟨w0, w1⟩ := rdV_lt s (r1 s 5 1 x).1 1 (r1 s 5 1 x).2
 have v1 : rdV s x.1 (1 : Int) x.2 < 256 := v1
 have w1 : rdV s (r1 s 5 1 x).1 (1 : Int) (r1 s 5 1 x).2 < 256 := w1
 exact ⟨⟨v0, by show rdV s x.1 1 x.2 <= 255; omega⟩, w0, by show rdV s (r1 s 5 1 x).1 1 (r1 s 5 1 x).2 <= 255; omega⟩
theorem seg_ac {s : ByteArray} {x : RS} {last : Option Act3} (hx : hIn s x) (h : (acX s last x).2.isNil = true) : Seg s x.1 (acX s last x).1 (actB (acV s x)) /\ doesA (acV s x).2.2 = true /\ ordA last (acV s x) = true := by
 obtain ⟨h1, h2, h3, h4, h5, h6⟩ := acX_keep h
 obtain ⟨g1, _⟩ := seg_rd hx (n := 1) (k := 1) rfl (r1_keep h3).1
 obtain ⟨g2, _⟩ := seg_rd (hx.r1 (n := 1) 5 (by omega)) (n := 1) (k := 1) rfl (r1_keep h2).1
 obtain ⟨g3, _⟩ := seg_rd ((hx.r1 (n := 1) 5 (by omega)).r1 (n := 1) 5 (by omega)) (n := 1) (k := 1) rfl (r1_keep h1).1
 exact ⟨(g1.app g2).app g3, h5, h6⟩
theorem seg_acs {s : ByteArray} : ∀ (n : Nat) (last : Option Act3) (x : RS) (i : Nat), hIn s x -> (acsX s n last x).2.isNil = true ->
 Seg s x.1 (acsX s n last x).1 (actsB (acsV s n last x)) /\ (actsE last i (acsV s n last x)).isNil = true
 | 0, last, x, i, hx, _ => ⟨Seg.nil hx.1 hx.2, by cases last <;> rfl⟩
 | n + 1, last, x, i, hx, h => by
  have hn := acsX_keep (n + 1) last x h
  have e1 : acsX s (n + 1) last x = acsX s n (some (acV s x)) (acX s last x) := by show (bif x.2.isNil then _ else _) = _; rw [hn]; rfl
  have e2 : acsV s (n + 1) last x = acV s x :: acsV s n (some (acV s x)) (acX s last x) := by show (bif x.2.isNil then _ else _) = _; rw [hn]; rfl
  rw [e1] at h
  obtain ⟨g1, g2, g3⟩ := seg_ac hx (acsX_keep n _ _ h)
  obtain ⟨g4, g5⟩ := seg_acs n (some (acV s x)) (acX s last x) (i + 1) (hx.ac last) h
  rw [e1, e2]
  refine ⟨g1.app g4, ?_⟩
  have hE : aw1 last (acV s x) = 0 := by
   unfold aw1
   rw [acV_in x, g2, g3]; rfl
  rw [actsE_cons, hE]
  exact g5
end Go.Ab.T
namespace Go.Ab.T
open Go Go.Ab
def trX (s : ByteArray) (sec : Int) (x : RS) : RS := (rdAt s x.1 1 x.2, needE (rdE s x.1 1 sec x.2) (decide (rdV s x.1 1 x.2 <= 1)) sec 6 x.1)
def trV (s : ByteArray) (sec : Int) (x : RS) : Bool := (trX s sec x).2.isNil && (rdV s x.1 1 x.2 == 1)
def cl1 (s : ByteArray) (sec : Int) (x : RS) : RS := r1 s sec 4 (trX s sec x)
def clV1 (s : ByteArray) (sec : Int) (x : RS) : Cl := (rdV s (trX s sec x).1 4 (trX s sec x).2, trV s sec x)
def clsX (s : ByteArray) (sec : Int) : Nat -> RS -> RS
 | 0, x => x
 | n + 1, x => bif x.2.isNil then clsX s sec n (cl1 s sec x) else x
def clsV (s : ByteArray) (sec : Int) : Nat -> RS -> List Cl
 | 0, _ => []
 | n + 1, x => bif x.2.isNil then clV1 s sec x :: clsV s sec n (cl1 s sec x) else []
def cnX (s : ByteArray) (sec : Int) (x : RS) : RS := cntX s sec 1 16 x
def cnN (s : ByteArray) (x : RS) : Nat := (rdV s x.1 1 x.2).toNat
def clX (s : ByteArray) (sec : Int) (x : RS) : RS := bif (cnX s sec x).2.isNil then clsX s sec (cnN s x) (cnX s sec x) else cnX s sec x
def clV (s : ByteArray) (sec : Int) (x : RS) : List Cl := clsV s sec (cnN s x) (cnX s sec x)
def ptI (s : ByteArray) (last : Int) (x : RS) : RS := (rdAt s x.1 1 x.2, needE (rdE s x.1 1 2 x.2) (decide (rdV s x.1 1 x.2 > last)) 2 9 x.1)
def ptM (s : ByteArray) (last : Int) (x : RS) : RS := trX s 2 (ptI s last x)
def ptN (s : ByteArray) (last : Int) (x : RS) : RS := (nmAt s (ptM s last x).1 2 (ptM s last x).2, nmE s (ptM s last x).1 2 (ptM s last x).2)
def ptX (s : ByteArray) (last : Int) (x : RS) : RS := clX s 2 (ptN s last x)
def ptV (s : ByteArray) (last : Int) (x : RS) : Prt := (rdV s x.1 1 x.2, nmT s (ptM s last x).1 2 (ptM s last x).2, trV s 2 (ptI s last x), clV s 2 (ptN s last x))
def ptsX (s : ByteArray) : Nat -> Int -> RS -> RS
 | 0, _, x => x
 | n + 1, last, x => bif x.2.isNil then ptsX s n (rdV s x.1 1 x.2) (ptX s last x) else x
def ptsV (s : ByteArray) : Nat -> Int -> RS -> List Prt
 | 0, _, _ => []
 | n + 1, last, x => bif x.2.isNil then ptV s last x :: ptsV s n (rdV s x.1 1 x.2) (ptX s last x) else []
def resPt (s : ByteArray) (n : Nat) (x : RS) : List Prt := bif (ptsX s n (-1) x).2.isNil then ptsV s n (-1) x else []
section
variable {s : ByteArray}
theorem hIn.tr {x : RS} (sec : Int) (h : hIn s x) : hIn s (trX s sec x) := rdAt_le h.1 h.2 (by omega)
theorem hIn.cl1 {x : RS} (sec : Int) (h : hIn s x) : hIn s (cl1 s sec x) := (h.tr sec).r1 sec (by omega)
theorem hIn.cls (sec : Int) : ∀ (n : Nat) {x : RS}, hIn s x -> hIn s (clsX s sec n x)
 | 0, _, h => h
 | n + 1, x, h => by
  unfold clsX
  cases x.2.isNil with
  | false => exact h
  | true => exact hIn.cls sec n (h.cl1 sec)
theorem hIn.cn {x : RS} (sec : Int) (h : hIn s x) : hIn s (cnX s sec x) := h.cnt sec 16 (by omega)
theorem hIn.cl {x : RS} (sec : Int) (h : hIn s x) : hIn s (clX s sec x) := by
 unfold clX
 cases (cnX s sec x).2.isNil with
 | false => exact h.cn sec
 | true => exact hIn.cls sec _ (h.cn sec)
theorem hIn.ptI {x : RS} (last : Int) (h : hIn s x) : hIn s (ptI s last x) := rdAt_le h.1 h.2 (by omega)
theorem hIn.ptM {x : RS} (last : Int) (h : hIn s x) : hIn s (ptM s last x) := (h.ptI last).tr 2
theorem hIn.ptN {x : RS} (last : Int) (h : hIn s x) : hIn s (ptN s last x) := nmAt_le 2 (h.ptM last).1 (h.ptM last).2
theorem hIn.pt {x : RS} (last : Int) (h : hIn s x) : hIn s (ptX s last x) := (h.ptN last).cl 2
theorem trX_keep {sec : Int} {x : RS} (h : (trX s sec x).2.isNil = true) : rdOk s x.1 1 x.2 = true /\ rdV s x.1 1 x.2 <= 1 /\ x.2.isNil = true := by
 have h : (needE (rdE s x.1 1 sec x.2) (decide (rdV s x.1 1 x.2 <= 1)) sec 6 x.1).isNil = true := h
 rw [needE_nil _ _ _ _ rfl, Bool.and_eq_true, decide_eq_true_eq] at h
 exact ⟨(rdE_keep h.2).1, h.1, (rdE_keep h.2).2⟩
theorem cl1_keep {sec : Int} {x : RS} (h : (cl1 s sec x).2.isNil = true) : rdOk s (trX s sec x).1 4 (trX s sec x).2 = true /\ (trX s sec x).2.isNil = true /\ x.2.isNil = true := by
 obtain ⟨h1, h2⟩ := r1_keep h
 exact ⟨h1, h2, (trX_keep h2).2.2⟩
theorem clsX_keep {sec : Int} : ∀ (n : Nat) (x : RS), (clsX s sec n x).2.isNil = true -> x.2.isNil = true
 | 0, _, h => h
 | n + 1, x, h => by
  unfold clsX at h
  cases c : x.2.isNil with
  | true => rfl
  | false => rw [c] at h; rw [cond_false, c] at h; exact h
theorem clX_keep {sec : Int} {x : RS} (h : (clX s sec x).2.isNil = true) : (cnX s sec x).2.isNil = true := by
 unfold clX at h
 cases c : (cnX s sec x).2.isNil with
 | true => rfl
 | false => rw [c, cond_false, c] at h; exact h
theorem nmE_keep {a sec : Int} {e : Err} (h : (nmE s a sec e).isNil = true) : (nmK s a sec e).isNil = true /\ rdOk s a 1 e = true /\ 1 <= rdV s a 1 e /\ rdV s a 1 e <= 16 /\ e.isNil = true /\
 rdOk s (rdAt s a 1 e) (max (rdV s a 1 e) 0) (nmK s a sec e) = true /\ rightN (rdT s (rdAt s a 1 e) (max (rdV s a 1 e) 0) (nmK s a sec e)) = true := by
 unfold nmE at h
 cases c : (nmK s a sec e).isNil with
 | false => rw [c, cond_false, c] at h; cases h
 | true =>
  rw [c, cond_true, needE_nil _ _ _ _ rfl, Bool.and_eq_true] at h
  have c2 := c
  unfold nmK at c2
  rw [needE_nil _ _ _ _ rfl, Bool.and_eq_true, Bool.and_eq_true, decide_eq_true_eq, decide_eq_true_eq] at c2
  exact ⟨rfl, (rdE_keep c2.2).1, c2.1.1, c2.1.2, (rdE_keep c2.2).2, (rdE_keep h.2).1, h.1⟩
theorem ptX_keep {last : Int} {x : RS} (h : (ptX s last x).2.isNil = true) : (cnX s 2 (ptN s last x)).2.isNil = true /\ (ptN s last x).2.isNil = true /\ (ptM s last x).2.isNil = true /\ (ptI s last x).2.isNil = true /\ rdOk s x.1 1 x.2 = true /\ last < rdV s x.1 1 x.2 /\ x.2.isNil = true := by
 have h1 := clX_keep h
 have h2 := (cntX_keep h1).2.2
 have h3 := (nmE_keep h2).2.2.2.2.1
 have h4 := (trX_keep h3).2.2
 have h5 : (needE (rdE s x.1 1 2 x.2) (decide (rdV s x.1 1 x.2 > last)) 2 9 x.1).isNil = true := h4
 rw [needE_nil _ _ _ _ rfl, Bool.and_eq_true, decide_eq_true_eq] at h5
 exact ⟨h1, h2, h3, h4, (rdE_keep h5.2).1, h5.1, (rdE_keep h5.2).2⟩
theorem trX_ge (sec : Int) (x : RS) : x.1 <= (trX s sec x).1 := rdAt_ge s _ _ (by omega)
theorem cl1_ge (sec : Int) (x : RS) : x.1 <= (cl1 s sec x).1 := by
 have h1 := trX_ge (s := s) sec x
 have h2 : (trX s sec x).1 <= (cl1 s sec x).1 := rdAt_ge s _ _ (by omega)
 omega
theorem clsX_ge (sec : Int) : ∀ (n : Nat) (x : RS), x.1 <= (clsX s sec n x).1
 | 0, _ => Int.le_refl _
 | n + 1, x => by
  unfold clsX
  cases x.2.isNil with
  | false => exact Int.le_refl _
  | true => exact Int.le_trans (cl1_ge sec x) (clsX_ge sec n _)
theorem clX_ge (sec : Int) (x : RS) : x.1 <= (clX s sec x).1 := by
 have h1 : x.1 <= (cnX s sec x).1 := rdAt_ge s _ _ (by omega)
 unfold clX
 cases (cnX s sec x).2.isNil with
 | false => exact h1
 | true => exact Int.le_trans h1 (clsX_ge sec _ _)
theorem nmAt_ge (a sec : Int) (e : Err) : a <= nmAt s a sec e := by
 have h1 : a <= rdAt s a 1 e := rdAt_ge s _ _ (by omega)
 unfold nmAt
 cases (nmK s a sec e).isNil with
 | false => exact h1
 | true => exact Int.le_trans h1 (rdAt_ge s _ _ (by omega))
theorem ptX_adv {last : Int} {x : RS} (h : (ptX s last x).2.isNil = true) : x.1 + 1 <= (ptX s last x).1 := by
 obtain ⟨_, _, _, _, h5, _, _⟩ := ptX_keep h
 have e : (ptI s last x).1 = x.1 + 1 := by show rdAt s x.1 1 x.2 = _; unfold rdAt; rw [h5]; rfl
 have g1 : (ptI s last x).1 <= (ptM s last x).1 := trX_ge 2 _
 have g2 : (ptM s last x).1 <= (ptN s last x).1 := nmAt_ge _ _ _
 have g3 := clX_ge (s := s) 2 (ptN s last x)
 unfold ptX; omega
theorem bit_beL {v : Int} (h0 : 0 <= v) (h1 : v <= 1) : beL 1 v.toNat = beL 1 (bitN (v == 1)) := by
 rcases (show v = 0 \/ v = 1 by omega) with rfl | rfl <;> rfl
theorem seg_tr {sec : Int} {x : RS} (hx : hIn s x) (h : (trX s sec x).2.isNil = true) : Seg s x.1 (trX s sec x).1 (beL 1 (bitN (trV s sec x))) := by
 obtain ⟨h1, h2, _⟩ := trX_keep h
 obtain ⟨g1, g1'⟩ := seg_rd hx (n := 1) (k := 1) rfl h1
 have e : trV s sec x = (rdV s x.1 1 x.2 == 1) := by unfold trV; rw [h]; rfl
 rw [e, <- bit_beL g1' h2]; exact g1
theorem seg_cl1 {sec : Int} {x : RS} (hx : hIn s x) (h : (cl1 s sec x).2.isNil = true) : Seg s x.1 (cl1 s sec x).1 (cellB (clV1 s sec x)) /\ OkC (clV1 s sec x) := by
 obtain ⟨h1, h2, _⟩ := cl1_keep h
 obtain ⟨g1, g1'⟩ := seg_rd (hx.tr sec) (n := 4) (k := 4) rfl h1
 obtain ⟨v0, v1⟩ := rdV_lt s (trX s sec x).1 4 (trX s sec x).2
 have v1 : rdV s (trX s sec x).1 (4 : Int) (trX s sec x).2 < ((256 ^ 4 : Nat) : Int) := v1
 rw [q256_4] at v1
 exact ⟨(seg_tr hx h2).app g1, g1', v1⟩
theorem seg_cls {sec : Int} : ∀ (n : Nat) (x : RS), hIn s x -> (clsX s sec n x).2.isNil = true -> Seg s x.1 (clsX s sec n x).1 (cellsB (clsV s sec n x)) /\ (∀ c, c ∈ clsV s sec n x -> OkC c) /\ (clsV s sec n x).length = n
 | 0, x, hx, _ => ⟨Seg.nil hx.1 hx.2, (fun w hw => by cases hw), rfl⟩
 | n + 1, x, hx, h => by
  have hn := clsX_keep (n + 1) x h
  have e1 : clsX s sec (n + 1) x = clsX s sec n (cl1 s sec x) := by show (bif x.2.isNil then _ else _) = _; rw [hn]; rfl
  have e2 : clsV s sec (n + 1) x = clV1 s sec x :: clsV s sec n (cl1 s sec x) := by show (bif x.2.isNil then _ else _) = _; rw [hn]; rfl
  rw [e1] at h
  obtain ⟨g1, g2⟩ := seg_cl1 hx (clsX_keep n _ h)
  obtain ⟨g3, g4, g5⟩ := seg_cls n (cl1 s sec x) (hx.cl1 sec) h
  rw [e1, e2]
  refine ⟨g1.app g3, fun w hw => ?_, by rw [List.length_cons, g5]⟩
  rcases List.mem_cons.1 hw with rfl | hw
  ·exact g2
  ·exact g4 w hw
theorem seg_cl {sec : Int} {x : RS} (hx : hIn s x) (h : (clX s sec x).2.isNil = true) :
 Seg s x.1 (clX s sec x).1 (beL 1 (clV s sec x).length ++ cellsB (clV s sec x)) /\ (∀ c, c ∈ clV s sec x -> OkC c) /\ (clV s sec x).length <= 16 := by
 have hc := clX_keep h
 obtain ⟨c1, c2, c3⟩ := cntX_keep hc
 obtain ⟨g1, g1'⟩ := seg_rd hx (n := 1) (k := 1) rfl c1
 have e1 : clX s sec x = clsX s sec (cnN s x) (cnX s sec x) := by unfold clX; rw [hc]; rfl
 rw [e1] at h
 obtain ⟨g3, g4, g5⟩ := seg_cls _ _ (hx.cn sec) h
 have g5' : (clV s sec x).length = cnN s x := g5
 rw [e1]
 refine ⟨?_, g4, by rw [g5']; unfold cnN; omega⟩
 rw [g5']
 exact g1.app g3
theorem seg_nm {sec : Int} {x : RS} (hx : hIn s x) (h : (nmE s x.1 sec x.2).isNil = true) : Seg s x.1 (nmAt s x.1 sec x.2) (nameB (nmT s x.1 sec x.2)) /\ rightN (nmT s x.1 sec x.2) = true := by
 obtain ⟨hK, h1, h2, h3, h4, h5, h6⟩ := nmE_keep h
 have eT : nmT s x.1 sec x.2 = rdT s (rdAt s x.1 1 x.2) (max (rdV s x.1 1 x.2) 0) (nmK s x.1 sec x.2) := by unfold nmT; rw [h]; rfl
 have eA : nmAt s x.1 sec x.2 = rdAt s (rdAt s x.1 1 x.2) (max (rdV s x.1 1 x.2) 0) (nmK s x.1 sec x.2) := by unfold nmAt; rw [hK]; rfl
 obtain ⟨g1, g1'⟩ := seg_rd hx (n := 1) (k := 1) rfl h1
 have hm : max (rdV s x.1 1 x.2) 0 = rdV s x.1 1 x.2 := by omega
 rw [hm] at eT eA h5 h6
 rw [<- eT] at h6
 have hx1 : 0 <= rdAt s x.1 1 x.2 /\ rdAt s x.1 1 x.2 <= s.size := rdAt_le hx.1 hx.2 (by omega)
 have hfit : rdV s x.1 1 x.2 <= (s.size : Int) - rdAt s x.1 1 x.2 := by
  unfold rdOk at h5; rw [Bool.and_eq_true, decide_eq_true_eq] at h5; exact h5.1
 have eT2 : nmT s x.1 sec x.2 = s.extract (rdAt s x.1 1 x.2).toNat (rdAt s x.1 1 x.2 + rdV s x.1 1 x.2).toNat := by rw [eT]; unfold rdT; rw [h5]; rfl
 have eA2 : nmAt s x.1 sec x.2 = rdAt s x.1 1 x.2 + rdV s x.1 1 x.2 := by
  have gen : ∀ (b m : Int) (e : Err), rdOk s b m e = true -> rdAt s b m e = b + m := fun b m e h => by unfold rdAt; rw [h]; rfl
  rw [eA]; exact gen _ _ _ h5
 have hsz : (nmT s x.1 sec x.2).size = (rdV s x.1 1 x.2).toNat := by
  rw [eT2, ByteArray.size_extract]; omega
 refine ⟨?_, h6⟩
 have g2 : Seg s (rdAt s x.1 1 x.2) (nmAt s x.1 sec x.2) (nmT s x.1 sec x.2).data.toList := by
  refine ⟨hx1.1, by rw [eA2]; omega, by rw [eA2]; omega, ?_⟩
  rw [eT2, eA2, ByteArray.data_extract, Array.toList_extract, List.extract_eq_take_drop]
 refine (g1.app g2).cast rfl ?_
 unfold nameB
 have e1 : beL 1 (rdV s x.1 1 x.2).toNat = [UInt8.ofNat (rdV s x.1 1 x.2).toNat] := beL_one (by omega)
 rw [e1, hsz]; rfl
theorem okP_prtR {p : Prt} (h : OkP p) : prtR p = 0 := by
 obtain ⟨⟨a1, a2⟩, a3, a4⟩ := h
 unfold prtR
 rw [decide_eq_false (by omega : ¬ p.1 < 0), decide_eq_false (by omega : ¬ p.1 > 255), a3, decide_eq_false (by omega : ¬ ((p.2.2.2.length : Int) > 16))]; rfl
theorem seg_pt {x : RS} {last : Int} (hx : hIn s x) (h : (ptX s last x).2.isNil = true) : Seg s x.1 (ptX s last x).1 (prtB (ptV s last x)) /\ OkP (ptV s last x) /\ last < (ptV s last x).1 /\ (∀ c, c ∈ (ptV s last x).2.2.2 -> OkC c) := by
 obtain ⟨h1, h2, h3, h4, h5, h6, h7⟩ := ptX_keep h
 obtain ⟨g1, g1'⟩ := seg_rd hx (n := 1) (k := 1) rfl h5
 have g2 := seg_tr (hx.ptI last) h3
 obtain ⟨g3, g4⟩ := seg_nm (sec := 2) (hx.ptM last) h2
 obtain ⟨g5, g6, g7⟩ := seg_cl (sec := 2) (hx.ptN last) h
 obtain ⟨v0, v1⟩ := rdV_lt s x.1 1 x.2
 have v1 : rdV s x.1 (1 : Int) x.2 < 256 := v1
 refine ⟨(g1.app (g2.app (g3.app g5))).cast rfl rfl, ⟨⟨g1', by show rdV s x.1 1 x.2 <= 255; omega⟩, g4, g7⟩, h6, g6⟩
theorem ptsX_keep : ∀ (n : Nat) (last : Int) (x : RS), (ptsX s n last x).2.isNil = true -> x.2.isNil = true
 | 0, _, _, h => h
 | n + 1, last, x, h => by
  unfold ptsX at h
  cases c : x.2.isNil with
  | true => rfl
  | false => rw [c] at h; rw [cond_false, c] at h; exact h
theorem hIn.pts : ∀ (n : Nat) (last : Int) {x : RS}, hIn s x -> hIn s (ptsX s n last x)
 | 0, _, _, h => h
 | n + 1, last, x, h => by
  unfold ptsX
  cases x.2.isNil with
  | false => exact h
  | true => exact hIn.pts n _ (h.pt last)
theorem seg_pts : ∀ (n : Nat) (last : Int) (x : RS) (p : Option Int) (i : Nat), hIn s x -> (∀ q, p = some q -> last = q) -> (ptsX s n last x).2.isNil = true ->
 Seg s x.1 (ptsX s n last x).1 (prtsB (ptsV s n last x)) /\ (prtsE p i (ptsV s n last x)).isNil = true /\ (∀ y, y ∈ ptsV s n last x -> ∀ c, c ∈ y.2.2.2 -> OkC c)
 | 0, last, x, p, i, hx, _, _ => ⟨Seg.nil hx.1 hx.2, rfl, (fun w hw => by cases hw)⟩
 | n + 1, last, x, p, i, hx, hp, h => by
  have hn := ptsX_keep (n + 1) last x h
  have e1 : ptsX s (n + 1) last x = ptsX s n (rdV s x.1 1 x.2) (ptX s last x) := by show (bif x.2.isNil then _ else _) = _; rw [hn]; rfl
  have e2 : ptsV s (n + 1) last x = ptV s last x :: ptsV s n (rdV s x.1 1 x.2) (ptX s last x) := by show (bif x.2.isNil then _ else _) = _; rw [hn]; rfl
  rw [e1] at h
  obtain ⟨g1, g2, g3, g4⟩ := seg_pt hx (ptsX_keep n _ _ h)
  obtain ⟨g5, g6, g7⟩ := seg_pts n (rdV s x.1 1 x.2) (ptX s last x) (some (ptV s last x).1) (i + 1) (hx.pt last) (fun q hq => Option.some.inj hq) h
  rw [e1, e2]
  refine ⟨g1.app g5, ?_, fun y hy => ?_⟩
  ·have hE : wE1 p (ptV s last x).1 (prtR (ptV s last x)) = 0 := by
    rw [okP_prtR g2]
    cases p with
    | none => rfl
    | some q =>
     rw [wE1_some rfl, <- hp q rfl, decide_eq_false (by omega)]; rfl
   rw [prtsE_cons, hE]; exact g6
  ·rcases List.mem_cons.1 hy with rfl | hy
   ·exact g4
   ·exact g7 y hy
end
end Go.Ab.T
namespace Go.Ab.T
open Go
def stepN (v : Nat) : Nat := if v % 2 = 1 then (v / 2) ^^^ 3988292384 else v / 2
def step8 (v : Nat) : Nat := stepN (stepN (stepN (stepN (stepN (stepN (stepN (stepN v)))))))
def stepIt : Nat -> Nat -> Nat
 | 0, v => v
 | n + 1, v => stepIt n (stepN v)
theorem stepN_xor (a b : Nat) : stepN (a ^^^ b) = stepN a ^^^ stepN b := by
 unfold stepN
 have h := Nat.xor_mod_two_eq_one (a := a) (b := b)
 have hd : (a ^^^ b) / 2 = a / 2 ^^^ b / 2 := Nat.xor_div_two
 by_cases ha : a % 2 = 1 <;> by_cases hb : b % 2 = 1
 ·rw [if_neg (by rw [h]; simp [ha, hb]), if_pos ha, if_pos hb, hd]
  rw [Nat.xor_assoc, <- Nat.xor_assoc 3988292384, Nat.xor_comm 3988292384 (b / 2), Nat.xor_assoc (b / 2), Nat.xor_self, Nat.xor_zero]
 ·rw [if_pos (by rw [h]; simp [ha, hb]), if_pos ha, if_neg hb, hd]
  rw [Nat.xor_assoc, Nat.xor_comm (b / 2), <- Nat.xor_assoc]
 ·rw [if_pos (by rw [h]; simp [ha, hb]), if_neg ha, if_pos hb, hd, Nat.xor_assoc]
 ·rw [if_neg (by rw [h]; simp [ha, hb]), if_neg ha, if_neg hb, hd]
theorem step8_xor (a b : Nat) : step8 (a ^^^ b) = step8 a ^^^ step8 b := by
 unfold step8
 simp only [stepN_xor]
theorem stepN_even (k : Nat) : stepN (2 * k) = k := by
 unfold stepN
 rw [if_neg (by omega)]; omega
theorem step8_high (h : Nat) : step8 (256 * h) = h := by
 unfold step8
 rw [show 256 * h = 2 * (2 * (2 * (2 * (2 * (2 * (2 * (2 * h))))))) by omega]
 simp only [stepN_even]
theorem stepN_lt {v : Nat} (h : v < 4294967296) : stepN v < 4294967296 := by
 unfold stepN
 split
 ·exact Nat.xor_lt_two_pow (n := 32) (by omega) (by decide)
 ·omega
theorem step8_lt {v : Nat} (h : v < 4294967296) : step8 v < 4294967296 :=
 stepN_lt (stepN_lt (stepN_lt (stepN_lt (stepN_lt (stepN_lt (stepN_lt (stepN_lt h)))))))
theorem split256 (v : Nat) : v = (v % 256) ^^^ (256 * (v / 256)) := by
 have h1 : (v % 256 ^^^ 256 * (v / 256)) % 256 = v % 256 := by
  have := Nat.xor_mod_two_pow (a := v % 256) (b := 256 * (v / 256)) (n := 8)
  rw [show (2 : Nat) ^ 8 = 256 from rfl] at this
  rw [this, Nat.mod_mod, Nat.mul_mod_right, Nat.xor_zero]
 have h2 : (v % 256 ^^^ 256 * (v / 256)) / 256 = v / 256 := by
  have := Nat.xor_div_two_pow (a := v % 256) (b := 256 * (v / 256)) (n := 8)
  rw [show (2 : Nat) ^ 8 = 256 from rfl] at this
  rw [this, Nat.mul_div_cancel_left _ (by decide), Nat.div_eq_of_lt (Nat.mod_lt _ (by decide)), Nat.zero_xor]
 omega
theorem step8_tab (v b : Nat) : step8 (v ^^^ b) = step8 ((v % 256) ^^^ b) ^^^ (v / 256) := by
 have e : v ^^^ b = ((v % 256) ^^^ b) ^^^ (256 * (v / 256)) := by
  conv => lhs; rw [split256 v]
  rw [Nat.xor_assoc, Nat.xor_comm (256 * (v / 256)) b, <- Nat.xor_assoc]
 rw [e, step8_xor, step8_high]
def crcV (v : Nat) (l : List UInt8) : Nat := l.foldl (fun v b => step8 (v ^^^ b.toNat)) v
def crcN (l : List UInt8) : Nat := 4294967295 - crcV 4294967295 l
theorem u8_lt (b : UInt8) : b.toNat < 4294967296 := by have := b.toNat_lt; omega
theorem upd_lt {v : Nat} (h : v < 4294967296) (b : UInt8) : step8 (v ^^^ b.toNat) < 4294967296 := step8_lt (Nat.xor_lt_two_pow (n := 32) h (u8_lt b))
theorem crcV_lt : ∀ (l : List UInt8) (v : Nat), v < 4294967296 -> crcV v l < 4294967296
 | [], _, h => h
 | b :: l, v, h => crcV_lt l _ (upd_lt h b)
end Go.Ab.T
namespace Go.Ab.T
open Go Go.Ab
abbrev Mdl := Int × Int × List Prt × List Sch × List Pr × List Act3
def sumAt (s : ByteArray) : Int := getV s ((s.size : Int) - 4) 4
def preS (s : ByteArray) : ByteArray := s.extract 0 (s.size - 4)
def frE (s : ByteArray) (t : Int) : Err :=
 bif t != (s.size : Int) then .sec 1 (.plc 4 (.cls 4)) else bif decide ((s.size : Int) < 27) then .sec 6 (.plc 23 (.cls 2)) else
 bif sumAt s != ((crcN (preS s).data.toList : Nat) : Int) then .sec 6 (.plc ((s.size : Int) - 4) (.cls 5)) else .nil
def iH (s : ByteArray) : RS := hx11 s (0, .nil)
def iT (s : ByteArray) : Int := hV s 4 (iH s) (hx4 s (0, .nil))
def iEp (s : ByteArray) : Int := hV s 8 (iH s) (hx5 s (0, .nil))
def iFi (s : ByteArray) : Int := hV s 1 (iH s) (hx6 s (0, .nil))
def iP (s : ByteArray) : Int := hV s 1 (iH s) (hx7 s (0, .nil))
def iS (s : ByteArray) : Int := hV s 1 (iH s) (hx8 s (0, .nil))
def iR (s : ByteArray) : Int := hV s 2 (iH s) (hx9 s (0, .nil))
def iA (s : ByteArray) : Int := hV s 2 (iH s) (hx10 s (0, .nil))
def headE (s : ByteArray) : Err := bif (iH s).2.isNil then frE s (iT s) else (iH s).2
def d0 : RS := (23, .nil)
def dP (t : ByteArray) (np : Int) : RS := ptsX t np.toNat (-1) d0
def dS (t : ByteArray) (np ns : Int) : RS := schsX t ns.toNat (-1) (dP t np)
def dR (t : ByteArray) (np ns nr : Int) : RS := prsX t nr.toNat none (dS t np ns)
def dA (t : ByteArray) (np ns nr na : Int) : RS := acsX t na.toNat none (dR t np ns nr)
def endE (t : ByteArray) (x : RS) : Err := bif x.2.isNil then (bif decide ((t.size : Int) - x.1 > 0) then .sec 6 (.plc x.1 (.cls 4)) else .nil) else x.2
def decE (s : ByteArray) : Err := bif (headE s).isNil then endE (preS s) (dA (preS s) (iP s) (iS s) (iR s) (iA s)) else headE s
def decP (s : ByteArray) : List Prt := ptsV (preS s) (iP s).toNat (-1) d0
def decS (s : ByteArray) : List Sch := schsV (preS s) (iS s).toNat (-1) (dP (preS s) (iP s))
def decR (s : ByteArray) : List Pr := prsV (preS s) (iR s).toNat none (dS (preS s) (iP s) (iS s))
def decA (s : ByteArray) : List Act3 := acsV (preS s) (iA s).toNat none (dR (preS s) (iP s) (iS s) (iR s))
theorem schsX_err {s : ByteArray} {x : RS} (h : x.2.isNil = false) : ∀ (n : Nat) (last : Int), schsX s n last x = x
 | 0, _ => rfl
 | n + 1, last => by show (bif x.2.isNil then _ else x) = x; rw [h]; rfl
theorem prsX_err {s : ByteArray} {x : RS} (h : x.2.isNil = false) : ∀ (n : Nat) (last : Option Pr), prsX s n last x = x
 | 0, _ => rfl
 | n + 1, last => by show (bif x.2.isNil then _ else x) = x; rw [h]; rfl
theorem acsX_err {s : ByteArray} {x : RS} (h : x.2.isNil = false) : ∀ (n : Nat) (last : Option Act3), acsX s n last x = x
 | 0, _ => rfl
 | n + 1, last => by show (bif x.2.isNil then _ else x) = x; rw [h]; rfl
def decM (s : ByteArray) : Mdl := bif (decE s).isNil then (iEp s, iFi s, decP s, decS s, decR s, decA s) else (0, 0, [], [], [], [])
theorem hIn_schs {s : ByteArray} : ∀ (n : Nat) (last : Int) {x : RS}, hIn s x -> hIn s (schsX s n last x)
 | 0, _, _, h => h
 | n + 1, last, x, h => by
  unfold schsX
  cases x.2.isNil with
  | false => exact h
  | true => exact hIn_schs n _ (h.sch last)
theorem hV_bound (s : ByteArray) (n : Nat) (x y : RS) : 0 <= hV s n x y /\ hV s n x y < ((256 ^ n : Nat) : Int) := by
 unfold hV
 cases x.2.isNil with
 | true => exact rdV_lt s y.1 n y.2
 | false => exact ⟨Int.le_refl 0, by have := Nat.pow_pos (n := n) (show 0 < 256 by decide); show (0 : Int) < _; omega⟩
theorem hV_le {n : Nat} (s : ByteArray) (x y : RS) (h : n <= 2) : hV s n x y <= 9223372036854775807 := by
 have h1 := (hV_bound s n x y).2
 have h2 : 256 ^ n <= 256 ^ 2 := Nat.pow_le_pow_right (by omega) h
 have h3 : 256 ^ 2 = 65536 := by decide
 omega
theorem iT_lt (s : ByteArray) : 0 <= iT s /\ iT s < 4294967296 := by
 have h := hV_bound s 4 (iH s) (hx4 s (0, .nil))
 have h3 : 256 ^ 4 = 4294967296 := by decide
 rw [h3] at h
 exact h
theorem frE_27 {s : ByteArray} {t : Int} (h : (frE s t).isNil = true) : 27 <= s.size := by
 unfold frE at h
 cases c1 : t != (s.size : Int) with
 | true => rw [c1] at h; cases h
 | false =>
  cases c2 : decide ((s.size : Int) < 27) with
  | true => rw [c1, c2] at h; cases h
  | false => rw [decide_eq_false_iff_not] at c2; omega
end Go.Ab.T
namespace Go.Ab.T
open Go Go.Ab
def firstE : List Err -> Err
 | [] => .nil
 | e :: r => bif e.isNil then firstE r else e
def imgEs (m : Mdl) : List Err := [hdrE m.2.1 (m.2.2.1.length : Int) (m.2.2.2.1.length : Int) (m.2.2.2.2.1.length : Int) (m.2.2.2.2.2.length : Int), prtsE none 0 m.2.2.1, schsE none 0 m.2.2.2.1, prsE none 0 m.2.2.2.2.1, actsE none 0 m.2.2.2.2.2]
def imgE (m : Mdl) : Err := firstE (imgEs m)
theorem firstE_nil : ∀ l : List Err, (firstE l).isNil = true -> ∀ e, e ∈ l -> e.isNil = true
 | [], _, _, he => by cases he
 | e :: r, h, z, hz => by
  rw [firstE] at h
  cases c : e.isNil with
  | false => rw [c, cond_false, c] at h; cases h
  | true =>
   rw [c] at h
   rcases List.mem_cons.1 hz with rfl | hz
   ·exact c
   ·exact firstE_nil r h z hz
def bodL (m : Mdl) : List UInt8 := prtsB m.2.2.1 ++ (schsB m.2.2.2.1 ++ (pairsB m.2.2.2.2.1 ++ actsB m.2.2.2.2.2))
def totN (m : Mdl) : Int := 27 + ((bodL m).length : Int)
def imgH (m : Mdl) : List UInt8 := hdrL (totN m) m.1 m.2.1 (m.2.2.1.length : Int) (m.2.2.2.1.length : Int) (m.2.2.2.2.1.length : Int) (m.2.2.2.2.2.length : Int)
def imgP (m : Mdl) : List UInt8 := imgH m ++ bodL m
def imgL (m : Mdl) : List UInt8 := imgP m ++ beL 4 (crcN (imgP m))
def WfM (m : Mdl) : Prop := (0 <= m.1 /\ m.1 < 18446744073709551616) /\ ∀ x, x ∈ m.2.2.1 -> ∀ c, c ∈ x.2.2.2 -> OkC c
theorem hdrL_len (h0 h1 h2 h3 h4 h5 h6 : Int) : (hdrL h0 h1 h2 h3 h4 h5 h6).length = 23 := by
 unfold hdrL; simp only [List.length_append, beL_len, List.length_cons, List.length_nil]
theorem crcN_lt (l : List UInt8) : crcN l < 4294967296 := by unfold crcN; omega
section
variable {m : Mdl} (hw : WfM m) (he : (imgE m).isNil = true)
include he
theorem img_parts : (hdrE m.2.1 (m.2.2.1.length : Int) (m.2.2.2.1.length : Int) (m.2.2.2.2.1.length : Int) (m.2.2.2.2.2.length : Int)).isNil = true /\ (prtsE none 0 m.2.2.1).isNil = true /\ (schsE none 0 m.2.2.2.1).isNil = true /\ (prsE none 0 m.2.2.2.2.1).isNil = true /\ (actsE none 0 m.2.2.2.2.2).isNil = true := by
 have h := firstE_nil _ he
 unfold imgEs at h
 exact ⟨h _ (by simp), h _ (by simp), h _ (by simp), h _ (by simp), h _ (by simp)⟩
theorem img_counts : m.2.2.1.length <= 32 /\ m.2.2.2.1.length <= 16 /\ m.2.2.2.2.1.length <= 240 /\ m.2.2.2.2.2.length <= 512 := by
 obtain ⟨c1, c2, c3, c4, c5⟩ := hdrE_ok (img_parts he).1
 rw [fineQ_1'] at c2
 rw [fineQ_2'] at c3
 rw [fineQ_3'] at c4
 rw [fineQ_4'] at c5
 simp only [Bool.and_eq_true, decide_eq_true_eq] at c2 c3 c4 c5
 omega
include hw
end
theorem mk_list (l : List UInt8) : (ByteArray.mk l.toArray).data.toList = l := by simp
theorem mk_sz (l : List UInt8) : (ByteArray.mk l.toArray).size = l.length := by rw [<- blen, mk_list]
theorem ba_ext {s t : ByteArray} (h : s.data.toList = t.data.toList) : s = t := by
 apply ByteArray.ext; apply Array.ext'; exact h
theorem sumAt_of {s : ByteArray} {P Q : List UInt8} (hs : s.data.toList = P ++ Q) (hq : Q.length = 4) : ∃ v : Nat, sumAt s = (v : Int) /\ v < 4294967296 /\ beL 4 v = Q := by
 have hz : s.size = P.length + 4 := by rw [<- blen, hs, List.length_append, hq]
 refine ⟨beV s P.length 4, ?_, ?_, ?_⟩
 ·unfold sumAt getV getOk
  rw [show sizeOk 4 = true from rfl, decide_eq_true (by omega : (0 : Int) <= (s.size : Int) - 4), decide_eq_true (by omega : (s.size : Int) - 4 <= (s.size : Int)), decide_eq_true (by omega : (4 : Int) <= (s.size : Int) - ((s.size : Int) - 4))]
  have e : ((s.size : Int) - 4).toNat = P.length := by omega
  rw [e]; rfl
 ·have := beV_lt s P.length 4
  rw [q256_4] at this; exact this
 ·rw [beL_beV s P.length 4 (by omega), hs, List.drop_left, List.take_of_length_le (by omega)]
def HS (k : Int) (x : RS) : Prop := (x.2 = .nil /\ x.1 = k) \/ ∃ sec a c, (c = 3 \/ c = 8) /\ x.2 = .sec sec (.plc a (.cls c))
theorem needE_rd {s : ByteArray} {k n : Int} {t : Bool} {c a : Int} (h : k + n <= s.size) (hc : c = 3 \/ c = 8) (hk : isCls c = true) : needE (rdE s k n 1 .nil) t 1 c a = .nil \/ ∃ sec a2 c2, (c2 = 3 \/ c2 = 8) /\ needE (rdE s k n 1 .nil) t 1 c a = .sec sec (.plc a2 (.cls c2)) := by
 have e : rdE s k n 1 .nil = .nil := by unfold rdE; rw [decide_eq_true (by omega : n <= (s.size : Int) - k)]; rfl
 rw [e]
 cases t with
 | true => exact .inl rfl
 | false =>
  refine .inr ⟨1, a, c, hc, ?_⟩
  show inE 1 (atE a (newE c)) = _
  unfold newE; rw [hk]; rfl
theorem rdAt_fit {s : ByteArray} {k n : Int} (h : k + n <= s.size) : rdAt s k n .nil = k + n := by
 unfold rdAt rdOk; rw [decide_eq_true (by omega : n <= (s.size : Int) - k)]; rfl
theorem HS.m {s : ByteArray} {k : Int} {x : RS} (ch : Int) (h : HS k x) (hf : k + 1 <= s.size) : HS (k + 1) (hM s ch x) := by
 rcases h with ⟨h1, h2⟩ | ⟨sec, a, c, hc, h⟩
 ·unfold HS hM; rw [h1, h2]; simp only
  rcases needE_rd (t := rdV s k 1 .nil == ch) (c := 3) (a := k) hf (.inl rfl) rfl with e | e
  ·exact .inl ⟨e, rdAt_fit hf⟩
  ·exact .inr e
 ·right
  refine ⟨sec, a, c, hc, ?_⟩
  have hb : x.2.isNil = false := by rw [h]; rfl
  have hb2 : rdE s x.1 1 1 x.2 = x.2 := needE_bad hb _ _ _ _
  show needE (rdE s x.1 1 1 x.2) _ 1 3 x.1 = _
  rw [hb2, needE_bad hb, h]
theorem HS.r {s : ByteArray} {k n : Int} {x : RS} (h : HS k x) (hf : k + n <= s.size) : HS (k + n) (hR s n x) := by
 rcases h with ⟨h1, h2⟩ | ⟨sec, a, c, hc, h⟩
 ·unfold HS hR; rw [h1, h2]; simp only
  refine .inl ⟨?_, rdAt_fit hf⟩
  unfold rdE; rw [decide_eq_true (by omega : n <= (s.size : Int) - k)]; rfl
 ·right
  refine ⟨sec, a, c, hc, ?_⟩
  have hb : x.2.isNil = false := by rw [h]; rfl
  show rdE s x.1 n 1 x.2 = _
  have hb2 : rdE s x.1 n 1 x.2 = x.2 := needE_bad hb _ _ _ _
  rw [hb2, h]
theorem HS.n {s : ByteArray} {k n lo hi : Int} {x : RS} (h : HS k x) (hf : k + n <= s.size) : HS (k + n) (hN s n lo hi x) := by
 rcases h with ⟨h1, h2⟩ | ⟨sec, a, c, hc, h⟩
 ·unfold HS hN; rw [h1, h2]; simp only
  rcases needE_rd (t := decide (rdV s k n .nil >= lo) && decide (rdV s k n .nil <= hi)) (c := 8) (a := k) hf (.inr rfl) rfl with e | e
  ·exact .inl ⟨e, rdAt_fit hf⟩
  ·exact .inr e
 ·right
  refine ⟨sec, a, c, hc, ?_⟩
  have hb : x.2.isNil = false := by rw [h]; rfl
  have hb2 : rdE s x.1 n 1 x.2 = x.2 := needE_bad hb _ _ _ _
  show needE (rdE s x.1 n 1 x.2) _ 1 8 x.1 = _
  rw [hb2, needE_bad hb, h]
end Go.Ab.T
namespace Go.Ab.T
open Go Go.Ab
theorem ptsV_len {s : ByteArray} : ∀ (n : Nat) (last : Int) (x : RS), (ptsX s n last x).2.isNil = true -> (ptsV s n last x).length = n
 | 0, _, _, _ => rfl
 | n + 1, last, x, h => by
  have hn := ptsX_keep (n + 1) last x h
  have e1 : ptsX s (n + 1) last x = ptsX s n (rdV s x.1 1 x.2) (ptX s last x) := by show (bif x.2.isNil then _ else _) = _; rw [hn]; rfl
  have e2 : ptsV s (n + 1) last x = ptV s last x :: ptsV s n (rdV s x.1 1 x.2) (ptX s last x) := by show (bif x.2.isNil then _ else _) = _; rw [hn]; rfl
  rw [e1] at h
  rw [e2, List.length_cons, ptsV_len n _ _ h]
theorem schsV_len {s : ByteArray} : ∀ (n : Nat) (last : Int) (x : RS), (schsX s n last x).2.isNil = true -> (schsV s n last x).length = n
 | 0, _, _, _ => rfl
 | n + 1, last, x, h => by
  have hn := schsX_keep (n + 1) last x h
  have e1 : schsX s (n + 1) last x = schsX s n (schV s last x).1 (schX s last x) := by show (bif x.2.isNil then _ else _) = _; rw [hn]; rfl
  have e2 : schsV s (n + 1) last x = schV s last x :: schsV s n (schV s last x).1 (schX s last x) := by show (bif x.2.isNil then _ else _) = _; rw [hn]; rfl
  rw [e1] at h
  rw [e2, List.length_cons, schsV_len n _ _ h]
theorem prsV_len {s : ByteArray} : ∀ (n : Nat) (last : Option Pr) (x : RS), (prsX s n last x).2.isNil = true -> (prsV s n last x).length = n
 | 0, _, _, _ => rfl
 | n + 1, last, x, h => by
  have hn := prsX_keep (n + 1) last x h
  have e1 : prsX s (n + 1) last x = prsX s n (some (prV s x)) (prX s last x) := by show (bif x.2.isNil then _ else _) = _; rw [hn]; rfl
  have e2 : prsV s (n + 1) last x = prV s x :: prsV s n (some (prV s x)) (prX s last x) := by show (bif x.2.isNil then _ else _) = _; rw [hn]; rfl
  rw [e1] at h
  rw [e2, List.length_cons, prsV_len n _ _ h]
theorem acsV_len {s : ByteArray} : ∀ (n : Nat) (last : Option Act3) (x : RS), (acsX s n last x).2.isNil = true -> (acsV s n last x).length = n
 | 0, _, _, _ => rfl
 | n + 1, last, x, h => by
  have hn := acsX_keep (n + 1) last x h
  have e1 : acsX s (n + 1) last x = acsX s n (some (acV s x)) (acX s last x) := by show (bif x.2.isNil then _ else _) = _; rw [hn]; rfl
  have e2 : acsV s (n + 1) last x = acV s x :: acsV s n (some (acV s x)) (acX s last x) := by show (bif x.2.isNil then _ else _) = _; rw [hn]; rfl
  rw [e1] at h
  rw [e2, List.length_cons, acsV_len n _ _ h]
section
variable {s : ByteArray} {x : RS}
theorem seg_hM {c : Int} (hx : hIn s x) (h : (hM s c x).2.isNil = true) : Seg s x.1 (hM s c x).1 (beL 1 c.toNat) /\ x.2.isNil = true /\ hIn s (hM s c x) := by
 have h2 : (needE (rdE s x.1 1 1 x.2) (rdV s x.1 1 x.2 == c) 1 3 x.1).isNil = true := h
 rw [needE_nil _ _ _ _ rfl, Bool.and_eq_true, beq_iff_eq] at h2
 obtain ⟨g1, _⟩ := seg_rd hx (n := 1) (k := 1) rfl (rdE_keep h2.2).1
 rw [h2.1] at g1
 exact ⟨g1, (rdE_keep h2.2).2, hx.m c⟩
theorem seg_hR {n : Nat} (hx : hIn s x) (h : (hR s (n : Int) x).2.isNil = true) : Seg s x.1 (hR s n x).1 (beL n (rdV s x.1 n x.2).toNat) /\ x.2.isNil = true /\ hIn s (hR s n x) := by
 have h2 : (rdE s x.1 n 1 x.2).isNil = true := h
 obtain ⟨g1, _⟩ := seg_rd hx (n := n) (k := n) rfl (rdE_keep h2).1
 exact ⟨g1, (rdE_keep h2).2, hx.r (by omega)⟩
theorem seg_hN {n : Nat} {lo hi : Int} (hx : hIn s x) (h : (hN s (n : Int) lo hi x).2.isNil = true) : Seg s x.1 (hN s n lo hi x).1 (beL n (rdV s x.1 n x.2).toNat) /\ x.2.isNil = true /\ hIn s (hN s n lo hi x) /\ lo <= rdV s x.1 n x.2 /\ rdV s x.1 n x.2 <= hi := by
 have h2 : (needE (rdE s x.1 n 1 x.2) (decide (rdV s x.1 n x.2 >= lo) && decide (rdV s x.1 n x.2 <= hi)) 1 8 x.1).isNil = true := h
 rw [needE_nil _ _ _ _ rfl, Bool.and_eq_true, Bool.and_eq_true, decide_eq_true_eq, decide_eq_true_eq] at h2
 obtain ⟨g1, _⟩ := seg_rd hx (n := n) (k := n) rfl (rdE_keep h2.2).1
 exact ⟨g1, (rdE_keep h2.2).2, hx.n (by omega), h2.1.1, h2.1.2⟩
end
theorem Seg.at {s : ByteArray} {a b : Int} {l : List UInt8} (h : Seg s a b l) : b = a + l.length := by
 obtain ⟨h0, h1, h2, rfl⟩ := h
 have : s.data.toList.length = s.size := by simp
 rw [List.length_take, List.length_drop]; omega
theorem seg_hdr {s : ByteArray} (h : (iH s).2.isNil = true) : iH s = (23, .nil) /\ Seg s 0 23 (hdrL (iT s) (iEp s) (iFi s) (iP s) (iS s) (iR s) (iA s)) /\ (hdrE (iFi s) (iP s) (iS s) (iR s) (iA s)).isNil = true := by
 have x0 : hIn s ((0, .nil) : RS) := ⟨Int.le_refl _, by show (0 : Int) <= s.size; omega⟩
 have i1 := x0.m (s := s) 67
 have i2 := i1.m 87
 have i3 := i2.m 77
 have i4 : hIn s (hx4 s (0, .nil)) := i3.m 49
 have i5 : hIn s (hx5 s (0, .nil)) := i4.r (by omega)
 have i6 : hIn s (hx6 s (0, .nil)) := i5.r (by omega)
 have i7 : hIn s (hx7 s (0, .nil)) := i6.r (by omega)
 have i8 : hIn s (hx8 s (0, .nil)) := i7.n (by omega)
 have i9 : hIn s (hx9 s (0, .nil)) := i8.n (by omega)
 have i10 : hIn s (hx10 s (0, .nil)) := i9.n (by omega)
 obtain ⟨s11, n10, _, b11⟩ := seg_hN (n := 2) (lo := 0) (hi := 512) i10 h
 obtain ⟨s10, n9, _, b10⟩ := seg_hN (n := 2) (lo := 0) (hi := 240) i9 n10
 obtain ⟨s9, n8, _, b9⟩ := seg_hN (n := 1) (lo := 1) (hi := 16) i8 n9
 obtain ⟨s8, n7, _, b8⟩ := seg_hN (n := 1) (lo := 1) (hi := 32) i7 n8
 obtain ⟨s7, n6, _⟩ := seg_hR (n := 1) i6 n7
 obtain ⟨s6, n5, _⟩ := seg_hR (n := 8) i5 n6
 obtain ⟨s5, n4, _⟩ := seg_hR (n := 4) i4 n5
 obtain ⟨s4, n3, _⟩ := seg_hM (c := 49) i3 n4
 obtain ⟨s3, n2, _⟩ := seg_hM (c := 77) i2 n3
 obtain ⟨s2, n1, _⟩ := seg_hM (c := 87) i1 n2
 obtain ⟨s1, _, _⟩ := seg_hM (c := 67) x0 n1
 have hv : ∀ (n : Int) (y : RS), hV s n (iH s) y = rdV s y.1 n y.2 := fun n y => by unfold hV; rw [h]; rfl
 have eT : iT s = rdV s (hx4 s (0, .nil)).1 4 (hx4 s (0, .nil)).2 := hv _ _
 have eE : iEp s = rdV s (hx5 s (0, .nil)).1 8 (hx5 s (0, .nil)).2 := hv _ _
 have eF : iFi s = rdV s (hx6 s (0, .nil)).1 1 (hx6 s (0, .nil)).2 := hv _ _
 have eP : iP s = rdV s (hx7 s (0, .nil)).1 1 (hx7 s (0, .nil)).2 := hv _ _
 have eS : iS s = rdV s (hx8 s (0, .nil)).1 1 (hx8 s (0, .nil)).2 := hv _ _
 have eR : iR s = rdV s (hx9 s (0, .nil)).1 2 (hx9 s (0, .nil)).2 := hv _ _
 have eA : iA s = rdV s (hx10 s (0, .nil)).1 2 (hx10 s (0, .nil)).2 := hv _ _
 have e1 : ((1 : Nat) : Int) = 1 := rfl
 have e2 : ((2 : Nat) : Int) = 2 := rfl
 have e4 : ((4 : Nat) : Int) = 4 := rfl
 have e8 : ((8 : Nat) : Int) = 8 := rfl
 rw [e1] at s7 s8 s9 b8 b9
 rw [e2] at s10 s11 b10 b11
 rw [e4] at s5
 rw [e8] at s6
 rw [<- eT] at s5
 rw [<- eE] at s6
 rw [<- eF] at s7
 rw [<- eP] at s8 b8
 rw [<- eS] at s9 b9
 rw [<- eR] at s10 b10
 rw [<- eA] at s11 b11
 have hall : Seg s 0 (iH s).1 (hdrL (iT s) (iEp s) (iFi s) (iP s) (iS s) (iR s) (iA s)) := by
  have := s1.app (s2.app (s3.app (s4.app (s5.app (s6.app (s7.app (s8.app (s9.app (s10.app s11)))))))))
  refine this.cast rfl ?_
  unfold hdrL
  rfl
 have hat := hall.at
 rw [hdrL_len] at hat
 have hiH : iH s = (23, .nil) := by
  have h1 : (iH s).1 = 23 := by rw [hat]; rfl
  have h2 := isNil_eq h
  exact Prod.ext h1 h2
 refine ⟨hiH, by rw [<- show (iH s).1 = 23 by rw [hiH]]; exact hall, ?_⟩
 have hF := rdV_lt s (hx6 s (0, .nil)).1 1 (hx6 s (0, .nil)).2
 have hF2 : 0 <= iFi s /\ iFi s < 256 := by rw [eF]; exact hF
 have c1 : (decide (iFi s < 0) || decide (iFi s > 255)) = false := by
  rw [Bool.or_eq_false_iff, decide_eq_false_iff_not, decide_eq_false_iff_not]; omega
 have c2 : fineQ 1 (iP s) = true := by rw [fineQ_1', Bool.and_eq_true, decide_eq_true_eq, decide_eq_true_eq]; exact b8
 have c3 : fineQ 2 (iS s) = true := by rw [fineQ_2', Bool.and_eq_true, decide_eq_true_eq, decide_eq_true_eq]; exact b9
 have c4 : fineQ 3 (iR s) = true := by rw [fineQ_3', Bool.and_eq_true, decide_eq_true_eq, decide_eq_true_eq]; exact b10
 have c5 : fineQ 4 (iA s) = true := by rw [fineQ_4', Bool.and_eq_true, decide_eq_true_eq, decide_eq_true_eq]; exact b11
 unfold hdrE
 rw [c1, c2, c3, c4, c5]; rfl
theorem frE_nil {s : ByteArray} {t : Int} (h : (frE s t).isNil = true) : t = s.size /\ 27 <= s.size /\ sumAt s = ((crcN (preS s).data.toList : Nat) : Int) := by
 have h27 := frE_27 h
 unfold frE at h
 cases c1 : t != (s.size : Int) with
 | true => rw [c1] at h; cases h
 | false =>
  have c2 : decide ((s.size : Int) < 27) = false := decide_eq_false (by omega)
  cases c3 : sumAt s != ((crcN (preS s).data.toList : Nat) : Int) with
  | true => rw [c1, c2, c3] at h; cases h
  | false => exact ⟨bne_eq_false_iff_eq.1 c1, h27, bne_eq_false_iff_eq.1 c3⟩
theorem dec_same {s : ByteArray} (h : (decE s).isNil = true) : WfM (decM s) /\ (imgE (decM s)).isNil = true /\ imgL (decM s) = s.data.toList := by
 have hh : (headE s).isNil = true := by
  cases c : (headE s).isNil with
  | true => rfl
  | false => unfold decE at h; rw [c, cond_false, c] at h; cases h
 have hi : (iH s).2.isNil = true := by
  cases c : (iH s).2.isNil with
  | true => rfl
  | false => unfold headE at hh; rw [c, cond_false, c] at hh; cases hh
 have hf : (frE s (iT s)).isNil = true := by unfold headE at hh; rw [hi] at hh; exact hh
 obtain ⟨f1, f2, f3⟩ := frE_nil hf
 obtain ⟨g1, g2, g3⟩ := seg_hdr hi
 have he : (endE (preS s) (dA (preS s) (iP s) (iS s) (iR s) (iA s))).isNil = true := by unfold decE at h; rw [hh] at h; exact h
 have hsz : (preS s).size = s.size - 4 := by unfold preS; rw [ByteArray.size_extract]; omega
 have hd0 : hIn (preS s) d0 := ⟨by show (0 : Int) <= 23; decide, by show (23 : Int) <= _; omega⟩
 have nA : (dA (preS s) (iP s) (iS s) (iR s) (iA s)).2.isNil = true := by
  cases c : (dA (preS s) (iP s) (iS s) (iR s) (iA s)).2.isNil with
  | true => rfl
  | false => unfold endE at he; rw [c, cond_false, c] at he; cases he
 have nR : (dR (preS s) (iP s) (iS s) (iR s)).2.isNil = true := acsX_keep _ _ _ nA
 have nS : (dS (preS s) (iP s) (iS s)).2.isNil = true := prsX_keep _ _ _ nR
 have nP : (dP (preS s) (iP s)).2.isNil = true := schsX_keep _ _ _ nS
 have hP := hIn.pts (iP s).toNat (-1) hd0
 have hS := hIn_schs (iS s).toNat (-1) hP
 have hR := hIn.prs (iR s).toNat none hS
 obtain ⟨p1, p2, p3⟩ := seg_pts (iP s).toNat (-1) d0 none 0 hd0 (fun q hq => by cases hq) nP
 obtain ⟨q1, q2⟩ := seg_schs (iS s).toNat (-1) (dP (preS s) (iP s)) none 0 hP rfl nS
 obtain ⟨r1, r2⟩ := seg_prs (iR s).toNat none (dS (preS s) (iP s) (iS s)) 0 hS nR
 obtain ⟨t1, t2⟩ := seg_acs (iA s).toNat none (dR (preS s) (iP s) (iS s) (iR s)) 0 hR nA
 have lP : ((decP s).length : Int) = iP s := by
  have h0 : 0 <= iP s := (hV_bound s 1 _ _).1
  unfold decP; rw [ptsV_len _ _ _ nP]; omega
 have lS : ((decS s).length : Int) = iS s := by
  have h0 : 0 <= iS s := (hV_bound s 1 _ _).1
  unfold decS; rw [schsV_len _ _ _ nS]; omega
 have lR : ((decR s).length : Int) = iR s := by
  have h0 : 0 <= iR s := (hV_bound s 2 _ _).1
  unfold decR; rw [prsV_len _ _ _ nR]; omega
 have lA : ((decA s).length : Int) = iA s := by
  have h0 : 0 <= iA s := (hV_bound s 2 _ _).1
  unfold decA; rw [acsV_len _ _ _ nA]; omega
 have hM : decM s = (iEp s, iFi s, decP s, decS s, decR s, decA s) := by unfold decM; rw [h]; rfl
 have hbody : Seg (preS s) 23 (dA (preS s) (iP s) (iS s) (iR s) (iA s)).1 (bodL (decM s)) := by
  rw [hM]
  exact p1.app (q1.app (r1.app t1))
 have hend : (dA (preS s) (iP s) (iS s) (iR s) (iA s)).1 = (preS s).size := by
  unfold endE at he
  rw [nA, cond_true] at he
  cases c : decide (((preS s).size : Int) - (dA (preS s) (iP s) (iS s) (iR s) (iA s)).1 > 0) with
  | true => rw [c] at he; cases he
  | false =>
   rw [decide_eq_false_iff_not] at c
   have := hbody.2.2.1
   omega
 have hblen := hbody.at
 rw [hend] at hblen
 have hEp : 0 <= iEp s /\ iEp s < 18446744073709551616 := by
  have h0 := hV_bound s 8 (iH s) (hx5 s (0, .nil))
  have h3 : 256 ^ 8 = 18446744073709551616 := by decide
  rw [h3] at h0
  exact h0
 have hW : WfM (decM s) := by rw [hM]; exact ⟨hEp, p3⟩
 have hI : (imgE (decM s)).isNil = true := by
  rw [hM]
  unfold imgE imgEs
  simp only
  rw [lP, lS, lR, lA]
  have a1 := isNil_eq g3
  have a2 : prtsE none 0 (decP s) = .nil := isNil_eq p2
  have a3 : schsE none 0 (decS s) = .nil := isNil_eq q2
  have a4 : prsE none 0 (decR s) = .nil := isNil_eq r2
  have a5 : actsE none 0 (decA s) = .nil := isNil_eq t2
  rw [a1, a2, a3, a4, a5]; rfl
 refine ⟨hW, hI, ?_⟩
 have hTot : totN (decM s) = iT s := by unfold totN; rw [f1]; omega
 have hH : imgH (decM s) = hdrL (iT s) (iEp s) (iFi s) (iP s) (iS s) (iR s) (iA s) := by
  unfold imgH
  rw [hTot, hM]
  simp only
  rw [lP, lS, lR, lA]
 have hpl : (preS s).data.toList = s.data.toList.take (s.size - 4) := by
  unfold preS
  rw [ByteArray.data_extract, Array.toList_extract, List.extract_eq_take_drop]
  simp
 have hP0 : imgP (decM s) = (preS s).data.toList := by
  unfold imgP
  rw [hH]
  obtain ⟨_, _, _, k1⟩ := g2
  obtain ⟨_, _, _, k2⟩ := hbody
  rw [k1, k2, hpl, hend, hsz]
  have z23 : Int.toNat 23 = 23 := rfl
  have z0 : Int.toNat 0 = 0 := rfl
  rw [z23, z0, List.drop_zero, Nat.sub_zero, Int.toNat_natCast]
  have e1 : (s.data.toList.take (s.size - 4)).drop 23 = ((s.data.toList).drop 23).take (s.size - 4 - 23) := by rw [List.drop_take]
  rw [e1, List.take_take, Nat.min_self]
  have e2 : s.size - 4 = 23 + (s.size - 4 - 23) := by omega
  conv => rhs; rw [e2, List.take_add]
 unfold imgL
 have hsplit : s.data.toList = (preS s).data.toList ++ s.data.toList.drop (s.size - 4) := by rw [hpl, List.take_append_drop]
 have hq : (s.data.toList.drop (s.size - 4)).length = 4 := by
  have : s.data.toList.length = s.size := by simp
  rw [List.length_drop]; omega
 obtain ⟨v, v1, v2, v3⟩ := sumAt_of hsplit hq
 rw [f3] at v1
 have hv : v = crcN (preS s).data.toList := by omega
 subst hv
 rw [hP0, v3]
 exact hsplit.symm
end Go.Ab.T
namespace Go.Ab.T
open Go Go.Ab
def sealBody (s : ByteArray) : ByteArray := s.extract 0 4 ++ ByteArray.mk (beL 4 s.size).toArray ++ s.extract 8 (s.size - 4)
def seal2 (b : ByteArray) : ByteArray := b ++ ByteArray.mk (beL 4 (crcN b.data.toList)).toArray
def sealB (s : ByteArray) : ByteArray := bif decide ((s.size : Int) < 27) then s else seal2 (sealBody s)
theorem sealBody_size {s : ByteArray} (h : 27 <= s.size) : (sealBody s).size = s.size - 4 := by
 unfold sealBody
 rw [ByteArray.size_append, ByteArray.size_append, mk_sz (beL 4 s.size), beL_len, ByteArray.size_extract, ByteArray.size_extract]
 omega
theorem seal_img {m : Mdl} : sealB ⟨(hdrL 0 m.1 m.2.1 (m.2.2.1.length : Int) (m.2.2.2.1.length : Int) (m.2.2.2.2.1.length : Int) (m.2.2.2.2.2.length : Int) ++ bodL m ++ [0, 0, 0, 0]).toArray⟩ = ⟨(imgL m).toArray⟩ := by
 have hl0 := hdrL_len 0 m.1 m.2.1 (m.2.2.1.length : Int) (m.2.2.2.1.length : Int) (m.2.2.2.2.1.length : Int) (m.2.2.2.2.2.length : Int)
 have hsz : (ByteArray.mk (hdrL 0 m.1 m.2.1 (m.2.2.1.length : Int) (m.2.2.2.1.length : Int) (m.2.2.2.2.1.length : Int) (m.2.2.2.2.2.length : Int) ++ bodL m ++ [0, 0, 0, 0]).toArray).size = 27 + (bodL m).length := by
  rw [mk_sz, List.length_append, List.length_append, hl0, List.length_cons, List.length_cons, List.length_cons, List.length_cons, List.length_nil]; omega
 unfold sealB
 rw [hsz, decide_eq_false (by omega), cond_false]
 have hb : sealBody ⟨(hdrL 0 m.1 m.2.1 (m.2.2.1.length : Int) (m.2.2.2.1.length : Int) (m.2.2.2.2.1.length : Int) (m.2.2.2.2.2.length : Int) ++ bodL m ++ [0, 0, 0, 0]).toArray⟩ = ⟨(imgP m).toArray⟩ := by
  apply ba_ext
  rw [mk_list (imgP m)]
  unfold sealBody
  rw [hsz]
  rw [ByteArray.data_append, ByteArray.data_append, Array.toList_append, Array.toList_append, ByteArray.data_extract, ByteArray.data_extract, Array.toList_extract, Array.toList_extract, List.extract_eq_take_drop, List.extract_eq_take_drop, mk_list (_ ++ bodL m ++ [0, 0, 0, 0])]
  have e4 : (ByteArray.mk (beL 4 (27 + (bodL m).length)).toArray).data.toList = beL 4 (totN m).toNat := by
   rw [mk_list (beL 4 _)]; unfold totN; congr 1
  rw [e4]
  unfold imgP imgH
  obtain ⟨R, hh⟩ : ∃ R : List UInt8, ∀ t : Int, hdrL t m.1 m.2.1 (m.2.2.1.length : Int) (m.2.2.2.1.length : Int) (m.2.2.2.2.1.length : Int) (m.2.2.2.2.2.length : Int) = [67, 87, 77, 49] ++ (beL 4 t.toNat ++ R) := ⟨_, fun t => rfl⟩
  have hR : R.length = 15 := by
   have := hl0
   rw [hh 0, List.length_append, List.length_append, beL_len] at this
   simp only [List.length_cons, List.length_nil] at this
   omega
  rw [hh (totN m), hh 0]
  have hz : (beL 4 (Int.toNat 0)).length = 4 := beL_len _ 4
  generalize beL 4 (Int.toNat 0) = Z at hz
  have f1 : (([67, 87, 77, 49] ++ (Z ++ R) ++ bodL m ++ [0, 0, 0, 0]).drop 0).take (4 - 0) = [67, 87, 77, 49] := rfl
  have f2 : (([67, 87, 77, 49] ++ (Z ++ R) ++ bodL m ++ [0, 0, 0, 0]).drop 8).take (27 + (bodL m).length - 4 - 8) = R ++ bodL m := by
   have e : [67, 87, 77, 49] ++ (Z ++ R) ++ bodL m ++ [0, 0, 0, 0] = ([67, 87, 77, 49] ++ Z) ++ ((R ++ bodL m) ++ [0, 0, 0, 0]) := by simp only [List.append_assoc]
   have h8 : 8 = (([67, 87, 77, 49] : List UInt8) ++ Z).length := by rw [List.length_append, hz]; rfl
   have hd : List.drop 8 (([67, 87, 77, 49] ++ Z) ++ ((R ++ bodL m) ++ [0, 0, 0, 0])) = (R ++ bodL m) ++ [0, 0, 0, 0] := by
    conv =>
     lhs
     rw [h8]
    exact List.drop_left
   rw [e, hd]
   have h9 : 27 + (bodL m).length - 4 - 8 = (R ++ bodL m).length := by rw [List.length_append, hR]; omega
   rw [h9]
   exact List.take_left
  rw [f1, f2]
  simp only [List.append_assoc]
 rw [hb]
 unfold seal2
 rw [mk_list (imgP m)]
 exact mk_app ⟨#[]⟩ _ _
end Go.Ab.T
