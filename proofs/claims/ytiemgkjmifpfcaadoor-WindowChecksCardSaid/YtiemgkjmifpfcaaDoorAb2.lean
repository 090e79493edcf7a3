import Derived.Test.YtiemgkjmifpfcaaDoorAb1
import GoSem.Dispatch
import Derived.OrdersHeld
set_option linter.unusedVariables false
set_option linter.unusedSimpArgs false
namespace Go.Ab
open Go

/-- What of a type the evaluation asks. -/
inductive TD where
  | bool
  | int (k : IntKind)
  | str
  | slice (e : TypeId)
  | struct (fs : List (Nat × TypeId))
  | array (n : Nat) (e : TypeId)
  | ptr (e : TypeId)
  | iface
  | func
  | other
  deriving Inhabited

structure TInfo : Type 1 where
  td : TD
  size : Nat
  bytes : Nat
  zero : List PV
  agg : Bool
  nils : List (Nat × TypeId)

abbrev Spec (K : Codes) := List PV → Heap K → (List PV → Heap K → List Nat → Prop) → Prop
abbrev SpecS := List PV → (List PV → Prop) → Prop

structure Cfg (K : Codes) : Type 1 where
  P : Program
  I : Ids
  ty : TypeId → Option TInfo
  cod : TypeId → Bool
  glob : Nat → Option PV
  meth : TypeId → String → Option FuncId
  Γ : FuncId → Option (Spec K)
  Γs : FuncId → Option SpecS
  Γi : String → Option SpecS
  eqs : TypeId → List PV → Bool

def Cfg.td {K : Codes} (C : Cfg K) (t : TypeId) : TD := match C.ty t with | some i => i.td | none => .other

def nilSlice : Value := .slice none 0 0

def ofConst1 : Value → PV
  | .bool b => .bool b
  | .int k n => .int k n
  | .string s => .str s
  | .nilIface => .err .nil
  | v => .raw v
def ofConst : Value → PV
  | .agg cs => .agg (cs.toList.map ofConst1)
  | v => ofConst1 v

def constOk : Value → Bool
  | .agg cs => cs.toList.all Value.oneCell'
  | .tuple _ => false
  | v => v.oneCell'

def evX {K : Codes} (C : Cfg K) (env : List PV) : Operand → PV
  | .tmp t => env.getD t .junk
  | .const v => match constOk v with
    | true => ofConst v
    | false => .junk
  | .global g => match C.glob g with
    | some x => .el x 0
    | none => .junk
  | .func f => .fn (.func f) [] []

abbrev K1 (K : Codes) := PV → List PV → Heap K → Prop

variable {K : Codes}

/-- A nil slice becomes an empty row of the call's own. -/
def evNil (C : Cfg K) (e : TypeId) (L : Heap K) (k : PV → Heap K → Prop) : Prop :=
  match C.cod e with
  | true => k (.own L.length) (L ++ [.row e []])
  | false => False

def isNilSlice : Value → Bool
  | .slice none 0 0 => true
  | _ => false

def evMove (C : Cfg K) (x : Operand) (t : TypeId) (env : List PV) (L : Heap K) (k : K1 K) : Prop :=
  match x with
  | .const v =>
    match isNilSlice v, C.ty t with
    | true, some { td := .slice e, .. } => evNil C e L fun y L' => k y env L'
    | true, _ => False
    | false, _ => k (evX C env (.const v)) env L
  | x => k (evX C env x) env L

def evIntBin (op : BinOp) (kd : IntKind) (a b : Int) (k : PV → Prop) : Prop :=
  match op with
  | .add => k (.int kd (kd.wrap (a + b)))
  | .sub => k (.int kd (kd.wrap (a - b)))
  | .mul => k (.int kd (kd.wrap (a * b)))
  | .quo => b ≠ 0 ∧ k (.int kd (kd.wrap (a.tdiv b)))
  | .rem => b ≠ 0 ∧ k (.int kd (a.tmod b))
  | .and | .or | .xor | .andNot => k (.int kd (Go.bits op kd a b))
  | .eql => k (.bool (a == b))
  | .neq => k (.bool (a != b))
  | .lss => k (.bool (decide (a < b)))
  | .leq => k (.bool (decide (a ≤ b)))
  | .gtr => k (.bool (decide (a > b)))
  | .geq => k (.bool (decide (a ≥ b)))
  | _ => False

def evStrBin (op : BinOp) (a b : ByteArray) (k : PV → Prop) : Prop :=
  match op with
  | .add => a.size + b.size ≤ 9223372036854775807 ∧ k (.str (a ++ b))
  | .eql => k (.bool (a.toList == b.toList))
  | .neq => k (.bool (!(a.toList == b.toList)))
  | .lss => k (.bool (Op.bytesLess a.toList b.toList))
  | .leq => k (.bool (Op.bytesLess a.toList b.toList || a.toList == b.toList))
  | .gtr => k (.bool (!(Op.bytesLess a.toList b.toList || a.toList == b.toList)))
  | .geq => k (.bool (!(Op.bytesLess a.toList b.toList)))
  | _ => False

def Err.isNil : Err → Bool | .nil => true | _ => false

/-- Is a value of some type nil? -/
def evIsNil (td : TD) (x : PV) (L : Heap K) (k : Bool → Prop) : Prop :=
  match td, x with
  | .iface, .err e => k e.isNil
  | .iface, .iface _ _ => k false
  | .func, .fn _ _ _ => k false
  | .ptr _, .ptr o _ => match L[o]? with
    | some (.box _) => k false
    | _ => False
  | .ptr _, .el _ _ => k false
  | .ptr _, .raw (.pointer none) => k true
  | .slice _, .sl _ _ l => ∀ b, (l ≠ [] → b = false) → k b
  | .slice _, .own o => match L[o]? with
    | some (.row _ l) => ∀ b, (l ≠ [] → b = false) → k b
    | _ => False
  | _, _ => False

def nilFor : TD → Value → Bool
  | .iface, .nilIface => true
  | .func, .nilFunc => true
  | .ptr _, .pointer none => true
  | .slice _, .slice none 0 0 => true
  | _, _ => false

def isNilConst (td : TD) : Operand → Bool
  | .const v => nilFor td v
  | _ => false

/-- Equality of the flat fields of structs. -/
def eqCells : List PV → List PV → Option Bool
  | [], [] => some true
  | .int k a :: xs, .int k' b :: ys => if k = k' then (eqCells xs ys).map ((a == b) && ·) else none
  | .bool a :: xs, .bool b :: ys => (eqCells xs ys).map ((a == b) && ·)
  | .str a :: xs, .str b :: ys => (eqCells xs ys).map ((a == b) && ·)
  | _, _ => none

def evBin (C : Cfg K) (op : BinOp) (t : TypeId) (yo : Operand) (x y : PV) (L : Heap K) (k : PV → Prop) : Prop :=
  match isNilConst (C.td t) yo with
  | true => match op with
    | .eql => evIsNil (C.td t) x L fun b => k (.bool b)
    | .neq => evIsNil (C.td t) x L fun b => k (.bool (!b))
    | _ => False
  | false =>
  match x, y with
  | .int kd a, .int kd' b =>
    match op with
    | .shl => 0 ≤ b ∧ k (.int kd (kd.wrap (a * 2 ^ (min b.toNat kd.bits))))
    | .shr => 0 ≤ b ∧ k (.int kd (a.fdiv (2 ^ (min b.toNat kd.bits))))
    | op => if kd = kd' then evIntBin op kd a b k else False
  | .str a, .str b => evStrBin op a b k
  | .bool a, .bool b => match op, C.td t with
    | .eql, .bool => k (.bool (a == b))
    | .neq, .bool => k (.bool (!(a == b)))
    | _, _ => False
  | .agg a, .agg b => match op, C.eqs t a, eqCells a b with
    | .eql, true, some r => k (.bool r)
    | .neq, true, some r => k (.bool (!r))
    | _, _, _ => False
  | _, _ => False

def evUn (op : UnOp) (x : PV) (k : PV → Prop) : Prop :=
  match op, x with
  | .neg, .int kd n => k (.int kd (kd.wrap (0 - n)))
  | .not, .bool b => k (.bool (!b))
  | .xor, .int kd n => k (.int kd (Go.bits .xor kd (if kd.signed then -1 else kd.max) n))
  | _, _ => False


/-- May a value lie in memory? -/
def PV.stor : PV → Bool
  | .junk | .tup _ => false
  | _ => true

/-- A check of what is known. -/
def chk (b : Bool) (p : Prop) : Prop := match b with | true => p | false => False
theorem chk_iff {b : Bool} {p : Prop} (h : chk b p) : b = true ∧ p := by cases b; exact h.elim; exact ⟨rfl, h⟩

/-- A variable of some type, out of cells. -/
def evLoadCells (i : TInfo) (cs : List PV) (off : Nat) (k : PV → Prop) : Prop :=
  match i.agg with
  | true => chk (Nat.ble (off + i.size) cs.length) (k (.agg ((cs.drop off).take i.size)))
  | false => match cs[off]? with
    | some x => k x
    | none => False

def evLoad (C : Cfg K) (t : TypeId) (p : PV) (L : Heap K) (k : PV → Prop) : Prop :=
  match C.ty t, p with
  | some i, .ptr o off => match L[o]? with
    | some (.box cs) => evLoadCells i cs off k
    | _ => False
  | some i, .el x off => evLoadCells i x.cells off k
  | some i, .oel o n off => match L[o]? with
    | some (.row e xs) => ∀ y, xs[n.toNat]? = some y → evLoadCells i ((K e).enc y).cells off k
    | _ => False
  | _, _ => False

def setCells : List PV → Nat → List PV → List PV
  | cs, _, [] => cs
  | cs, off, y :: ys => setCells (cs.set off y) (off + 1) ys

def evStore (C : Cfg K) (t : TypeId) (p y : PV) (env : List PV) (L : Heap K) (k : K1 K) : Prop :=
  match C.ty t, p, y.stor with
  | some i, .ptr o off, true => match L[o]? with
    | some (.box cs) => chk (Nat.beq y.cells.length i.size && Nat.ble (off + i.size) cs.length) (k (.tup []) env (L.set o (.box (setCells cs off y.cells))))
    | _ => False
  | some i, .oel o n off, true => match L[o]? with
    | some (.row e xs) => chk (Nat.beq y.cells.length i.size) (∀ z, xs[n.toNat]? = some z → (chk (Nat.ble (off + i.size) ((K e).enc z).cells.length)
        (∃ z' : (K e).α, (K e).enc z' = (match (K e).enc z with | .agg cs => .agg (setCells cs off y.cells) | _ => cond y.isAgg .junk y) ∧
          k (.tup []) env (L.set o (.row e (xs.set n.toNat z'))))))
    | _ => False
  | _, _, _ => False

def evFieldAddr (C : Cfg K) (t : TypeId) (p : PV) (f : Nat) (L : Heap K) (k : PV → Prop) : Prop :=
  match C.ty t with
  | some { td := .struct fs, .. } => match fs[f]?, p with
    | some (o, _), .ptr b off => match L[b]? with
      | some (.box _) => k (.ptr b (off + o))
      | _ => False
    | some (o, _), .el x off => k (.el x (off + o))
    | some (o, _), .oel b i off => match L[b]? with
      | some (.row _ _) => k (.oel b i (off + o))
      | _ => False
    | _, _ => False
  | _ => False

def evField (C : Cfg K) (t : TypeId) (x : PV) (f : Nat) (k : PV → Prop) : Prop :=
  match C.ty t with
  | some { td := .struct fs, .. } => match fs[f]?, x with
    | some (o, ft), .agg cs => match C.ty ft with
      | some i => evLoadCells i cs o k
      | none => False
    | _, _ => False
  | _ => False

def evIndexAddr (C : Cfg K) (t : TypeId) (x i : PV) (L : Heap K) (k : PV → Prop) : Prop :=
  match C.ty t, i with
  | some { td := .slice e, .. }, .int _ n => match C.ty e with
    | some ie => match x with
      | .sl _ enc l => (0 ≤ n ∧ n < l.length) ∧ ∀ y, l[n.toNat]? = some y → chk (Nat.beq (enc y).cells.length ie.size) (k (.el (enc y) 0))
      | .own o => match L[o]? with
        | some (.row e' l) => chk (Nat.beq e' e) <| (0 ≤ n ∧ n < l.length) ∧ k (.oel o n 0)
        | _ => False
      | _ => False
    | none => False
  | _, _ => False

def evIndex (C : Cfg K) (t : TypeId) (x i : PV) (k : PV → Prop) : Prop :=
  match C.td t, x, i with
  | .str, .str s, .int _ n => (0 ≤ n ∧ n < s.size) ∧ ∀ b, s[n.toNat]? = some b → k (.int .u8 b.toNat)
  | _, _, _ => False

/-- Nil slices in the cells of a new variable become empty rows of the call's own. -/
def denil (C : Cfg K) : List (Nat × TypeId) → List PV → Heap K → (List PV → Heap K → Prop) → Prop
  | [], cs, L, k => k cs L
  | (j, e) :: r, cs, L, k => match cs[j]? with
    | some (.raw v) => match isNilSlice v, C.cod e with
      | true, true => denil C r (cs.set j (.own L.length)) (L ++ [.row e []]) k
      | true, false => False
      | false, _ => denil C r cs L k
    | _ => denil C r cs L k

def evAlloc (C : Cfg K) (t : TypeId) (env : List PV) (L : Heap K) (k : K1 K) : Prop :=
  match C.ty t with
  | some i => denil C i.nils i.zero L fun cs L1 => k (.ptr L1.length 0) env (L1 ++ [.box cs])
  | none => False

def evBox (C : Cfg K) (t : TypeId) (x : PV) (env : List PV) (L : Heap K) (k : K1 K) : Prop :=
  match C.ty t, x.stor with
  | some i, true => denil C i.nils x.cells L fun cs L1 => k (.ptr L1.length 0) env (L1 ++ [.box cs])
  | _, _ => False

def fillCells (place : Nat → Option (Nat × Nat)) : List PV → List (Nat × PV) → Option (List PV)
  | cs, [] => some cs
  | cs, (i, x) :: r => match place i, x.stor with
    | some (off, sz), true => if x.cells.length = sz ∧ off + sz ≤ cs.length then fillCells place (setCells cs off x.cells) r else none
    | _, _ => none

def evBuild (C : Cfg K) (t : TypeId) (parts : List (Nat × PV)) (k : PV → Prop) : Prop :=
  match C.ty t with
  | some { td := .struct fs, zero := z, .. } =>
    match fillCells (fun i => (fs[i]?).bind fun (o, ft) => (C.ty ft).map fun j => (o, j.size)) z parts with
    | some cs => k (.agg cs)
    | none => False
  | some { td := .array _ e, zero := z, .. } => match C.ty e with
    | some ie => match fillCells (fun i => some (i * ie.size, ie.size)) z parts with
      | some cs => k (.agg cs)
      | none => False
    | none => False
  | _ => False

/-- Nil slices in cells, as slices that are read alone. -/
def nilCells : List (Nat × TypeId) → List PV → List PV
  | [], cs => cs
  | (j, e) :: r, cs => match cs[j]? with
    | some (.raw v) => match isNilSlice v with
      | true => nilCells r (cs.set j (.sl (K e).α (K e).enc []))
      | false => nilCells r cs
    | _ => nilCells r cs

def goO (f : PV → Option PV) : List PV → Option (List PV)
  | [] => some []
  | x :: xs => match f x, goO f xs with
    | some y, some ys => some (y :: ys)
    | _, _ => none
def goA (f : PV → List Nat) : List PV → List Nat
  | [] => []
  | x :: xs => f x ++ goA f xs

/-- A value as what is read alone: what it leads to is held fast. -/
def solid (C : Cfg K) (L : Heap K) : Nat → PV → Option PV
  | 0, _ => none
  | n + 1, x => match x with
    | .own o => match L[o]? with
      | some (.row e xs) => some (.sl (K e).α (K e).enc xs)
      | _ => none
    | .ptr o off => match L[o]? with
      | some (.box cs) => (goO (solid C L n) cs).map fun cs' => .el (.agg cs') off
      | _ => none
    | .iface t x => match x with
      | .ptr o 0 => match L[o]? with
        | some (.box cs) => match goO (solid C L n) cs with
          | some cs' => match (if t = C.I.sec then some true else if t = C.I.plc then some false else none), cs' with
            | some true, [.int .i64 m, .err e] => some (.err (.sec m e))
            | some false, [.int .i64 m, .err e] => some (.err (.plc m e))
            | _, cs' => some (.iface t (.el (.agg cs') 0))
          | none => none
        | _ => none
      | x => (solid C L n x).map (.iface t ·)
    | .agg cs => (goO (solid C L n) cs).map .agg
    | .fn f a b => match goO (solid C L n) a, goO (solid C L n) b with
      | some a', some b' => some (.fn f a' b')
      | _, _ => none
    | .junk | .tup _ | .oel _ _ _ => none
    | x => some x
abbrev solid.goS (C : Cfg K) (L : Heap K) (n : Nat) (xs : List PV) : Option (List PV) := goO (solid C L n) xs

/-- The objects that 'solid' holds fast. -/
def reach (L : Heap K) : Nat → PV → List Nat
  | 0, _ => []
  | n + 1, x => match x with
    | .own o => [o]
    | .ptr o _ => match L[o]? with
      | some (.box cs) => o :: goA (reach L n) cs
      | _ => []
    | .iface _ x => match x with
      | .ptr o 0 => match L[o]? with
        | some (.box cs) => o :: goA (reach L n) cs
        | _ => []
      | x => reach L n x
    | .agg cs => goA (reach L n) cs
    | .fn _ a b => goA (reach L n) a ++ goA (reach L n) b
    | _ => []
abbrev reach.goR (L : Heap K) (n : Nat) (xs : List PV) : List Nat := goA (reach L n) xs

def goneAll : List Nat → Heap K → Heap K
  | [], L => L
  | o :: r, L => goneAll r (L.set o .gone)

def depth : Nat := 6

/-- An argument of some type, to be read alone. -/
def lend (C : Cfg K) (L : Heap K) (t : TypeId) (x : PV) : Option PV :=
  match C.ty t, x with
  | some i, .agg cs => solid C L depth (.agg (nilCells (K := K) i.nils cs))
  | some { td := .slice e, .. }, .raw v => match isNilSlice v with
    | true => some (.sl (K e).α (K e).enc [])
    | false => some (.raw v)
  | _, x => solid C L depth x

def lendAll (C : Cfg K) (L : Heap K) : List TypeId → List PV → Option (List PV)
  | _, [] => some []
  | ts, x :: xs => match lend C L (ts.headD 0) x, lendAll C L ts.tail xs with
    | some y, some ys => some (y :: ys)
    | _, _ => none

def partsL : Nat → List (Nat × PV) → Option (List PV)
  | _, [] => some []
  | i, (j, x) :: r => if i = j then (partsL (i + 1) r).map (x :: ·) else none

def evBuildSlice (C : Cfg K) (t : TypeId) (len : Nat) (parts : List (Nat × PV)) (env : List PV) (L : Heap K) (k : K1 K) : Prop :=
  match C.ty t with
  | some { td := .slice e, .. } => match C.ty e, C.cod e, partsL 0 parts with
    | some ie, true, some xs => match lendAll C L (List.replicate len e) xs with
      | some ys => chk (Nat.beq xs.length len && Nat.ble (len * ie.size) 16777216 && Nat.ble 1 ie.size) <|
          ∃ zs : List (K e).α, zs.map (K e).enc = ys ∧
            k (.own (goneAll (xs.flatMap (reach L depth)) L).length) env (goneAll (xs.flatMap (reach L depth)) L ++ [.row e zs])
      | none => False
    | _, _, _ => False
  | _ => False

def zeroPV (i : TInfo) : PV :=
  match i.agg, i.zero with
  | true, z => .agg z
  | false, [x] => x
  | false, _ => .junk

def evMakeSlice (C : Cfg K) (t : TypeId) (n m : PV) (env : List PV) (L : Heap K) (k : K1 K) : Prop :=
  match C.ty t, n, m with
  | some { td := .slice e, .. }, .int _ n, .int _ m => match C.ty e, C.cod e with
    | some ie, true => chk (Nat.ble 1 ie.size) <| (n = m ∧ 0 ≤ n ∧ n * ie.bytes ≤ 281474976710656 ∧ n < 9223372036854775808) ∧
        ∃ z : (K e).α, (K e).enc z = (match zeroPV ie with | .agg cs => .agg (nilCells (K := K) ie.nils cs) | x => x) ∧ k (.own L.length) env (L ++ [.row e (List.replicate n.toNat z)])
    | _, _ => False
  | _, _, _ => False

def isU8 : PV → Bool | .int .u8 _ => true | _ => false
def pvNat : PV → Nat | .int _ n => n.toNat | _ => 0
def strPV (l : List PV) : ByteArray := l.foldl (fun r x => r.push (UInt8.ofNat (pvNat x))) ByteArray.empty
def bytesPV (s : ByteArray) : List PV := s.data.toList.map fun b => .int .u8 b.toNat

def evConvert (C : Cfg K) (src dst : TypeId) (x : PV) (env : List PV) (L : Heap K) (k : K1 K) : Prop :=
  match C.td src, C.td dst, x with
  | .int _, .int kd, .int _ n => k (.int kd (kd.wrap n)) env L
  | .str, .str, .str s => k (.str s) env L
  | .slice e, .str, .sl _ enc l => match C.td e with
    | .int .u8 => (∀ y, y ∈ l → isU8 (enc y) = true) ∧ k (.str (strPV (l.map enc))) env L
    | _ => False
  | .slice e, .str, .own o => match C.td e, L[o]? with
    | .int .u8, some (.row e' xs) => chk (Nat.beq e' e) <| (∀ y, y ∈ xs → isU8 ((K e').enc y) = true) ∧ k (.str (strPV (xs.map (K e').enc))) env L
    | _, _ => False
  | _, _, _ => False

/-- Is a type known, and no interface? -/
def solidTd : TD → Bool
  | .other | .iface => false
  | _ => true

def evMakeIface (C : Cfg K) (t : TypeId) (x : PV) (k : PV → Prop) : Prop :=
  match solidTd (C.td t) with
  | true => match x with
    | .junk | .tup _ => False
    | .int .i64 n => if t = C.I.cls then k (.err (.cls n)) else k (.iface t (.int .i64 n))
    | x => k (.iface t x)
  | false => False

def evAssert (C : Cfg K) (x : PV) (t : TypeId) (ok : Bool) (k : PV → Prop) : Prop :=
  match solidTd (C.td t), C.ty t, x with
  | true, some i, .iface u y => if u = t then (match ok with | true => k (.tup [y, .bool true]) | false => k y)
      else (match ok with | true => k (.tup [zeroPV i, .bool false]) | false => False)
  | _, _, _ => False

def evExtract (x : PV) (j : Nat) (k : PV → Prop) : Prop :=
  match x with
  | .tup cs => match cs[j]? with
    | some y => k y
    | none => False
  | _ => False

def bound (x : Option PV) (d : Int) : Option Int :=
  match x with
  | none => some d
  | some (.int _ n) => some n
  | _ => none

def renO (ρ : Nat → Option Nat) : AObj K → AObj K
  | .box cs => .box (PV.ren.go ρ cs)
  | x => x
def renL (ρ : Nat → Option Nat) (L : Heap K) : Heap K := L.map (renO ρ)

def renE (ρ : Nat → Option Nat) (env : List PV) : List PV := PV.ren.go ρ env
/-- All names but one. -/
def but (o : Nat) (p : Nat) : Option Nat := match p == o with | true => none | false => some p
def butAll (l : List Nat) (p : Nat) : Option Nat := match l.contains p with | true => none | false => some p

def evSlice (C : Cfg K) (t : TypeId) (x : PV) (lo hi mx : Option PV) (env : List PV) (L : Heap K) (k : K1 K) : Prop :=
  match C.td t with
  | .str => match x, mx with
    | .str s, none => match bound lo 0, bound hi s.size with
      | some l, some h => (0 ≤ l ∧ l ≤ h ∧ h ≤ s.size) ∧ k (.str (s.extract l.toNat h.toNat)) env L
      | _, _ => False
    | _, _ => False
  | .slice e => match C.ty e with
    | some ie => match mx with
      | none => match x with
        | .sl _ enc xs => match bound lo 0, bound hi xs.length with
          | some l, some h => (∀ y, y ∈ xs → (enc y).cells.length = ie.size) ∧ (0 ≤ l ∧ l ≤ h ∧ h ≤ xs.length) ∧ k (.sl _ enc ((xs.take h.toNat).drop l.toNat)) env L
          | _, _ => False
        | .own o => match L[o]?, lo, hi with
          | some (.row e xs), none, some (.int _ h) => (0 ≤ h ∧ h ≤ xs.length) ∧ k (.own o) (renE (but o) env) ((renL (but o) L).set o (.row e (xs.take h.toNat)))
          | _, _, _ => False
        | _ => False
      | some (.int _ m) => match lo, bound hi 1, C.cod e with
        | none, some h, true => match x with
          | .sl _ _ _ => (m = 0 ∧ h = 0) ∧ k (.own L.length) env (L ++ [.row e []])
          | .own o => match L[o]? with
            | some (.row _ _) => (m = 0 ∧ h = 0) ∧ k (.own L.length) env (L ++ [.row e []])
            | _ => False
          | _ => False
        | _, _, _ => False
      | _ => False
    | none => False
  | _ => False

/-- The elements that an append lays behind. -/
def evSrc (e : TypeId) (x : PV) (L : Heap K) (k : List (K e).α → Prop) : Prop :=
  match x with
  | .own o => match L[o]? with
    | some (.row e2 xs) => if h : e2 = e then k (h ▸ xs) else False
    | _ => False
  | .sl _ enc l => ∃ ys : List (K e).α, ys.map (K e).enc = l.map enc ∧ k ys
  | .str s => ∃ ys : List (K e).α, ys.map (K e).enc = bytesPV s ∧ k ys
  | .raw v => match isNilSlice v with
    | true => k []
    | false => False
  | _ => False

def notIntTd : TD → Bool
  | .slice _ | .str => true
  | _ => false

def evAppend (C : Cfg K) (t t2 : TypeId) (s x : PV) (env : List PV) (L : Heap K) (k : K1 K) : Prop :=
  match C.td t, notIntTd (C.td t2) with
  | .slice e, true => match C.ty e, C.cod e with
    | some ie, true => chk (Nat.ble 1 ie.size && Nat.ble 1 ie.bytes) <| evSrc e x L fun ys => match s with
      | .own o => match L[o]? with
        | some (.row e2 xs) => if h : e2 = e then ((xs.length + ys.length) * ie.bytes ≤ 140737488355328 ∧
            k (.own o) (renE (but o) env) ((renL (but o) L).set o (.row e ((h ▸ xs) ++ ys)))) else False
        | _ => False
      | .raw v => match isNilSlice v with
        | true => ys.length * ie.bytes ≤ 140737488355328 ∧ k (.own L.length) env (L ++ [.row e ys])
        | false => False
      | _ => False
    | _, _ => False
  | _, _ => False

/-- The objects that a store or an append writes. -/
def tlOf : PV → List Nat
  | .ptr o _ | .oel o _ _ | .own o => [o]
  | _ => []

def evLen (C : Cfg K) (t : TypeId) (x : PV) (L : Heap K) (k : PV → Prop) : Prop :=
  match x, C.td t with
  | .str s, .str => k (.int .i64 s.size)
  | .sl _ _ l, .slice _ => k (.int .i64 l.length)
  | .own o, .slice _ => match L[o]? with
    | some (.row _ xs) => k (.int .i64 xs.length)
    | _ => False
  | .raw v, .slice _ => match isNilSlice v with
    | true => k (.int .i64 0)
    | false => False
  | _, _ => False

def evMinMax (mx : Bool) (kd : IntKind) : Int → List PV → (PV → Prop) → Prop
  | a, [], k => k (.int kd a)
  | a, y :: r, k => match y with
    | .int kd' b => if kd' = kd then evMinMax mx kd (match mx with | true => if b > a then b else a | false => if b < a then b else a) r k else False
    | _ => False

def evSpecial (C : Cfg K) (b : Builtin) (ts : List TypeId) (xs : List PV) (env : List PV) (L : Heap K) (k : K1 K) : Prop :=
  match b, ts, xs with
  | .len, [t], [x] => evLen C t x L fun y => k y env L
  | .append, [t, t2], [s, x] => evAppend C t t2 s x env L k
  | .max, _, .int kd a :: r => evMinMax true kd a r fun y => k y env L
  | .min, _, .int kd a :: r => evMinMax false kd a r fun y => k y env L
  | _, _, _ => False

def retPV : List PV → PV
  | [r] => r
  | rs => .tup rs

def isPtr : PV → Bool
  | .ptr _ _ | .own _ => true
  | _ => false

/-- Arguments of a call that may write: what a pointer leads to goes along; all else is held fast. -/
def lendG (C : Cfg K) (L : Heap K) : List TypeId → List PV → Option (List PV × List Nat)
  | _, [] => some ([], [])
  | ts, x :: xs => match lendG C L ts.tail xs with
    | some (ys, ids) => match isPtr x with
      | true => some (x :: ys, ids)
      | false => match lend C L (ts.headD 0) x with
        | some y => some (y :: ys, reach L depth x ++ ids)
        | none => none
    | none => none

/-- Of what no memory speaks. -/
def PV.flat : PV → Bool
  | .bool _ | .int _ _ | .str _ => true
  | .agg cs => go cs
  | _ => false
where go : List PV → Bool
  | [] => true
  | x :: xs => x.flat && go xs

def evCallF (C : Cfg K) (g : FuncId) (ts : List TypeId) (xs : List PV) (env : List PV) (L : Heap K) (k : K1 K) : Prop :=
  match C.Γs g with
  | some F => match lendAll C L ts xs with
    | some ys => F ys fun rs => cond ((xs.flatMap (reach L depth)).isEmpty || PV.flat.go rs) (k (retPV rs) env L) (k (retPV rs) env (goneAll (xs.flatMap (reach L depth)) L))
    | none => False
  | none => match C.Γ g with
    | some F => match lendG C L ts xs with
      | some (ys, ids) => F ys (goneAll ids L) fun rs L' bad => k (retPV rs) (renE (butAll bad) env) L'
      | none => False
    | none => False

def evCall (C : Cfg K) (c : Call) (env : List PV) (L : Heap K) (k : K1 K) : Prop :=
  match c.callee with
  | .builtin b => evSpecial C b c.argTypes.toList (c.args.toList.map (evX C env)) env L k
  | .value f => match evX C env f with
    | .fn (.func g) first cap => match first, cap with
      | [], [] => evCallF C g c.argTypes.toList (c.args.toList.map (evX C env)) env L k
      | first, cap => evCallF C g (first.map (fun _ => 0) ++ c.argTypes.toList) (first ++ c.args.toList.map (evX C env) ++ cap) env L k
    | _ => False
  | .invoke r name => match evX C env r with
    | .err e => match C.Γi name with
      | some F => match lendAll C L c.argTypes.toList (c.args.toList.map (evX C env)) with
        | some ys => F (.err e :: ys) fun rs => cond (((c.args.toList.map (evX C env)).flatMap (reach L depth)).isEmpty || PV.flat.go rs) (k (retPV rs) env L) (k (retPV rs) env (goneAll ((c.args.toList.map (evX C env)).flatMap (reach L depth)) L))
        | none => False
      | none => False
    | .iface t x => match C.meth t name with
      | some g => evCallF C g (0 :: c.argTypes.toList) (x :: c.args.toList.map (evX C env)) env L k
      | none => False
    | _ => False

def evNilCheck (x : PV) (L : Heap K) (k : PV → Prop) : Prop :=
  match x with
  | .ptr o off => match L[o]? with
    | some (.box _) => k (.ptr o off)
    | _ => False
  | .el y off => k (.el y off)
  | .fn (.func g) a b => k (.fn (.func g) a b)
  | .iface t y => k (.iface t y)
  | _ => False

def evP (C : Cfg K) (env : List PV) (p : Nat × Operand) : Nat × PV := (p.1, evX C env p.2)
def PV.one (x : PV) : Bool := !x.isAgg && x.stor

/-- One operation. -/
def evOp (C : Cfg K) (o : Oper) (env : List PV) (L : Heap K) (k : K1 K) : Prop :=
  match o.op with
  | .move x | .assign x => evMove C x o.type env L k
  | .pick c a b => match evX C env c with
    | .bool t => match t, evX C env a, evX C env b with
      | true, x, _ => k x env L
      | false, _, y => k y env L
    | _ => False
  | .alloc t => evAlloc C t env L k
  | .box t x => evBox C t (evX C env x) env L k
  | .build t parts => evBuild C t (parts.toList.map (evP C env)) fun y => k y env L
  | .buildSlice t n parts => evBuildSlice C t n (parts.toList.map (evP C env)) env L k
  | .load t p => evLoad C t (evX C env p) L fun y => k y env L
  | .store t p x => evStore C t (evX C env p) (evX C env x) env L k
  | .nilCheck x => evNilCheck (evX C env x) L fun y => k y env L
  | .binOp op t x y _ => evBin C op t y (evX C env x) (evX C env y) L fun z => k z env L
  | .unOp op _ x => evUn op (evX C env x) fun y => k y env L
  | .convert s d x => evConvert C s d (evX C env x) env L k
  | .makeInterface t x => evMakeIface C t (evX C env x) fun y => k y env L
  | .makeFunc f a b => chk ((a.toList.map (evX C env)).all PV.one && (b.toList.map (evX C env)).all PV.one) (k (.fn f (a.toList.map (evX C env)) (b.toList.map (evX C env))) env L)
  | .slice t x lo hi mx => evSlice C t (evX C env x) (lo.map (evX C env)) (hi.map (evX C env)) (mx.map (evX C env)) env L k
  | .fieldAddr t p f => evFieldAddr C t (evX C env p) f L fun y => k y env L
  | .field t x f => evField C t (evX C env x) f fun y => k y env L
  | .indexAddr t x i => evIndexAddr C t (evX C env x) (evX C env i) L fun y => k y env L
  | .index t x i => evIndex C t (evX C env x) (evX C env i) fun y => k y env L
  | .typeAssert x _ t ok => evAssert C (evX C env x) t ok fun y => k y env L
  | .extract x j => evExtract (evX C env x) j fun y => k y env L
  | .call c => evCall C c env L k
  | _ => False

def putE (env : List PV) (d : Option Tmp) (x : PV) : List PV :=
  match d with
  | some d => env.set d x
  | none => env

/-- The objects that values lead to, in order, each once. -/
def refs : PV → List Nat
  | .own o => [o]
  | .ptr o _ => [o]
  | .oel o _ _ => [o]
  | .agg cs => go cs
  | .tup cs => go cs
  | .iface _ x => refs x
  | .fn _ a b => go a ++ go b
  | _ => []
where go : List PV → List Nat
  | [] => []
  | x :: xs => refs x ++ go xs

def addNew (l : List Nat) : List Nat → List Nat
  | [] => l
  | o :: r => match l.contains o with
    | true => addNew l r
    | false => addNew (l ++ [o]) r

/-- All that is led to from objects. -/
def closeRefs (L : Heap K) : Nat → Nat → List Nat → List Nat
  | 0, _, l => l
  | n + 1, i, l => match l[i]? with
    | some o => match L[o]? with
      | some (.box cs) => closeRefs L n (i + 1) (addNew l (refs.go cs))
      | _ => closeRefs L n (i + 1) l
    | none => l

def roots (L : Heap K) (ys : List PV) : List Nat := closeRefs L 64 0 (addNew [] (refs.go ys))

/-- The objects that a call may write. -/
def touchF (C : Cfg K) (g : FuncId) (ts : List TypeId) (xs : List PV) (L : Heap K) : List Nat :=
  match C.Γs g with
  | some _ => []
  | none => match lendG C L ts xs with
    | some (ys, ids) => roots (goneAll ids L) ys
    | none => []
def touchB (b : Builtin) (xs : List PV) : List Nat :=
  match b, xs with
  | .append, s :: _ => tlOf s
  | _, _ => []
def touchCall (C : Cfg K) (c : Call) (env : List PV) (L : Heap K) : List Nat :=
  match c.callee with
  | .builtin b => touchB b (c.args.toList.map (evX C env))
  | .value f => match evX C env f with
    | .fn (.func g) first cap => match first, cap with
      | [], [] => touchF C g c.argTypes.toList (c.args.toList.map (evX C env)) L
      | first, cap => touchF C g (first.map (fun _ => 0) ++ c.argTypes.toList) (first ++ c.args.toList.map (evX C env) ++ cap) L
    | _ => []
  | .invoke r name => match evX C env r with
    | .iface t x => match C.meth t name with
      | some g => touchF C g (0 :: c.argTypes.toList) (x :: c.args.toList.map (evX C env)) L
      | none => []
    | _ => []
def touchOp (C : Cfg K) (o : Oper) (env : List PV) (L : Heap K) : List Nat :=
  match o.op with
  | .store _ p _ => tlOf (evX C env p)
  | .call c => touchCall C c env L
  | _ => []

/-- One operation of a region, under its guard. -/
def evStep (C : Cfg K) (ops : Array Oper) (q : List PV → Heap K → Bool) (o : Oper) (env : List PV) (L : Heap K) (k : List PV → Heap K → Prop) : Prop :=
  match o.guard with
  | none => chk (q env L) (evOp C o env L fun x env' L' => k (putE env' o.dst x) L')
  | some (j, want) => match (ops[j]?).bind (·.dst) with
    | some d => match env[d]? with
      | some (.bool b) =>
        cond b
          (match want with
            | true => chk (q (env.set d (.bool true)) L) (evOp C o (env.set d (.bool true)) L fun x env' L' => k (putE env' o.dst x) L')
            | false => k (putE (env.set d (.bool true)) o.dst (.tup [])) L)
          (match want with
            | true => k (putE (env.set d (.bool false)) o.dst (.tup [])) L
            | false => chk (q (env.set d (.bool false)) L) (evOp C o (env.set d (.bool false)) L fun x env' L' => k (putE env' o.dst x) L'))
      | some (.tup _) => k (putE env o.dst (.tup [])) L
      | _ => False
    | none => False

/-- The operations in their order. -/
def evOps (C : Cfg K) (ops : Array Oper) : List Nat → List PV → Heap K → (List PV → Heap K → Prop) → Prop
  | [], env, L, k => k env L
  | i :: r, env, L, k => match ops[i]? with
    | some o => evStep C ops (fun _ _ => true) o env L fun env' L' => evOps C ops r env' L' k
    | none => False

def plainMove : Operand → Bool
  | .const v => !isNilSlice v
  | _ => true

/-- Operations that reckon and look into no memory. -/
def quietOp (C : Cfg K) (o : Oper) : Bool :=
  match o.op with
  | .move x | .assign x => plainMove x
  | .pick .. | .nilCheck _ | .binOp .. | .unOp .. | .makeInterface .. | .makeFunc .. | .fieldAddr .. | .field .. | .indexAddr .. | .index .. | .typeAssert .. | .extract .. | .build .. => true
  | .convert s _ _ => match C.td s with
    | .slice _ => false
    | _ => true
  | .call c => match c.callee with
    | .builtin .len | .builtin .max | .builtin .min => true
    | _ => false
  | _ => false

/-- May a load be taken ahead? -/
def okAddr (eff : Bool) (m0 : Nat) (ts : List Nat) : PV → Bool
  | .el _ _ => !eff
  | .ptr o _ => !ts.contains o && Nat.blt o m0
  | .oel o _ _ => !ts.contains o && !eff
  | _ => false

def okTake (C : Cfg K) (ts : List Nat) (eff : Bool) (m0 : Nat) (o : Oper) (env : List PV) : Bool :=
  quietOp C o || match o.op with
    | .load _ p => okAddr eff m0 ts (evX C env p)
    | _ => false

def isReady (ops : Array Oper) (listed : Array Bool) (i : Nat) : Bool :=
  !listed.getD i true && ((ops[i]?).map (·.after.all fun e => !Region.binds .any e || listed.getD e.on false)).getD false

/-- Is an operation passed by? -/
def guardOff (ops : Array Oper) (o : Oper) (env : List PV) : Bool :=
  match o.guard with
  | some (j, want) => match (ops[j]?).bind (·.dst) with
    | some d => match env[d]? with
      | some (.bool b) => b != want
      | some (.tup _) => true
      | _ => false
    | none => false
  | none => false

def canTake (C : Cfg K) (ops : Array Oper) (ts : List Nat) (eff : Bool) (m0 : Nat) (listed : Array Bool) (env : List PV) (i : Nat) : Bool :=
  match ops[i]? with
  | some o => isReady ops listed i && (okTake C ts eff m0 o env || guardOff ops o env) && Region.free .any ops listed i
  | none => false

/-- The slots that guards of operations that may come next look into. -/
def guardSlots (ops : Array Oper) (listed : Array Bool) : List Nat :=
  (List.range ops.size).filterMap fun i => match isReady ops listed i with
    | true => match ops[i]? with
      | some o => match o.guard with
        | some (j, _) => (ops[j]?).bind (·.dst)
        | none => none
      | none => none
    | false => none

def splitG : List Nat → List PV → (List PV → Prop) → Prop
  | [], env, k => k env
  | d :: r, env, k => match env[d]? with
    | some (.bool b) => cond b (splitG r (env.set d (.bool true)) k) (splitG r (env.set d (.bool false)) k)
    | _ => splitG r env k

def allR (p : Nat → Prop) : List Nat → Prop
  | [] => True
  | [i] => p i
  | i :: r => p i ∧ allR p r

/-- A region whose order is drawn: what only reads is taken ahead; of the rest, whatever may come up. -/
def evDraw (C : Cfg K) (ops : Array Oper) (ts : List Nat) (m0 : Nat) : Nat → Bool → Array Bool → List PV → Heap K → (List PV → Heap K → Prop) → Prop
  | 0, _, listed, env, L, k => chk ((List.range ops.size).all fun i => !isReady ops listed i) (k env L)
  | n + 1, eff, listed, env, L, k => splitG (guardSlots ops listed) env fun env =>
    match (List.range ops.size).find? (canTake C ops ts eff m0 listed env) with
    | some i => match ops[i]? with
      | some o => evStep C ops (fun e _ => okTake C ts eff m0 o e) o env L fun env' L' => evDraw C ops ts m0 n eff (listed.setIfInBounds i true) env' L' k
      | none => False
    | none => match (List.range ops.size).filter (isReady ops listed) with
      | [] => k env L
      | rs => allR (fun i => match ops[i]? with
        | some o => evStep C ops (fun e L => (touchOp C o e L).all ts.contains) o env L fun env' L' => evDraw C ops ts m0 n true (listed.setIfInBounds i true) env' L' k
        | none => False) rs

def rowsFrom : Nat → Heap K → List Nat
  | _, [] => []
  | i, x :: L => match x with
    | .row _ _ => i :: rowsFrom (i + 1) L
    | _ => rowsFrom (i + 1) L

def liveAt (L : Heap K) (o : Nat) : Bool := match L[o]? with
  | some x => x.live
  | none => false

def evRegion (C : Cfg K) (ops : Array Oper) (draw : Bool) (touch : List Nat) (env : List PV) (L : Heap K) (k : List PV → Heap K → Prop) : Prop :=
  match draw with
  | false => evOps C ops (List.range ops.size) env L k
  | true => chk (Region.noSelect ops && (touch ++ rowsFrom 0 L).all (liveAt L)) (evDraw C ops (touch ++ rowsFrom 0 L) L.length ops.size false (Array.replicate ops.size false) env L k)

inductive AItem where
  | code (c : Code)
  | endB (id : Nat)

def afterExit (id : Nat) : List AItem → Option (List AItem)
  | [] => none
  | .endB i :: k => if i = id then some k else afterExit id k
  | _ :: k => afterExit id k

def firstRegion : Code → Option Nat
  | .region id _ _ => some id
  | .seq a b => match firstRegion a with
    | some i => some i
    | none => firstRegion b
  | .cond _ a b => match firstRegion a with
    | some i => some i
    | none => firstRegion b
  | .block _ a => firstRegion a
  | .loop a => firstRegion a
  | _ => none

/-- Slots that nobody reads any more are forgotten. -/
def mask (live : List Nat) : Nat → List PV → List PV
  | _, [] => []
  | i, x :: xs => (match live.contains i with | true => x | false => .junk) :: mask live (i + 1) xs

def idxIn : List Nat → Nat → Nat → Option Nat
  | [], _, _ => none
  | p :: r, i, o => match p == o with
    | true => some i
    | false => idxIn r (i + 1) o

def pickL (L : Heap K) : List Nat → Heap K
  | [] => []
  | o :: r => (match L[o]? with | some x => x | none => .gone) :: pickL L r

/-- Objects, by the values that are held: the first m stay; what nobody holds falls away. -/
def canon (m : Nat) (env : List PV) (L : Heap K) (k : List PV → Heap K → Prop) : Prop :=
  k (renE (idxIn (closeRefs L 64 0 (addNew (List.range m) (refs.go env))) 0) env)
    (renL (idxIn (closeRefs L 64 0 (addNew (List.range m) (refs.go env))) 0) (pickL L (closeRefs L 64 0 (addNew (List.range m) (refs.go env)))))

structure Fun where
  n : Nat
  m : Nat
  res : List ResultVar
  live : Nat → Option (List Nat)
  cut : Nat → Bool
  touch : Nat → List Nat

def evRes (C : Cfg K) (env : List PV) (L : Heap K) : List ResultVar → (List PV → Prop) → Prop
  | [], k => k []
  | .tmp t :: r, k => match env[t]? with
    | some x => evRes C env L r fun xs => k (x :: xs)
    | none => False
  | .cell a t :: r, k => match env[a]? with
    | some p => evLoad C t p L fun x => evRes C env L r fun xs => k (x :: xs)
    | none => False

/-- Results that are errors or other interface values: what they lead to is held fast. -/
def solidRes (C : Cfg K) (L : Heap K) : List PV → Option (List PV × List Nat)
  | [] => some ([], [])
  | x :: xs => match solidRes C L xs with
    | some (ys, ids) => match x with
      | .iface t y => match solid C L depth (.iface t y) with
        | some z => some (z :: ys, reach L depth (.iface t y) ++ ids)
        | none => none
      | x => some (x :: ys, ids)
    | none => none

def evFin (C : Cfg K) (f : Fun) (env : List PV) (L : Heap K) (k : List PV → Heap K → Prop) : Prop :=
  evRes C env L f.res fun rs => match solidRes C L rs with
    | some (ys, ids) => canon f.m ys (goneAll ids L) k
    | none => False

abbrev KA (K : Codes) := List AItem → List PV → Heap K → Prop

def evCut (f : Fun) (id : Option Nat) (todo : List AItem) (env : List PV) (L : Heap K) (A : KA K) : Prop :=
  match id.bind f.live with
  | some live => canon f.m (mask live 0 env) L (A todo)
  | none => canon f.m env L (A todo)

def condE (x : Operand) (env : List PV) (b : Bool) : List PV :=
  match x with
  | .tmp d => env.set d (.bool b)
  | _ => env

def evT (C : Cfg K) (f : Fun) (A : KA K) (k : List PV → Heap K → Prop) : Nat → Bool → List AItem → List PV → Heap K → Prop
  | 0, _, _, _, _ => False
  | n + 1, force, todo, env, L => match todo with
    | [] => evFin C f env L k
    | .endB _ :: r => evT C f A k n false r env L
    | .code c :: r => match c with
      | .skip => evT C f A k n false r env L
      | .seq a b => evT C f A k n force (.code a :: .code b :: r) env L
      | .cond x a b => match evX C env x with
        | .bool t => cond t (evT C f A k n false (.code a :: r) (condE x env true) L) (evT C f A k n false (.code b :: r) (condE x env false) L)
        | _ => False
      | .block id a => evT C f A k n force (.code a :: .endB id :: r) env L
      | .loop a => match force with
        | true => evT C f A k n true (.code a :: .code (.loop a) :: r) env L
        | false => evCut f (firstRegion a) (.code (.loop a) :: r) env L A
      | .exit id => match afterExit id r with
        | some r' => evT C f A k n false r' env L
        | none => False
      | .ret => evFin C f env L k
      | .region id ops draw => match force, f.cut id with
        | false, true => evCut f (some id) (.code (.region id ops draw) :: r) env L A
        | _, _ => evRegion C ops draw (f.touch id) env L fun env' L' => evT C f A k n false r env' L'
      | _ => False

end Go.Ab
