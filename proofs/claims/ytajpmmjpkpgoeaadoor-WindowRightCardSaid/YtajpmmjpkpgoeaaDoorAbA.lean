import Derived.Calls
import Derived.Laws.World
import Derived.Laws.Sem
import Derived.Laws.Cells
import Derived.Below
import GoSem.Instr.Lookup
import GoSem.Dispatch
import Derived.OrdersHeld
import Derived.Laws.Entries
set_option linter.unusedVariables false
set_option linter.unusedSimpArgs false
set_option linter.unusedSectionVars false
namespace Go.Ab
open Go
inductive Err where
 | nil
 | cls (k : Int)
 | sec (n : Int) (e : Err)
 | plc (n : Int) (e : Err)
 deriving DecidableEq, Inhabited
inductive PV : Type 1 where
 | junk
 | bool (b : Bool)
 | int (k : IntKind) (n : Int)
 | str (s : ByteArray)
 | agg (cs : List PV)
 | tup (cs : List PV)
 | sl (α : Type) (enc : α -> PV) (l : List α)
 | el (x : PV) (off : Nat)
 | own (o : Nat)
 | ptr (o off : Nat)
 | oel (o : Nat) (i : Int) (off : Nat)
 | iface (t : TypeId) (x : PV)
 | err (e : Err)
 | fn (f : Fn) (first captured : List PV)
 | raw (v : Value)
 | fsl (fs : List PV)
 | fel (x : PV)
 | mref (o : Nat)
instance : Inhabited PV := ⟨.junk⟩
def PV.isAgg : PV -> Bool | .agg _ => true | _ => false
def isAggV : Value -> Bool | .agg _ => true | _ => false
structure Ids where
 cls : TypeId
 sec : TypeId
 plc : TypeId
def RepErr (I : Ids) (M : Nat -> Prop) (w : World) : Err -> Value -> Prop
 | .nil, v => v = .nilIface
 | .cls k, v => v = .iface I.cls (.int .i64 k)
 | .sec n e, v => ∃ b ve t fr, v = .iface I.sec (.pointer (some ⟨b, 0, none⟩)) /\ ¬ M b /\ w.heap[b]? = some (.cells #[.int .i64 n, ve] t fr) /\ RepErr I M w e ve
 | .plc n e, v => ∃ b ve t fr, v = .iface I.plc (.pointer (some ⟨b, 0, none⟩)) /\ ¬ M b /\ w.heap[b]? = some (.cells #[.int .i64 n, ve] t fr) /\ RepErr I M w e ve
def RepF (I : Ids) (M : Nat -> Prop) (w : World) : PV -> List Value -> Prop
 | .bool b, l => l = [.bool b]
 | .int k n, l => l = [.int k n]
 | .str s, l => l = [.string s]
 | .agg cs, l => go cs l
 | .sl _ enc xs, l => ∃ A cap, l = [.slice A xs.length cap] /\ xs.length <= cap /\ (xs = [] \/ ∃ b off s cells t fr, A = some ⟨b, off, none⟩ /\ 0 < s /\ ¬ M b /\
  w.heap[b]? = some (.cells cells t fr) /\ ∀ i x, xs[i]? = some x -> ∃ cs : List Value, cs.length = s /\ RepF I M w (enc x) cs /\ ∀ j v, cs[j]? = some v -> cells[off + i * s + j]? = some v)
 | .el x off, l => ∃ b base cells t fr, ∃ cs : List Value, l = [.pointer (some ⟨b, base + off, none⟩)] /\ ¬ M b /\ w.heap[b]? = some (.cells cells t fr) /\ RepF I M w x cs /\
  ∀ j v, cs[j]? = some v -> cells[base + j]? = some v
 | .iface t x, l => ∃ v, l = [.iface t v] /\ isAggV v = x.isAgg /\ RepF I M w x v.cells.toList
 | .err e, l => ∃ v, l = [v] /\ RepErr I M w e v
 | .fn f first captured, l => ∃ fs cs, l = [.func f ⟨fs⟩ ⟨cs⟩] /\ go first fs /\ go captured cs
 | .raw v, l => l = [v] /\ v.oneCell' = true
 | _, _ => False
where go : List PV -> List Value -> Prop
 | [], l => l = []
 | x :: xs, l => ∃ v r, l = v :: r /\ (x.isAgg = false /\ v.oneCell' = true) /\ RepF I M w x [v] /\ go xs r
def PV.cells : PV -> List PV
 | .agg cs => cs
 | x => [x]
def PV.pure : PV -> Bool
 | .agg cs => go cs
 | .iface _ x => x.pure
 | .fn _ a b => go a && go b
 | .junk | .tup _ | .own _ | .ptr _ _ | .oel _ _ _ | .fsl _ | .fel _ | .mref _ => false
 | _ => true
where go : List PV -> Bool
 | [] => true
 | x :: xs => x.pure && go xs
structure Cod : Type 1 where
 α : Type
 enc : α -> PV
 n : Nat
 ok : ∀ y, (enc y).pure = true
 len : ∀ y, (enc y).cells.length = n
abbrev Codes := TypeId -> Cod
inductive AObj (K : Codes) : Type 1 where
 | box (cs : List PV)
 | row (e : TypeId) (xs : List (K e).α)
 | mp (kd : IntKind) (e : TypeId) (f : Int -> Option (K e).α)
 | gone
def AObj.live {K : Codes} : AObj K -> Bool | .gone => false | _ => true
abbrev Heap (K : Codes) := List (AObj K)
abbrev Eta := Nat -> Option Nat
def Mut {K : Codes} (L : Heap K) (η : Eta) (b : Nat) : Prop := ∃ o x, L[o]? = some x /\ x.live = true /\ η o = some b
section
variable {I : Ids} {M M' : Nat -> Prop} {w w' : World}
theorem RepErr.mono (h : ∀ b o, ¬ M b -> w.heap[b]? = some o -> ¬ M' b /\ w'.heap[b]? = some o) : ∀ (e : Err) (v : Value), RepErr I M w e v -> RepErr I M' w' e v
 | .nil, _, hx => hx
 | .cls _, _, hx => hx
 | .sec n e, v, hx => by
  obtain ⟨b, ve, t, fr, hv, hM, hb, he⟩ := hx
  obtain ⟨hM', hb'⟩ := h b _ hM hb
  exact ⟨b, ve, t, fr, hv, hM', hb', RepErr.mono h e ve he⟩
 | .plc n e, v, hx => by
  obtain ⟨b, ve, t, fr, hv, hM, hb, he⟩ := hx
  obtain ⟨hM', hb'⟩ := h b _ hM hb
  exact ⟨b, ve, t, fr, hv, hM', hb', RepErr.mono h e ve he⟩
mutual
theorem RepF.mono (h : ∀ b o, ¬ M b -> w.heap[b]? = some o -> ¬ M' b /\ w'.heap[b]? = some o) : ∀ (x : PV) (l : List Value), RepF I M w x l -> RepF I M' w' x l
 | .bool _, _, hx => hx
 | .int _ _, _, hx => hx
 | .str _, _, hx => hx
 | .raw _, _, hx => hx
 | .agg cs, l, hx => RepF.mono_go h cs l hx
 | .sl α enc xs, l, hx => by
  obtain ⟨A, cap, rfl, hc, hx⟩ := hx
  refine ⟨A, cap, rfl, hc, hx.imp id ?_⟩
  rintro ⟨b, off, s, cells, t, fr, rfl, hs, hM, hb, hel⟩
  obtain ⟨hM', hb'⟩ := h b _ hM hb
  exact ⟨b, off, s, cells, t, fr, rfl, hs, hM', hb', fun i x hi => let ⟨cs, hl, hr, hc⟩ := hel i x hi; ⟨cs, hl, RepF.mono h (enc x) cs hr, hc⟩⟩
 | .el x off, l, hx => by
  obtain ⟨b, base, cells, t, fr, cs, rfl, hM, hb, hr, hc⟩ := hx
  obtain ⟨hM', hb'⟩ := h b _ hM hb
  exact ⟨b, base, cells, t, fr, cs, rfl, hM', hb', RepF.mono h x cs hr, hc⟩
 | .iface t x, l, hx => by
  obtain ⟨v, rfl, ha, hr⟩ := hx
  exact ⟨v, rfl, ha, RepF.mono h x _ hr⟩
 | .err e, l, hx => by
  obtain ⟨v, rfl, hr⟩ := hx
  exact ⟨v, rfl, RepErr.mono h e v hr⟩
 | .fn f first cap, l, hx => by
  obtain ⟨fs, cs, rfl, h1, h2⟩ := hx
  exact ⟨fs, cs, rfl, RepF.mono_go h first fs h1, RepF.mono_go h cap cs h2⟩
 | .junk, _, hx => hx.elim
 | .tup _, _, hx => hx.elim
 | .own _, _, hx => hx.elim
 | .ptr _ _, _, hx => hx.elim
 | .oel _ _ _, _, hx => hx.elim
 | .fsl _, _, hx => hx.elim
 | .fel _, _, hx => hx.elim
 | .mref _, _, hx => hx.elim
theorem RepF.mono_go (h : ∀ b o, ¬ M b -> w.heap[b]? = some o -> ¬ M' b /\ w'.heap[b]? = some o) : ∀ (xs : List PV) (l : List Value), RepF.go I M w xs l -> RepF.go I M' w' xs l
 | [], _, hx => hx
 | x :: xs, l, hx => by
  obtain ⟨v, r, rfl, h0, h1, h2⟩ := hx
  exact ⟨v, r, rfl, h0, RepF.mono h x _ h1, RepF.mono_go h xs r h2⟩
end
end
def PV.ren (ρ : Nat -> Option Nat) : PV -> PV
 | .agg cs => .agg (go cs)
 | .tup cs => .tup (go cs)
 | .iface t x => .iface t (x.ren ρ)
 | .fn f first cap => .fn f (go first) (go cap)
 | .own o => match ρ o with | some o' => .own o' | none => .junk
 | .ptr o off => match ρ o with | some o' => .ptr o' off | none => .junk
 | .oel o i off => match ρ o with | some o' => .oel o' i off | none => .junk
 | .fsl fs => .fsl (go fs)
 | .fel x => .fel (x.ren ρ)
 | .mref o => match ρ o with | some o' => .mref o' | none => .junk
 | x => x
where go : List PV -> List PV
 | [] => []
 | x :: xs => x.ren ρ :: go xs
structure Sig where
 I : Ids
 sz : TypeId -> Nat
 X : Nat -> Prop
def Mx (G : Sig) {K : Codes} (L : Heap K) (η : Eta) (b : Nat) : Prop := Mut L η b \/ G.X b
def OwnVal (sz : TypeId -> Nat) {K : Codes} (L : Heap K) (η : Eta) (w : World) (o : Nat) (l : List Value) : Prop :=
 ∀ e xs, L[o]? = some (.row e xs) -> ∃ A cap, l = [.slice A xs.length cap] /\ xs.length <= cap /\
  (cap = 0 \/ ∃ b cells t fr, η o = some b /\ A = some ⟨b, 0, none⟩ /\ w.heap[b]? = some (.cells cells t fr) /\ cap * sz e <= cells.size)
def OneV (l : List Value) : Prop := ∃ v, l = [v] /\ v.oneCell' = true
def Rep (G : Sig) {K : Codes} (L : Heap K) (η : Eta) (w : World) : PV -> List Value -> Prop
 | .junk, _ => True
 | .agg cs, l => go cs l
 | .tup cs, l => ∃ vs, l = [.tuple ⟨vs⟩] /\ goT cs vs
 | .iface t x, l => ∃ v, l = [.iface t v] /\ isAggV v = x.isAgg /\ Rep G L η w x v.cells.toList
 | .fn f first cap, l => ∃ fs cs, l = [.func f ⟨fs⟩ ⟨cs⟩] /\ go first fs /\ go cap cs
 | .own o, l => o < L.length /\ OneV l /\ OwnVal G.sz L η w o l
 | .ptr o off, l => o < L.length /\ OneV l /\ ∀ cs, L[o]? = some (.box cs) -> ∃ b, η o = some b /\ l = [.pointer (some ⟨b, off, none⟩)]
 | .oel o i off, l => o < L.length /\ OneV l /\ ∀ e xs, L[o]? = some (.row e xs) -> 0 <= i /\ i < xs.length /\ ∃ b, η o = some b /\ l = [.pointer (some ⟨b, i.toNat * G.sz e + off, none⟩)]
 | .mref o, l => o < L.length /\ OneV l /\ ∀ kd e f, L[o]? = some (.mp kd e f) -> ∃ b, η o = some b /\ l = [.map (some b)]
 | .bool b, l => l = [.bool b]
 | .int k n, l => l = [.int k n]
 | .str s, l => l = [.string s]
 | .raw v, l => l = [v] /\ v.oneCell' = true
 | .fsl fs, l => ∃ b cells t fr, l = [.slice (some ⟨b, 0, none⟩) fs.length fs.length] /\ ¬ Mx G L η b /\ w.heap[b]? = some (.cells ⟨cells⟩ t fr) /\ go fs cells
 | .fel x, l => ∃ b off cells t fr v, l = [.pointer (some ⟨b, off, none⟩)] /\ ¬ Mx G L η b /\ w.heap[b]? = some (.cells cells t fr) /\ cells[off]? = some v /\ (x.isAgg = false /\ v.oneCell' = true) /\ Rep G L η w x [v]
 | .sl α enc xs, l => RepF G.I (Mx G L η) w (.sl α enc xs) l
 | .el x off, l => RepF G.I (Mx G L η) w (.el x off) l
 | .err e, l => RepF G.I (Mx G L η) w (.err e) l
where
 go : List PV -> List Value -> Prop
 | [], l => l = []
 | x :: xs, l => ∃ v r, l = v :: r /\ (x.isAgg = false /\ v.oneCell' = true) /\ Rep G L η w x [v] /\ go xs r
 goT : List PV -> List Value -> Prop
 | [], l => l = []
 | x :: xs, l => ∃ v r, l = v :: r /\ (isAggV v = x.isAgg \/ x = .junk) /\ Rep G L η w x v.cells.toList /\ goT xs r
def RepV (G : Sig) {K : Codes} (L : Heap K) (η : Eta) (w : World) (x : PV) (v : Value) : Prop :=
 x = .junk \/ (isAggV v = x.isAgg /\ Rep G L η w x v.cells.toList)
def RowRel (G : Sig) (M : Nat -> Prop) (w : World) (s : Nat) (c : Cod) (xs : List c.α) (cells : Array Value) : Prop :=
 0 < s /\ xs.length * s <= cells.size /\ ∀ i x, xs[i]? = some x -> ∃ cs : List Value, cs.length = s /\ RepF G.I M w (c.enc x) cs /\ ∀ j v, cs[j]? = some v -> cells[i * s + j]? = some v
def MapRel (G : Sig) (M : Nat -> Prop) (w : World) (kd : IntKind) (c : Cod) (f : Int -> Option c.α) (es : List MapEntry) : Prop :=
 ∀ n, match f n with
  | some y => ∃ i v, Instr.findNow (.int kd) (.int kd n) es 0 = some (some (i, v)) /\ isAggV v = (c.enc y).isAgg /\ RepF G.I M w (c.enc y) v.cells.toList
  | none => Instr.findNow (.int kd) (.int kd n) es 0 = some none
def FreeR (fr : Nat × Nat) (cells : Array Value) : Prop := ∀ i, i < cells.size -> ¬ (fr.1 <= i /\ i < fr.2)
theorem FreeR.zero (cells : Array Value) : FreeR (0, 0) cells := fun i _ h => by have := h.2; simp at this
theorem FreeR.size {fr : Nat × Nat} {c c' : Array Value} (h : FreeR fr c) (hs : c'.size = c.size) : FreeR fr c' := fun i hi => h i (by omega)
def ObjRel (G : Sig) {K : Codes} (L : Heap K) (η : Eta) (w : World) (o : Nat) : AObj K -> Prop
 | .box cs => ∃ b t cells, η o = some b /\ w.heap[b]? = some (.cells ⟨cells⟩ t (0, 0)) /\ Rep.go G L η w cs cells
 | .row e xs => (xs = [] /\ η o = none) \/ ∃ b cells fr, FreeR fr cells /\ η o = some b /\ w.heap[b]? = some (.cells cells e fr) /\ RowRel G (Mx G L η) w (G.sz e) (K e) xs cells
 | .mp kd e f => ∃ b es clock, η o = some b /\ w.heap[b]? = some (.map es clock) /\ MapRel G (Mx G L η) w kd (K e) f es.toList
 | .gone => True
structure HeapRel (G : Sig) {K : Codes} (L : Heap K) (η : Eta) (w : World) : Prop where
 obj : ∀ o x, L[o]? = some x -> ObjRel G L η w o x
 inj : ∀ o o' x x' b, L[o]? = some x -> L[o']? = some x' -> x.live = true -> x'.live = true -> η o = some b -> η o' = some b -> o = o'
 ext : ∀ b, G.X b -> b < w.heap.size /\ ¬ Mut L η b
 none : ∀ o, L.length <= o -> η o = Option.none
end Go.Ab
namespace Go.Ab
theorem PV.isAgg_ren (ρ : Nat -> Option Nat) : ∀ x : PV, (x.ren ρ).isAgg = x.isAgg
 | .junk | .agg _ | .tup _ | .iface _ _ | .fn _ _ _ | .bool _ | .int _ _ | .str _ | .sl _ _ _ | .el _ _ | .err _ | .raw _ | .fsl _ | .fel _ => rfl
 | .mref o => by simp only [PV.ren]; split <;> rfl
 | .own o => by simp only [PV.ren]; split <;> rfl
 | .ptr o off => by simp only [PV.ren]; split <;> rfl
 | .oel o i off => by simp only [PV.ren]; split <;> rfl
theorem ren_go_len (ρ : Nat -> Option Nat) : ∀ xs : List PV, (PV.ren.go ρ xs).length = xs.length
 | [] => rfl
 | _ :: xs => congrArg (· + 1) (ren_go_len ρ xs)
section
variable {G : Sig} {K : Codes} {L L' : Heap K} {η η' : Eta} {w w' : World}
structure Moves2 (G G' : Sig) {K : Codes} (L : Heap K) (η : Eta) (w : World) (L' : Heap K) (η' : Eta) (w' : World) (ρ : Nat -> Option Nat) : Prop where
 froz : ∀ b o, ¬ Mx G L η b -> w.heap[b]? = some o -> ¬ Mx G' L' η' b /\ w'.heap[b]? = some o
 len : ∀ o o', o < L.length -> ρ o = some o' -> o' < L'.length
 box : ∀ o o' cs', o < L.length -> ρ o = some o' -> L'[o']? = some (.box cs') -> ∃ cs, L[o]? = some (.box cs) /\ η' o' = η o
 row : ∀ o o' e (xs' : List (K e).α), o < L.length -> ρ o = some o' -> L'[o']? = some (.row e xs') -> ∃ xs : List (K e).α, L[o]? = some (.row e xs) /\ xs.length = xs'.length /\ η' o' = η o /\
  ∀ b cells t fr, η o = some b -> w.heap[b]? = some (.cells cells t fr) -> ∃ cells' t' fr', w'.heap[b]? = some (.cells cells' t' fr') /\ cells'.size = cells.size
 mp : ∀ o o' kd e f', o < L.length -> ρ o = some o' -> L'[o']? = some (.mp kd e f') -> ∃ f, L[o]? = some (.mp kd e f) /\ η' o' = η o
 I : G'.I = G.I := by rfl
 sz : G'.sz = G.sz := by rfl
abbrev Moves (G : Sig) {K : Codes} (L : Heap K) (η : Eta) (w : World) (L' : Heap K) (η' : Eta) (w' : World) (ρ : Nat -> Option Nat) : Prop := Moves2 G G L η w L' η' w' ρ
section
variable {G' : Sig}
mutual
theorem Rep.mono {ρ : Nat -> Option Nat} (h : Moves2 G G' L η w L' η' w' ρ) : ∀ (x : PV) (l : List Value), Rep G L η w x l -> Rep G' L' η' w' (x.ren ρ) l
 | .junk, _, _ => trivial
 | .bool _, _, hx => hx
 | .int _ _, _, hx => hx
 | .str _, _, hx => hx
 | .raw _, _, hx => hx
 | .sl _ _ _, l, hx => by show RepF G'.I _ _ _ _; rw [h.I]; exact RepF.mono h.froz _ _ hx
 | .el _ _, l, hx => by show RepF G'.I _ _ _ _; rw [h.I]; exact RepF.mono h.froz _ _ hx
 | .err _, l, hx => by show RepF G'.I _ _ _ _; rw [h.I]; exact RepF.mono h.froz _ _ hx
 | .agg cs, l, hx => Rep.mono_go h cs l hx
 | .tup cs, l, hx => by
  obtain ⟨vs, rfl, hx⟩ := hx
  exact ⟨vs, rfl, Rep.mono_goT h cs vs hx⟩
 | .iface t x, l, hx => by
  obtain ⟨v, rfl, ha, hx⟩ := hx
  exact ⟨v, rfl, by rw [PV.isAgg_ren]; exact ha, Rep.mono h x _ hx⟩
 | .fn f first cap, l, hx => by
  obtain ⟨fs, cs, rfl, h1, h2⟩ := hx
  exact ⟨fs, cs, rfl, Rep.mono_go h first fs h1, Rep.mono_go h cap cs h2⟩
 | .fsl fs, l, hx => by
  obtain ⟨b, cells, t, fr, rfl, hM, hb, hx⟩ := hx
  obtain ⟨hM', hb'⟩ := h.froz b _ hM hb
  exact ⟨b, cells, t, fr, by rw [ren_go_len], hM', hb', Rep.mono_go h fs cells hx⟩
 | .fel x, l, hx => by
  obtain ⟨b, off, cells, t, fr, v, rfl, hM, hb, hc, ho, hx⟩ := hx
  obtain ⟨hM', hb'⟩ := h.froz b _ hM hb
  exact ⟨b, off, cells, t, fr, v, rfl, hM', hb', hc, by rw [PV.isAgg_ren]; exact ho, Rep.mono h x _ hx⟩
 | .own o, l, hx => by
  obtain ⟨ho, hone, hx⟩ := hx
  simp only [PV.ren]
  split
  ·rename_i o' hb
   refine ⟨h.len o o' ho hb, hone, ?_⟩
   intro e xs' hL
   obtain ⟨xs, hL0, hlen, hη, hc⟩ := h.row o o' e xs' ho hb hL
   obtain ⟨A, cap, rfl, hcap, hx⟩ := hx e xs hL0
   refine ⟨A, cap, by rw [hlen], by omega, hx.imp id ?_⟩
   rintro ⟨b, cells, t, fr, h1, h2, h3, h4⟩
   obtain ⟨cells', t', fr', h5, h6⟩ := hc b cells t fr h1 h3
   exact ⟨b, cells', t', fr', by rw [hη]; exact h1, h2, h5, by rw [h6, h.sz]; exact h4⟩
  ·exact trivial
 | .mref o, l, hx => by
  obtain ⟨ho, hone, hx⟩ := hx
  simp only [PV.ren]
  split
  ·rename_i o' hb
   refine ⟨h.len o o' ho hb, hone, ?_⟩
   intro kd e f' hL
   obtain ⟨f, hL0, hη⟩ := h.mp o o' kd e f' ho hb hL
   obtain ⟨b, h1, h2⟩ := hx kd e f hL0
   exact ⟨b, by rw [hη]; exact h1, h2⟩
  ·exact trivial
 | .ptr o off, l, hx => by
  obtain ⟨ho, hone, hx⟩ := hx
  simp only [PV.ren]
  split
  ·rename_i o' hb
   refine ⟨h.len o o' ho hb, hone, ?_⟩
   intro cs' hL
   obtain ⟨cs, hL0, hη⟩ := h.box o o' cs' ho hb hL
   obtain ⟨b, h1, h2⟩ := hx cs hL0
   exact ⟨b, by rw [hη]; exact h1, h2⟩
  ·exact trivial
 | .oel o i off, l, hx => by
  obtain ⟨ho, hone, hx⟩ := hx
  simp only [PV.ren]
  split
  ·rename_i o' hb
   refine ⟨h.len o o' ho hb, hone, ?_⟩
   intro e xs' hL
   obtain ⟨xs, hL0, hlen, hη, _⟩ := h.row o o' e xs' ho hb hL
   obtain ⟨h0, h1, b, h2, h3⟩ := hx e xs hL0
   exact ⟨h0, by omega, b, by rw [hη]; exact h2, by rw [h.sz]; exact h3⟩
  ·exact trivial
theorem Rep.mono_go {ρ : Nat -> Option Nat} (h : Moves2 G G' L η w L' η' w' ρ) : ∀ (xs : List PV) (l : List Value), Rep.go G L η w xs l -> Rep.go G' L' η' w' (PV.ren.go ρ xs) l
 | [], _, hx => hx
 | x :: xs, l, hx => by
  obtain ⟨v, r, rfl, h0, h1, h2⟩ := hx
  exact ⟨v, r, rfl, by rw [PV.isAgg_ren]; exact h0, Rep.mono h x _ h1, Rep.mono_go h xs r h2⟩
theorem Rep.mono_goT {ρ : Nat -> Option Nat} (h : Moves2 G G' L η w L' η' w' ρ) : ∀ (xs : List PV) (l : List Value), Rep.goT G L η w xs l -> Rep.goT G' L' η' w' (PV.ren.go ρ xs) l
 | [], _, hx => hx
 | x :: xs, l, hx => by
  obtain ⟨v, r, rfl, h0, h1, h2⟩ := hx
  refine ⟨v, r, rfl, ?_, Rep.mono h x _ h1, Rep.mono_goT h xs r h2⟩
  rcases h0 with h0 | h0
  ·exact .inl (by rw [PV.isAgg_ren]; exact h0)
  ·subst h0; exact .inr rfl
end
theorem RepV.mono {ρ : Nat -> Option Nat} (h : Moves2 G G' L η w L' η' w' ρ) {x : PV} {v : Value} (hx : RepV G L η w x v) : RepV G' L' η' w' (x.ren ρ) v := by
 rcases hx with rfl | ⟨h0, hx⟩
 ·exact .inl rfl
 ·exact .inr ⟨by rw [PV.isAgg_ren]; exact h0, Rep.mono h x _ hx⟩
end
mutual
theorem PV.ren_id : ∀ x : PV, x.ren some = x
 | .junk | .bool _ | .int _ _ | .str _ | .sl _ _ _ | .el _ _ | .err _ | .raw _ | .own _ | .ptr _ _ | .oel _ _ _ | .mref _ => rfl
 | .agg cs => by rw [PV.ren, PV.ren_id_go cs]
 | .tup cs => by rw [PV.ren, PV.ren_id_go cs]
 | .iface t x => by rw [PV.ren, PV.ren_id x]
 | .fsl fs => by rw [PV.ren, PV.ren_id_go fs]
 | .fel x => by rw [PV.ren, PV.ren_id x]
 | .fn f a b => by rw [PV.ren, PV.ren_id_go a, PV.ren_id_go b]
theorem PV.ren_id_go : ∀ xs : List PV, PV.ren.go some xs = xs
 | [] => rfl
 | x :: xs => by rw [PV.ren.go, PV.ren_id x, PV.ren_id_go xs]
end
theorem PV.ren_go_length (ρ : Nat -> Option Nat) : ∀ xs : List PV, (PV.ren.go ρ xs).length = xs.length
 | [] => rfl
 | _ :: xs => congrArg (· + 1) (PV.ren_go_length ρ xs)
theorem PV.ren_go_get (ρ : Nat -> Option Nat) : ∀ (xs : List PV) (i : Nat), (PV.ren.go ρ xs)[i]? = (xs[i]?).map (·.ren ρ)
 | [], _ => rfl
 | _ :: _, 0 => rfl
 | _ :: xs, i + 1 => PV.ren_go_get ρ xs i
end
end Go.Ab
namespace Go.Ab
open Go
inductive TD where
 | bool
 | int (k : IntKind)
 | str
 | slice (e : TypeId)
 | struct (fs : List (Nat × TypeId))
 | array (n : Nat) (e : TypeId)
 | ptr (e : TypeId)
 | iface
 | func
 | map (k e : TypeId)
 | other
 deriving Inhabited
structure TInfo : Type 1 where
 td : TD
 size : Nat
 bytes : Nat
 zero : List PV
 agg : Bool
 nils : List (Nat × TypeId)
abbrev Spec (K : Codes) := List PV -> Heap K -> (List PV -> Heap K -> List Nat -> Prop) -> Prop
abbrev SpecS := List PV -> (List PV -> Prop) -> Prop
structure Cfg (K : Codes) : Type 1 where
 P : Program
 I : Ids
 ty : TypeId -> Option TInfo
 cod : TypeId -> Bool
 glob : Nat -> Option PV
 meth : TypeId -> String -> Option FuncId
 Γ : FuncId -> Option (Spec K)
 Γs : FuncId -> Option SpecS
 Γi : String -> Option SpecS
 eqs : TypeId -> List PV -> Bool
 /-- Is a row cut from the left held fast (else nothing is known of the cut)? -/
 js : Bool := false
 /-- Are lists written out (so that an index takes its element at once)? -/
 cl : Bool := false
def Cfg.td {K : Codes} (C : Cfg K) (t : TypeId) : TD := match C.ty t with | some i => i.td | none => .other
def nilSlice : Value := .slice none 0 0
def ofConst1 : Value -> PV
 | .bool b => .bool b
 | .int k n => .int k n
 | .string s => .str s
 | .nilIface => .err .nil
 | v => .raw v
def ofConst : Value -> PV
 | .agg cs => .agg (cs.toList.map ofConst1)
 | v => ofConst1 v
def constOk : Value -> Bool
 | .agg cs => cs.toList.all Value.oneCell'
 | .tuple _ => false
 | v => v.oneCell'
def evX {K : Codes} (C : Cfg K) (env : List PV) : Operand -> PV
 | .tmp t => env.getD t .junk
 | .const v => match constOk v with
  | true => ofConst v
  | false => .junk
 | .global g => match C.glob g with
  | some x => .el x 0
  | none => .junk
 | .func f => .fn (.func f) [] []
def getAll {α : Type} (cl : Bool) (o : Option α) (k : α -> Prop) : Prop :=
 match cl with
 | false => ∀ y, o = some y -> k y
 | true => match o with
  | some y => k y
  | none => True
theorem getAll_at {α : Type} {cl : Bool} {o : Option α} {k : α -> Prop} {y : α} (h : getAll cl o k) (ho : o = some y) : k y := by
 subst ho
 cases cl with
 | false => exact h y rfl
 | true => exact h
abbrev K1 (K : Codes) := PV -> List PV -> Heap K -> Prop
variable {K : Codes}
def evNil (C : Cfg K) (e : TypeId) (L : Heap K) (k : PV -> Heap K -> Prop) : Prop :=
 match C.cod e with
 | true => k (.own L.length) (L ++ [.row e []])
 | false => False
def isNilSlice : Value -> Bool
 | .slice none 0 0 => true
 | _ => false
def evMove (C : Cfg K) (x : Operand) (t : TypeId) (env : List PV) (L : Heap K) (k : K1 K) : Prop :=
 match x with
 | .const v =>
  match isNilSlice v, C.ty t with
  | true, some { td := .slice e, .. } => evNil C e L fun y L' => k y env L'
  | true, _ => False
  | false, _ => k (evX C env (.const v)) env L
 | x => k (evX C env x) env L
def evIntBin (op : BinOp) (kd : IntKind) (a b : Int) (k : PV -> Prop) : Prop :=
 match op with
 | .add => k (.int kd (kd.wrap (a + b)))
 | .sub => k (.int kd (kd.wrap (a - b)))
 | .mul => k (.int kd (kd.wrap (a * b)))
 | .quo => b ≠ 0 /\ k (.int kd (kd.wrap (a.tdiv b)))
 | .rem => b ≠ 0 /\ k (.int kd (a.tmod b))
 | .and | .or | .xor | .andNot => k (.int kd (Go.bits op kd a b))
 | .eql => k (.bool (a == b))
 | .neq => k (.bool (a != b))
 | .lss => k (.bool (decide (a < b)))
 | .leq => k (.bool (decide (a <= b)))
 | .gtr => k (.bool (decide (a > b)))
 | .geq => k (.bool (decide (a >= b)))
 | _ => False
def evStrBin (op : BinOp) (a b : ByteArray) (k : PV -> Prop) : Prop :=
 match op with
 | .add => a.size + b.size <= 9223372036854775807 /\ k (.str (a ++ b))
 | .eql => k (.bool (a.toList == b.toList))
 | .neq => k (.bool (!(a.toList == b.toList)))
 | .lss => k (.bool (Op.bytesLess a.toList b.toList))
 | .leq => k (.bool (Op.bytesLess a.toList b.toList || a.toList == b.toList))
 | .gtr => k (.bool (!(Op.bytesLess a.toList b.toList || a.toList == b.toList)))
 | .geq => k (.bool (!(Op.bytesLess a.toList b.toList)))
 | _ => False
def Err.isNil : Err -> Bool | .nil => true | _ => false
def evIsNil (td : TD) (x : PV) (L : Heap K) (k : Bool -> Prop) : Prop :=
 match td, x with
 | .iface, .err e => k e.isNil
 | .iface, .iface _ _ => k false
 | .func, .fn _ _ _ => k false
 | .ptr _, .ptr o _ => match L[o]? with
  | some (.box _) => k false
  | _ => False
 | .ptr _, .el _ _ => k false
 | .ptr _, .raw (.pointer none) => k true
 | .slice _, .sl _ _ l => ∀ b, (l ≠ [] -> b = false) -> k b
 | .slice _, .own o => match L[o]? with
  | some (.row _ l) => ∀ b, (l ≠ [] -> b = false) -> k b
  | _ => False
 | _, _ => False
def nilFor : TD -> Value -> Bool
 | .iface, .nilIface => true
 | .func, .nilFunc => true
 | .ptr _, .pointer none => true
 | .slice _, .slice none 0 0 => true
 | _, _ => false
def isNilConst (td : TD) : Operand -> Bool
 | .const v => nilFor td v
 | _ => false
def eqCells : List PV -> List PV -> Option Bool
 | [], [] => some true
 | .int k a :: xs, .int k' b :: ys => if k = k' then (eqCells xs ys).map ((a == b) && ·) else none
 | .bool a :: xs, .bool b :: ys => (eqCells xs ys).map ((a == b) && ·)
 | .str a :: xs, .str b :: ys => (eqCells xs ys).map ((a == b) && ·)
 | _, _ => none
def evBin (C : Cfg K) (op : BinOp) (t : TypeId) (yo : Operand) (x y : PV) (L : Heap K) (k : PV -> Prop) : Prop :=
 match isNilConst (C.td t) yo with
 | true => match op with
  | .eql => evIsNil (C.td t) x L fun b => k (.bool b)
  | .neq => evIsNil (C.td t) x L fun b => k (.bool (!b))
  | _ => False
 | false =>
 match x, y with
 | .int kd a, .int kd' b =>
  match op with
  | .shl => 0 <= b /\ k (.int kd (kd.wrap (a * 2 ^ (min b.toNat kd.bits))))
  | .shr => 0 <= b /\ k (.int kd (a.fdiv (2 ^ (min b.toNat kd.bits))))
  | op => if kd = kd' then evIntBin op kd a b k else False
 | .str a, .str b => evStrBin op a b k
 | .bool a, .bool b => match op, C.td t with
  | .eql, .bool => k (.bool (a == b))
  | .neq, .bool => k (.bool (!(a == b)))
  | _, _ => False
 | .agg a, .agg b => match op, C.eqs t a, eqCells a b with
  | .eql, true, some r => k (.bool r)
  | .neq, true, some r => k (.bool (!r))
  | _, _, _ => False
 | _, _ => False
def evUn (op : UnOp) (x : PV) (k : PV -> Prop) : Prop :=
 match op, x with
 | .neg, .int kd n => k (.int kd (kd.wrap (0 - n)))
 | .not, .bool b => k (.bool (!b))
 | .xor, .int kd n => k (.int kd (Go.bits .xor kd (if kd.signed then -1 else kd.max) n))
 | _, _ => False
def PV.stor : PV -> Bool
 | .junk | .tup _ => false
 | _ => true
def chk (b : Bool) (p : Prop) : Prop := match b with | true => p | false => False
theorem chk_iff {b : Bool} {p : Prop} (h : chk b p) : b = true /\ p := by cases b; exact h.elim; exact ⟨rfl, h⟩
def evLoadCells (i : TInfo) (cs : List PV) (off : Nat) (k : PV -> Prop) : Prop :=
 match i.agg with
 | true => chk (Nat.ble (off + i.size) cs.length) (k (.agg ((cs.drop off).take i.size)))
 | false => match cs[off]? with
  | some x => k x
  | none => False
def evLoad (C : Cfg K) (t : TypeId) (p : PV) (L : Heap K) (k : PV -> Prop) : Prop :=
 match C.ty t, p with
 | some i, .ptr o off => match L[o]? with
  | some (.box cs) => evLoadCells i cs off k
  | _ => False
 | some i, .el x off => evLoadCells i x.cells off k
 | some i, .fel x => evLoadCells i [x] 0 k
 | some i, .oel o n off => match L[o]? with
  | some (.row e xs) => getAll C.cl xs[n.toNat]? fun y => evLoadCells i ((K e).enc y).cells off k
  | _ => False
 | _, _ => False
def setCells : List PV -> Nat -> List PV -> List PV
 | cs, _, [] => cs
 | cs, off, y :: ys => setCells (cs.set off y) (off + 1) ys
def keep1 (L : Heap K) (old y : PV) : PV :=
 match y, old with
 | .raw v, .own o => match isNilSlice v with
  | true => match L[o]? with
   | some (.row _ []) => .own o
   | _ => .raw v
  | false => .raw v
 | y, _ => y
def keepNil (L : Heap K) : List PV -> List PV -> List PV
 | old :: r, y :: ys => keep1 L old y :: keepNil L r ys
 | _, ys => ys
def evStore (C : Cfg K) (t : TypeId) (p y : PV) (env : List PV) (L : Heap K) (k : K1 K) : Prop :=
 match C.ty t, p, y.stor with
 | some i, .ptr o off, true => match L[o]? with
  | some (.box cs) => chk (Nat.beq y.cells.length i.size && Nat.ble (off + i.size) cs.length) (k (.tup []) env (L.set o (.box (setCells cs off (keepNil L (cs.drop off) y.cells)))))
  | _ => False
 | some i, .oel o n off, true => match L[o]? with
  | some (.row e xs) => chk (Nat.beq y.cells.length i.size) (∀ z, xs[n.toNat]? = some z -> (chk (Nat.ble (off + i.size) ((K e).enc z).cells.length)
   (∃ z' : (K e).α, (K e).enc z' = (match (K e).enc z with | .agg cs => .agg (setCells cs off y.cells) | _ => cond y.isAgg .junk y) /\
    k (.tup []) env (L.set o (.row e (xs.set n.toNat z'))))))
  | _ => False
 | _, _, _ => False
def evFieldAddr (C : Cfg K) (t : TypeId) (p : PV) (f : Nat) (L : Heap K) (k : PV -> Prop) : Prop :=
 match C.ty t with
 | some { td := .struct fs, .. } => match fs[f]?, p with
  | some (o, _), .ptr b off => match L[b]? with
   | some (.box _) => k (.ptr b (off + o))
   | _ => False
  | some (o, _), .el x off => k (.el x (off + o))
  | some (o, _), .oel b i off => match L[b]? with
   | some (.row _ _) => k (.oel b i (off + o))
   | _ => False
  | _, _ => False
 | _ => False
def evField (C : Cfg K) (t : TypeId) (x : PV) (f : Nat) (k : PV -> Prop) : Prop :=
 match C.ty t with
 | some { td := .struct fs, .. } => match fs[f]?, x with
  | some (o, ft), .agg cs => match C.ty ft with
   | some i => evLoadCells i cs o k
   | none => False
  | _, _ => False
 | _ => False
def evIndexAddr (C : Cfg K) (t : TypeId) (x i : PV) (L : Heap K) (k : PV -> Prop) : Prop :=
 match C.ty t, i with
 | some { td := .slice e, .. }, .int _ n => match C.ty e with
  | some ie => match x with
   | .sl _ enc l => (0 <= n /\ n < l.length) /\ getAll C.cl l[n.toNat]? fun y => chk (Nat.beq (enc y).cells.length ie.size) (k (.el (enc y) 0))
   | .own o => match L[o]? with
    | some (.row e' l) => chk (Nat.beq e' e) <| (0 <= n /\ n < l.length) /\ k (.oel o n 0)
    | _ => False
   | .fsl fs => match fs[n.toNat]? with
    | some y => chk (Nat.beq ie.size 1) <| (0 <= n /\ n < fs.length) /\ k (.fel y)
    | none => False
   | _ => False
  | none => False
 | some { td := .array len e, .. }, .int _ n => match C.ty e with
  | some ie => match x with
   | .el y off => (0 <= n /\ n < len) /\ k (.el y (off + n.toNat * ie.size))
   | .ptr o off => match L[o]? with
    | some (.box _) => (0 <= n /\ n < len) /\ k (.ptr o (off + n.toNat * ie.size))
    | _ => False
   | .oel o i off => match L[o]? with
    | some (.row _ _) => (0 <= n /\ n < len) /\ k (.oel o i (off + n.toNat * ie.size))
    | _ => False
   | _ => False
  | none => False
 | _, _ => False
def evIndex (C : Cfg K) (t : TypeId) (x i : PV) (k : PV -> Prop) : Prop :=
 match C.td t, x, i with
 | .str, .str s, .int _ n => (0 <= n /\ n < s.size) /\ ∀ b, s[n.toNat]? = some b -> k (.int .u8 b.toNat)
 | .array len e, .agg cs, .int _ n => match C.ty e, n with
  | some i, .ofNat m => chk (Nat.blt m len) (evLoadCells i cs (m * i.size) k)
  | _, _ => False
 | _, _, _ => False
def denil (C : Cfg K) : List (Nat × TypeId) -> List PV -> Heap K -> (List PV -> Heap K -> Prop) -> Prop
 | [], cs, L, k => k cs L
 | (j, e) :: r, cs, L, k => match cs[j]? with
  | some (.raw v) => match isNilSlice v, C.cod e with
   | true, true => denil C r (cs.set j (.own L.length)) (L ++ [.row e []]) k
   | true, false => False
   | false, _ => denil C r cs L k
  | _ => denil C r cs L k
def evAlloc (C : Cfg K) (t : TypeId) (env : List PV) (L : Heap K) (k : K1 K) : Prop :=
 match C.ty t with
 | some i => denil C i.nils i.zero L fun cs L1 => k (.ptr L1.length 0) env (L1 ++ [.box cs])
 | none => False
def evBox (C : Cfg K) (t : TypeId) (x : PV) (env : List PV) (L : Heap K) (k : K1 K) : Prop :=
 match C.ty t, x.stor with
 | some i, true => denil C i.nils x.cells L fun cs L1 => k (.ptr L1.length 0) env (L1 ++ [.box cs])
 | _, _ => False
def fillCells (place : Nat -> Option (Nat × Nat)) : List PV -> List (Nat × PV) -> Option (List PV)
 | cs, [] => some cs
 | cs, (i, x) :: r => match place i, x.stor with
  | some (off, sz), true => if x.cells.length = sz /\ off + sz <= cs.length then fillCells place (setCells cs off x.cells) r else none
  | _, _ => none
def evBuild (C : Cfg K) (t : TypeId) (parts : List (Nat × PV)) (k : PV -> Prop) : Prop :=
 match C.ty t with
 | some { td := .struct fs, zero := z, .. } =>
  match fillCells (fun i => (fs[i]?).bind fun (o, ft) => (C.ty ft).map fun j => (o, j.size)) z parts with
  | some cs => k (.agg cs)
  | none => False
 | some { td := .array _ e, zero := z, .. } => match C.ty e with
  | some ie => match fillCells (fun i => some (i * ie.size, ie.size)) z parts with
   | some cs => k (.agg cs)
   | none => False
  | none => False
 | _ => False
def nilCells : List (Nat × TypeId) -> List PV -> List PV
 | [], cs => cs
 | (j, e) :: r, cs => match cs[j]? with
  | some (.raw v) => match isNilSlice v with
   | true => nilCells r (cs.set j (.sl (K e).α (K e).enc []))
   | false => nilCells r cs
  | _ => nilCells r cs
def goO (f : PV -> Option PV) : List PV -> Option (List PV)
 | [] => some []
 | x :: xs => match f x, goO f xs with
  | some y, some ys => some (y :: ys)
  | _, _ => none
def goA (f : PV -> List Nat) : List PV -> List Nat
 | [] => []
 | x :: xs => f x ++ goA f xs
def solid (C : Cfg K) (L : Heap K) : Nat -> PV -> Option PV
 | 0, _ => none
 | n + 1, x => match x with
  | .own o => match L[o]? with
   | some (.row e xs) => some (.sl (K e).α (K e).enc xs)
   | _ => none
  | .ptr o off => match L[o]? with
   | some (.box cs) => (goO (solid C L n) cs).map fun cs' => .el (.agg cs') off
   | _ => none
  | .iface t x => match x with
   | .ptr o 0 => match L[o]? with
    | some (.box cs) => match goO (solid C L n) cs with
     | some cs' => match (if t = C.I.sec then some true else if t = C.I.plc then some false else none), cs' with
      | some true, [.int .i64 m, .err e] => some (.err (.sec m e))
      | some false, [.int .i64 m, .err e] => some (.err (.plc m e))
      | _, cs' => some (.iface t (.el (.agg cs') 0))
     | none => none
    | _ => none
   | x => (solid C L n x).map (.iface t ·)
  | .agg cs => (goO (solid C L n) cs).map .agg
  | .fn f a b => match goO (solid C L n) a, goO (solid C L n) b with
   | some a', some b' => some (.fn f a' b')
   | _, _ => none
  | .junk | .tup _ | .oel _ _ _ | .fsl _ | .fel _ | .mref _ => none
  | x => some x
abbrev solid.goS (C : Cfg K) (L : Heap K) (n : Nat) (xs : List PV) : Option (List PV) := goO (solid C L n) xs
def reach (L : Heap K) : Nat -> PV -> List Nat
 | 0, _ => []
 | n + 1, x => match x with
  | .own o => [o]
  | .ptr o _ => match L[o]? with
   | some (.box cs) => o :: goA (reach L n) cs
   | _ => []
  | .iface _ x => match x with
   | .ptr o 0 => match L[o]? with
    | some (.box cs) => o :: goA (reach L n) cs
    | _ => []
   | x => reach L n x
  | .agg cs => goA (reach L n) cs
  | .fn _ a b => goA (reach L n) a ++ goA (reach L n) b
  | _ => []
abbrev reach.goR (L : Heap K) (n : Nat) (xs : List PV) : List Nat := goA (reach L n) xs
def goneAll : List Nat -> Heap K -> Heap K
 | [], L => L
 | o :: r, L => goneAll r (L.set o .gone)
def depth : Nat := 6
def lend (C : Cfg K) (L : Heap K) (t : TypeId) (x : PV) : Option PV :=
 match C.ty t, x with
 | some i, .agg cs => solid C L depth (.agg (nilCells (K := K) i.nils cs))
 | some { td := .slice e, .. }, .raw v => match isNilSlice v with
  | true => some (.sl (K e).α (K e).enc [])
  | false => some (.raw v)
 | _, x => solid C L depth x
def lendAll (C : Cfg K) (L : Heap K) : List TypeId -> List PV -> Option (List PV)
 | _, [] => some []
 | ts, x :: xs => match lend C L (ts.headD 0) x, lendAll C L ts.tail xs with
  | some y, some ys => some (y :: ys)
  | _, _ => none
def partsL : Nat -> List (Nat × PV) -> Option (List PV)
 | _, [] => some []
 | i, (j, x) :: r => if i = j then (partsL (i + 1) r).map (x :: ·) else none
def evBuildSlice (C : Cfg K) (t : TypeId) (len : Nat) (parts : List (Nat × PV)) (env : List PV) (L : Heap K) (k : K1 K) : Prop :=
 match C.ty t with
 | some { td := .slice e, .. } => match C.ty e, C.cod e, partsL 0 parts with
  | some ie, true, some xs => match lendAll C L (List.replicate len e) xs with
   | some ys => chk (Nat.beq xs.length len && Nat.ble (len * ie.size) 16777216 && Nat.ble 1 ie.size) <|
    ∃ zs : List (K e).α, zs.map (K e).enc = ys /\
     k (.own (goneAll (xs.flatMap (reach L depth)) L).length) env (goneAll (xs.flatMap (reach L depth)) L ++ [.row e zs])
   | none => False
  | _, _, _ => False
 | _ => False
def isFuncs (C : Cfg K) (t : TypeId) : Bool :=
 match C.ty t with
 | some { td := .slice e, .. } => match C.ty e with
  | some ie => match ie.td with
   | .func => true
   | _ => false
  | none => false
 | _ => false
def evBuildFns (C : Cfg K) (t : TypeId) (len : Nat) (parts : List (Nat × PV)) (env : List PV) (L : Heap K) (k : K1 K) : Prop :=
 match C.ty t with
 | some { td := .slice e, .. } => match C.ty e, partsL 0 parts with
  | some ie, some xs => chk (Nat.beq xs.length len && Nat.ble len 1000 && Nat.beq ie.size 1 && Nat.ble 1 len && xs.all fun x => !x.isAgg && x.stor) (k (.fsl xs) env L)
  | _, _ => False
 | _ => False
def zeroPV (i : TInfo) : PV :=
 match i.agg, i.zero with
 | true, z => .agg z
 | false, [x] => x
 | false, _ => .junk
def evMakeMap (C : Cfg K) (t : TypeId) (r : Option PV) (env : List PV) (L : Heap K) (k : K1 K) : Prop :=
 match r, C.td t with
 | none, .map kt e => match C.td kt with
  | .int kd => k (.mref L.length) env (L ++ [.mp kd e (fun _ => none)])
  | _ => False
 | _, _ => False
def okPair (ok : Bool) (x : PV) (b : Bool) : PV := match ok with | true => .tup [x, .bool b] | false => x
def isIntTd (kd : IntKind) : TD -> Bool | .int k => k == kd | _ => false
def evLookup (C : Cfg K) (t : TypeId) (m x : PV) (ok : Bool) (env : List PV) (L : Heap K) (k : K1 K) : Prop :=
 match C.td t, m, x with
 | .map kt e, .mref o, .int kd n => match C.ty e, L[o]? with
  | some ie, some (.mp kd' e' f) => chk (isIntTd kd (C.td kt) && kd == kd' && Nat.beq e' e) <|
   (∀ y, f n = some y -> k (okPair ok ((K e').enc y) true) env L) /\ (f n = none -> k (okPair ok (zeroPV ie) false) env L)
  | _, _ => False
 | _, _, _ => False
def upF {α : Type} (f : Int -> Option α) (n : Int) (y : α) : Int -> Option α := fun m => if m = n then some y else f m
def evMapUpdate (C : Cfg K) (t : TypeId) (m x v : PV) (env : List PV) (L : Heap K) (k : K1 K) : Prop :=
 match C.td t, m, x with
 | .map kt e, .mref o, .int kd n => match L[o]?, lend C L e v with
  | some (.mp kd' e' f), some y => chk (isIntTd kd (C.td kt) && kd == kd' && Nat.beq e' e && !(reach L depth v).contains o) <|
   ∃ z : (K e').α, (K e').enc z = y /\ k (.tup []) env ((goneAll (reach L depth v) L).set o (.mp kd' e' (upF f n z)))
  | _, _ => False
 | _, _, _ => False
def isU8 : PV -> Bool | .int .u8 _ => true | _ => false
def pvNat : PV -> Nat | .int _ n => n.toNat | _ => 0
def strPV (l : List PV) : ByteArray := l.foldl (fun r x => r.push (UInt8.ofNat (pvNat x))) ByteArray.empty
def bytesPV (s : ByteArray) : List PV := s.data.toList.map fun b => .int .u8 b.toNat
def evConvert (C : Cfg K) (src dst : TypeId) (x : PV) (env : List PV) (L : Heap K) (k : K1 K) : Prop :=
 match C.td src, C.td dst, x with
 | .int _, .int kd, .int _ n => k (.int kd (kd.wrap n)) env L
 | .str, .str, .str s => k (.str s) env L
 | .slice e, .str, .sl _ enc l => match C.td e with
  | .int .u8 => (∀ y, y ∈ l -> isU8 (enc y) = true) /\ k (.str (strPV (l.map enc))) env L
  | _ => False
 | .slice e, .str, .own o => match C.td e, L[o]? with
  | .int .u8, some (.row e' xs) => chk (Nat.beq e' e) <| (∀ y, y ∈ xs -> isU8 ((K e').enc y) = true) /\ k (.str (strPV (xs.map (K e').enc))) env L
  | _, _ => False
 | .str, .slice e, .str t => match C.td e, C.ty e, C.cod e with
  | .int .u8, some ie, true => chk (Nat.beq ie.size 1) <| ∃ zs : List (K e).α, zs.map (K e).enc = t.data.toList.map (fun b => .int .u8 b.toNat) /\ k (.own L.length) env (L ++ [.row e zs])
  | _, _, _ => False
 | _, _, _ => False
def solidTd : TD -> Bool
 | .other | .iface => false
 | _ => true
def evMakeIface (C : Cfg K) (t : TypeId) (x : PV) (k : PV -> Prop) : Prop :=
 match solidTd (C.td t) with
 | true => match x with
  | .junk | .tup _ => False
  | .int .i64 n => if t = C.I.cls then k (.err (.cls n)) else k (.iface t (.int .i64 n))
  | x => k (.iface t x)
 | false => False
def evAssert (C : Cfg K) (x : PV) (t : TypeId) (ok : Bool) (k : PV -> Prop) : Prop :=
 match solidTd (C.td t), C.ty t, x with
 | true, some i, .iface u y => if u = t then (match ok with | true => k (.tup [y, .bool true]) | false => k y)
  else (match ok with | true => k (.tup [zeroPV i, .bool false]) | false => False)
 | _, _, _ => False
def evExtract (x : PV) (j : Nat) (k : PV -> Prop) : Prop :=
 match x with
 | .tup cs => match cs[j]? with
  | some y => k y
  | none => False
 | _ => False
def bound (x : Option PV) (d : Int) : Option Int :=
 match x with
 | none => some d
 | some (.int _ n) => some n
 | _ => none
def renO (ρ : Nat -> Option Nat) : AObj K -> AObj K
 | .box cs => .box (PV.ren.go ρ cs)
 | x => x
def renL (ρ : Nat -> Option Nat) (L : Heap K) : Heap K := L.map (renO ρ)
def renE (ρ : Nat -> Option Nat) (env : List PV) : List PV := PV.ren.go ρ env
def but (o : Nat) (p : Nat) : Option Nat := match p == o with | true => none | false => some p
def butAll (l : List Nat) (p : Nat) : Option Nat := match l.contains p with | true => none | false => some p
def frz1 (o : Nat) (z : PV) : PV -> PV
 | .own p => match Nat.beq p o with
  | true => z
  | false => .own p
 | y => y
def frzE (o : Nat) (z : PV) (env : List PV) : List PV := env.map (frz1 o z)
def evSlice (C : Cfg K) (t : TypeId) (x : PV) (lo hi mx : Option PV) (env : List PV) (L : Heap K) (k : K1 K) : Prop :=
 match C.td t with
 | .str => match x, mx with
  | .str s, none => match bound lo 0, bound hi s.size with
   | some l, some h => (0 <= l /\ l <= h /\ h <= s.size) /\ k (.str (s.extract l.toNat h.toNat)) env L
   | _, _ => False
  | _, _ => False
 | .slice e => match C.ty e with
  | some ie => match mx with
   | none => match x with
    | .sl _ enc xs => match bound lo 0, bound hi xs.length with
     | some l, some h => (∀ y, y ∈ xs -> (enc y).cells.length = ie.size) /\ (0 <= l /\ l <= h /\ h <= xs.length) /\ k (.sl _ enc ((xs.take h.toNat).drop l.toNat)) env L
     | _, _ => False
    | .own o => match L[o]?, lo, hi with
     | some (.row e xs), none, some (.int _ h) => (0 <= h /\ h <= xs.length) /\ k (.own o) (renE (but o) env) ((renL (but o) L).set o (.row e (xs.take h.toNat)))
     | some (.row e2 xs), some y, hi => match bound (some y) 0, bound hi xs.length with
      | some l, some h => (∀ y, y ∈ xs -> ((K e2).enc y).cells.length = ie.size) /\ (0 <= l /\ l <= h /\ h <= xs.length) /\
       (match C.js with
       | false => k (.sl _ (K e2).enc ((xs.take h.toNat).drop l.toNat)) (frzE o (.sl _ (K e2).enc xs) env) (goneAll [o] L)
       | true => k .junk env L)
      | _, _ => False
     | _, _, _ => False
    | _ => False
   | some (.int _ m) => match lo, bound hi 1, C.cod e with
    | none, some h, true => match x with
     | .sl _ _ _ => (m = 0 /\ h = 0) /\ k (.own L.length) env (L ++ [.row e []])
     | .own o => match L[o]? with
      | some (.row _ _) => (m = 0 /\ h = 0) /\ k (.own L.length) env (L ++ [.row e []])
      | _ => False
     | _ => False
    | _, _, _ => False
   | _ => False
  | none => False
 | _ => False
def evSrc (e : TypeId) (x : PV) (L : Heap K) (k : List (K e).α -> Prop) : Prop :=
 match x with
 | .own o => match L[o]? with
  | some (.row e2 xs) => if h : e2 = e then k (h ▸ xs) else False
  | _ => False
 | .sl _ enc l => ∃ ys : List (K e).α, ys.map (K e).enc = l.map enc /\ k ys
 | .str s => ∃ ys : List (K e).α, ys.map (K e).enc = bytesPV s /\ k ys
 | .raw v => match isNilSlice v with
  | true => k []
  | false => False
 | _ => False
def notIntTd : TD -> Bool
 | .slice _ | .str => true
 | _ => false
def evAppend (C : Cfg K) (t t2 : TypeId) (s x : PV) (env : List PV) (L : Heap K) (k : K1 K) : Prop :=
 match C.td t, notIntTd (C.td t2) with
 | .slice e, true => match C.ty e, C.cod e with
  | some ie, true => chk (Nat.ble 1 ie.size && Nat.ble 1 ie.bytes) <| evSrc e x L fun ys => match s with
   | .own o => match L[o]? with
    | some (.row e2 xs) => if h : e2 = e then ((xs.length + ys.length) * ie.bytes <= 140737488355328 /\
     k (.own o) (renE (but o) env) ((renL (but o) L).set o (.row e ((h ▸ xs) ++ ys)))) else False
    | _ => False
   | .raw v => match isNilSlice v with
    | true => ys.length * ie.bytes <= 140737488355328 /\ k (.own L.length) env (L ++ [.row e ys])
    | false => False
   | _ => False
  | _, _ => False
 | _, _ => False
def tlOf : PV -> List Nat
 | .ptr o _ | .oel o _ _ | .own o | .mref o => [o]
 | _ => []
def evLen (C : Cfg K) (t : TypeId) (x : PV) (L : Heap K) (k : PV -> Prop) : Prop :=
 match x, C.td t with
 | .str s, .str => k (.int .i64 s.size)
 | .sl _ _ l, .slice _ => k (.int .i64 l.length)
 | .own o, .slice _ => match L[o]? with
  | some (.row _ xs) => k (.int .i64 xs.length)
  | _ => False
 | .raw v, .slice _ => match isNilSlice v with
  | true => k (.int .i64 0)
  | false => False
 | .fsl fs, .slice _ => k (.int .i64 fs.length)
 | _, _ => False
def mmI (mx : Bool) (a b : Int) : Int := match mx with | true => if b > a then b else a | false => if b < a then b else a
def evMinMax (mx : Bool) (kd : IntKind) : Int -> List PV -> (PV -> Prop) -> Prop
 | a, [], k => k (.int kd a)
 | a, y :: r, k => match y with
  | .int kd' b => if kd' = kd then evMinMax mx kd (mmI mx a b) r k else False
  | _ => False
def evSpecial (C : Cfg K) (b : Builtin) (ts : List TypeId) (xs : List PV) (env : List PV) (L : Heap K) (k : K1 K) : Prop :=
 match b, ts, xs with
 | .len, [t], [x] => evLen C t x L fun y => k y env L
 | .append, [t, t2], [s, x] => evAppend C t t2 s x env L k
 | .max, _, .int kd a :: r => evMinMax true kd a r fun y => k y env L
 | .min, _, .int kd a :: r => evMinMax false kd a r fun y => k y env L
 | _, _, _ => False
def retPV : List PV -> PV
 | [r] => r
 | rs => .tup rs
def isRef1 : PV -> Bool
 | .ptr _ _ | .own _ | .oel _ _ _ | .mref _ => true
 | _ => false
def isPtr : PV -> Bool
 | .ptr _ _ | .own _ | .mref _ => true
 | .fn _ a b => a.any isRef1 || b.any isRef1
 | _ => false
def lendG (C : Cfg K) (L : Heap K) : List TypeId -> List PV -> Option (List PV × List Nat)
 | _, [] => some ([], [])
 | ts, x :: xs => match lendG C L ts.tail xs with
  | some (ys, ids) => match isPtr x with
   | true => some (x :: ys, ids)
   | false => match lend C L (ts.headD 0) x with
    | some y => some (y :: ys, reach L depth x ++ ids)
    | none => none
  | none => none
def PV.flat : PV -> Bool
 | .bool _ | .int _ _ | .str _ => true
 | .agg cs => go cs
 | _ => false
where go : List PV -> Bool
 | [] => true
 | x :: xs => x.flat && go xs
def evCallF (C : Cfg K) (g : FuncId) (ts : List TypeId) (xs : List PV) (env : List PV) (L : Heap K) (k : K1 K) : Prop :=
 match C.Γs g with
 | some F => match lendAll C L ts xs with
  | some ys => F ys fun rs => cond ((xs.flatMap (reach L depth)).isEmpty || PV.flat.go rs) (k (retPV rs) env L) (k (retPV rs) env (goneAll (xs.flatMap (reach L depth)) L))
  | none => False
 | none => match C.Γ g with
  | some F => match lendG C L ts xs with
   | some (ys, ids) => F ys (goneAll ids L) fun rs L' bad => k (retPV rs) (renE (butAll bad) env) L'
   | none => False
  | none => False
def evCall (C : Cfg K) (c : Call) (env : List PV) (L : Heap K) (k : K1 K) : Prop :=
 match c.callee with
 | .builtin b => evSpecial C b c.argTypes.toList (c.args.toList.map (evX C env)) env L k
 | .value f => match evX C env f with
  | .fn (.func g) first cap => match first, cap with
   | [], [] => evCallF C g c.argTypes.toList (c.args.toList.map (evX C env)) env L k
   | first, cap => evCallF C g (first.map (fun _ => 0) ++ c.argTypes.toList) (first ++ c.args.toList.map (evX C env) ++ cap) env L k
  | _ => False
 | .invoke r name => match evX C env r with
  | .err e => match C.Γi name with
   | some F => match lendAll C L c.argTypes.toList (c.args.toList.map (evX C env)) with
    | some ys => F (.err e :: ys) fun rs => cond (((c.args.toList.map (evX C env)).flatMap (reach L depth)).isEmpty || PV.flat.go rs) (k (retPV rs) env L) (k (retPV rs) env (goneAll ((c.args.toList.map (evX C env)).flatMap (reach L depth)) L))
    | none => False
   | none => False
  | .iface t x => match C.meth t name with
   | some g => evCallF C g (0 :: c.argTypes.toList) (x :: c.args.toList.map (evX C env)) env L k
   | none => False
  | _ => False
def evNilCheck (x : PV) (L : Heap K) (k : PV -> Prop) : Prop :=
 match x with
 | .ptr o off => match L[o]? with
  | some (.box _) => k (.ptr o off)
  | _ => False
 | .el y off => k (.el y off)
 | .fn (.func g) a b => k (.fn (.func g) a b)
 | .iface t y => k (.iface t y)
 | _ => False
def evP (C : Cfg K) (env : List PV) (p : Nat × Operand) : Nat × PV := (p.1, evX C env p.2)
def PV.one (x : PV) : Bool := !x.isAgg && x.stor
def evOp (C : Cfg K) (o : Oper) (env : List PV) (L : Heap K) (k : K1 K) : Prop :=
 match o.op with
 | .move x | .assign x => evMove C x o.type env L k
 | .pick c a b => match evX C env c with
  | .bool t => match t, evX C env a, evX C env b with
   | true, x, _ => k x env L
   | false, _, y => k y env L
  | _ => False
 | .alloc t => evAlloc C t env L k
 | .box t x => evBox C t (evX C env x) env L k
 | .build t parts => evBuild C t (parts.toList.map (evP C env)) fun y => k y env L
 | .buildSlice t n parts => match isFuncs C t with
  | true => evBuildFns C t n (parts.toList.map (evP C env)) env L k
  | false => evBuildSlice C t n (parts.toList.map (evP C env)) env L k
 | .load t p => evLoad C t (evX C env p) L fun y => k y env L
 | .store t p x => evStore C t (evX C env p) (evX C env x) env L k
 | .nilCheck x => evNilCheck (evX C env x) L fun y => k y env L
 | .binOp op t x y _ => evBin C op t y (evX C env x) (evX C env y) L fun z => k z env L
 | .unOp op _ x => evUn op (evX C env x) fun y => k y env L
 | .convert s d x => evConvert C s d (evX C env x) env L k
 | .makeInterface t x => evMakeIface C t (evX C env x) fun y => k y env L
 | .makeFunc f a b => chk ((a.toList.map (evX C env)).all PV.one && (b.toList.map (evX C env)).all PV.one) (k (.fn f (a.toList.map (evX C env)) (b.toList.map (evX C env))) env L)
 | .slice t x lo hi mx => evSlice C t (evX C env x) (lo.map (evX C env)) (hi.map (evX C env)) (mx.map (evX C env)) env L k
 | .fieldAddr t p f => evFieldAddr C t (evX C env p) f L fun y => k y env L
 | .field t x f => evField C t (evX C env x) f fun y => k y env L
 | .indexAddr t x i => evIndexAddr C t (evX C env x) (evX C env i) L fun y => k y env L
 | .index t x i => evIndex C t (evX C env x) (evX C env i) fun y => k y env L
 | .typeAssert x _ t ok => evAssert C (evX C env x) t ok fun y => k y env L
 | .extract x j => evExtract (evX C env x) j fun y => k y env L
 | .call c => evCall C c env L k
 | .makeMap t r => evMakeMap C t (r.map (evX C env)) env L k
 | .lookup t m x ok => evLookup C t (evX C env m) (evX C env x) ok env L k
 | .mapUpdate t m x v => evMapUpdate C t (evX C env m) (evX C env x) (evX C env v) env L k
 | .insert t m x v => evMapUpdate C t (evX C env m) (evX C env x) (evX C env v) env L k
 | _ => False
def putE (env : List PV) (d : Option Tmp) (x : PV) : List PV :=
 match d with
 | some d => env.set d x
 | none => env
def refs : PV -> List Nat
 | .own o => [o]
 | .ptr o _ => [o]
 | .oel o _ _ => [o]
 | .mref o => [o]
 | .agg cs => go cs
 | .tup cs => go cs
 | .iface _ x => refs x
 | .fn _ a b => go a ++ go b
 | .fsl fs => go fs
 | .fel x => refs x
 | _ => []
where go : List PV -> List Nat
 | [] => []
 | x :: xs => refs x ++ go xs
def addNew (l : List Nat) : List Nat -> List Nat
 | [] => l
 | o :: r => match l.contains o with
  | true => addNew l r
  | false => addNew (l ++ [o]) r
def closeRefs (L : Heap K) : Nat -> Nat -> List Nat -> List Nat
 | 0, _, l => l
 | n + 1, i, l => match l[i]? with
  | some o => match L[o]? with
   | some (.box cs) => closeRefs L n (i + 1) (addNew l (refs.go cs))
   | _ => closeRefs L n (i + 1) l
  | none => l
def roots (L : Heap K) (ys : List PV) : List Nat := closeRefs L 64 0 (addNew [] (refs.go ys))
def touchF (C : Cfg K) (g : FuncId) (ts : List TypeId) (xs : List PV) (L : Heap K) : List Nat :=
 match C.Γs g with
 | some _ => []
 | none => match lendG C L ts xs with
  | some (ys, ids) => roots (goneAll ids L) ys
  | none => []
def touchB (b : Builtin) (xs : List PV) : List Nat :=
 match b, xs with
 | .append, s :: _ => tlOf s
 | _, _ => []
def touchCall (C : Cfg K) (c : Call) (env : List PV) (L : Heap K) : List Nat :=
 match c.callee with
 | .builtin b => touchB b (c.args.toList.map (evX C env))
 | .value f => match evX C env f with
  | .fn (.func g) first cap => match first, cap with
   | [], [] => touchF C g c.argTypes.toList (c.args.toList.map (evX C env)) L
   | first, cap => touchF C g (first.map (fun _ => 0) ++ c.argTypes.toList) (first ++ c.args.toList.map (evX C env) ++ cap) L
  | _ => []
 | .invoke r name => match evX C env r with
  | .iface t x => match C.meth t name with
   | some g => touchF C g (0 :: c.argTypes.toList) (x :: c.args.toList.map (evX C env)) L
   | none => []
  | _ => []
def touchOp (C : Cfg K) (o : Oper) (env : List PV) (L : Heap K) : List Nat :=
 match o.op with
 | .store _ p _ => tlOf (evX C env p)
 | .call c => touchCall C c env L
 | .mapUpdate _ m _ _ | .insert _ m _ _ => tlOf (evX C env m)
 | _ => []
def evStep (C : Cfg K) (ops : Array Oper) (q : List PV -> Heap K -> Bool) (o : Oper) (env : List PV) (L : Heap K) (k : List PV -> Heap K -> Prop) : Prop :=
 match o.guard with
 | none => chk (q env L) (evOp C o env L fun x env' L' => k (putE env' o.dst x) L')
 | some (j, want) => match (ops[j]?).bind (·.dst) with
  | some d => match env[d]? with
   | some (.bool b) =>
    cond b
     (match want with
      | true => chk (q (env.set d (.bool true)) L) (evOp C o (env.set d (.bool true)) L fun x env' L' => k (putE env' o.dst x) L')
      | false => k (putE (env.set d (.bool true)) o.dst (.tup [])) L)
     (match want with
      | true => k (putE (env.set d (.bool false)) o.dst (.tup [])) L
      | false => chk (q (env.set d (.bool false)) L) (evOp C o (env.set d (.bool false)) L fun x env' L' => k (putE env' o.dst x) L'))
   | some (.tup _) => k (putE env o.dst (.tup [])) L
   | _ => False
  | none => False
def evOps (C : Cfg K) (ops : Array Oper) : List Nat -> List PV -> Heap K -> (List PV -> Heap K -> Prop) -> Prop
 | [], env, L, k => k env L
 | i :: r, env, L, k => match ops[i]? with
  | some o => evStep C ops (fun _ _ => true) o env L fun env' L' => evOps C ops r env' L' k
  | none => False
def plainMove : Operand -> Bool
 | .const v => !isNilSlice v
 | _ => true
def quietOp (C : Cfg K) (o : Oper) : Bool :=
 match o.op with
 | .move x | .assign x => plainMove x
 | .pick .. | .nilCheck _ | .binOp .. | .unOp .. | .makeInterface .. | .makeFunc .. | .fieldAddr .. | .field .. | .indexAddr .. | .index .. | .typeAssert .. | .extract .. | .build .. => true
 | .convert s d _ => match C.td s, C.td d with
  | .slice _, _ => false
  | _, .slice _ => false
  | _, _ => true
 | .call c => match c.callee with
  | .builtin .len | .builtin .max | .builtin .min => true
  | _ => false
 | _ => false
def okAddr (eff : Bool) (m0 : Nat) (ts : List Nat) : PV -> Bool
 | .el _ _ => !eff
 | .ptr o _ => !ts.contains o && Nat.blt o m0
 | .oel o _ _ => !ts.contains o && !eff
 | _ => false
def okTake (C : Cfg K) (ts : List Nat) (eff : Bool) (m0 : Nat) (o : Oper) (env : List PV) : Bool :=
 quietOp C o || match o.op with
  | .load _ p => okAddr eff m0 ts (evX C env p)
  | _ => false
def isReady (ops : Array Oper) (listed : Array Bool) (i : Nat) : Bool :=
 !listed.getD i true && ((ops[i]?).map (·.after.all fun e => !Region.binds .any e || listed.getD e.on false)).getD false
def guardOff (ops : Array Oper) (o : Oper) (env : List PV) : Bool :=
 match o.guard with
 | some (j, want) => match (ops[j]?).bind (·.dst) with
  | some d => match env[d]? with
   | some (.bool b) => b != want
   | some (.tup _) => true
   | _ => false
  | none => false
 | none => false
def canTake (C : Cfg K) (ops : Array Oper) (ts : List Nat) (eff : Bool) (m0 : Nat) (listed : Array Bool) (env : List PV) (i : Nat) : Bool :=
 match ops[i]? with
 | some o => isReady ops listed i && (okTake C ts eff m0 o env || guardOff ops o env) && Region.free .any ops listed i
 | none => false
def guardSlots (ops : Array Oper) (listed : Array Bool) : List Nat :=
 (List.range ops.size).filterMap fun i => match isReady ops listed i with
  | true => match ops[i]? with
   | some o => match o.guard with
    | some (j, _) => (ops[j]?).bind (·.dst)
    | none => none
   | none => none
  | false => none
def splitG : List Nat -> List PV -> (List PV -> Prop) -> Prop
 | [], env, k => k env
 | d :: r, env, k => match env[d]? with
  | some (.bool b) => cond b (splitG r (env.set d (.bool true)) k) (splitG r (env.set d (.bool false)) k)
  | _ => splitG r env k
def allR (p : Nat -> Prop) : List Nat -> Prop
 | [] => True
 | [i] => p i
 | i :: r => p i /\ allR p r
def liveAt (L : Heap K) (o : Nat) : Bool := match L[o]? with
 | some x => x.live
 | none => false
def boxAt (L : Heap K) (o : Nat) : Bool := match L[o]? with
 | some (.box _) => true
 | _ => false
def okTouch (ts us : List Nat) (m0 : Nat) (L : Heap K) (o : Nat) : Bool := ts.contains o || (Nat.ble m0 o && liveAt L o && us.all (boxAt L))
def evDraw (C : Cfg K) (ops : Array Oper) (ts us : List Nat) (m0 : Nat) : Nat -> Bool -> Array Bool -> List PV -> Heap K -> (List PV -> Heap K -> Prop) -> Prop
 | 0, _, listed, env, L, k => chk ((List.range ops.size).all fun i => !isReady ops listed i) (k env L)
 | n + 1, eff, listed, env, L, k => splitG (guardSlots ops listed) env fun env =>
  match (List.range ops.size).find? (canTake C ops ts eff m0 listed env) with
  | some i => match ops[i]? with
   | some o => evStep C ops (fun e _ => okTake C ts eff m0 o e) o env L fun env' L' => evDraw C ops ts us m0 n eff (listed.setIfInBounds i true) env' L' k
   | none => False
  | none => match (List.range ops.size).filter (isReady ops listed) with
   | [] => k env L
   | rs => allR (fun i => match ops[i]? with
    | some o => evStep C ops (fun e L => (touchOp C o e L).all (okTouch ts us m0 L)) o env L fun env' L' => evDraw C ops ts us m0 n true (listed.setIfInBounds i true) env' L' k
    | none => False) rs
def rowsFrom : Nat -> Heap K -> List Nat
 | _, [] => []
 | i, x :: L => match x with
  | .row _ _ => i :: rowsFrom (i + 1) L
  | _ => rowsFrom (i + 1) L
def liveFrom (ts : List Nat) : Nat -> Heap K -> List Nat
 | _, [] => []
 | i, x :: L => match x.live && !ts.contains i with
  | true => i :: liveFrom ts (i + 1) L
  | false => liveFrom ts (i + 1) L
def tlist (touch : List Nat) (L : Heap K) : List Nat := match touch.contains 9999 with
 | true => touch.filter (fun o => !Nat.beq o 9999)
 | false => touch ++ rowsFrom 0 L
def evRegion (C : Cfg K) (ops : Array Oper) (draw : Bool) (touch : List Nat) (env : List PV) (L : Heap K) (k : List PV -> Heap K -> Prop) : Prop :=
 match draw with
 | false => evOps C ops (List.range ops.size) env L k
 | true => chk (Region.noSelect ops && (tlist touch L).all (liveAt L)) (evDraw C ops (tlist touch L) (liveFrom (tlist touch L) 0 L) L.length ops.size false (Array.replicate ops.size false) env L k)
inductive AItem where
 | code (c : Code)
 | endB (id : Nat)
def afterExit (id : Nat) : List AItem -> Option (List AItem)
 | [] => none
 | .endB i :: k => if i = id then some k else afterExit id k
 | _ :: k => afterExit id k
def firstRegion : Code -> Option Nat
 | .region id _ _ => some id
 | .seq a b => match firstRegion a with
  | some i => some i
  | none => firstRegion b
 | .cond _ a b => match firstRegion a with
  | some i => some i
  | none => firstRegion b
 | .block _ a => firstRegion a
 | .loop a => firstRegion a
 | .scope a => firstRegion a
 | _ => none
def mask (live : List Nat) : Nat -> List PV -> List PV
 | _, [] => []
 | i, x :: xs => (match live.contains i with | true => x | false => .junk) :: mask live (i + 1) xs
def idxIn : List Nat -> Nat -> Nat -> Option Nat
 | [], _, _ => none
 | p :: r, i, o => match p == o with
  | true => some i
  | false => idxIn r (i + 1) o
def pickL (L : Heap K) : List Nat -> Heap K
 | [] => []
 | o :: r => (match L[o]? with | some x => x | none => .gone) :: pickL L r
def canon (m : Nat) (env : List PV) (L : Heap K) (k : List PV -> Heap K -> Prop) : Prop :=
 k (renE (idxIn (closeRefs L 64 0 (addNew (List.range m) (refs.go env))) 0) env)
  (renL (idxIn (closeRefs L 64 0 (addNew (List.range m) (refs.go env))) 0) (pickL L (closeRefs L 64 0 (addNew (List.range m) (refs.go env)))))
structure Fun where
 n : Nat
 m : Nat
 res : List ResultVar
 live : Nat -> Option (List Nat)
 cut : Nat -> Bool
 touch : Nat -> List Nat
def evRes (C : Cfg K) (env : List PV) (L : Heap K) : List ResultVar -> (List PV -> Prop) -> Prop
 | [], k => k []
 | .tmp t :: r, k => match env[t]? with
  | some x => evRes C env L r fun xs => k (x :: xs)
  | none => False
 | .cell a t :: r, k => match env[a]? with
  | some p => evLoad C t p L fun x => evRes C env L r fun xs => k (x :: xs)
  | none => False
def solidRes (C : Cfg K) (L : Heap K) : List PV -> Option (List PV × List Nat)
 | [] => some ([], [])
 | x :: xs => match solidRes C L xs with
  | some (ys, ids) => match x with
   | .iface t y => match solid C L depth (.iface t y) with
    | some z => some (z :: ys, reach L depth (.iface t y) ++ ids)
    | none => none
   | x => some (x :: ys, ids)
  | none => none
def evFin (C : Cfg K) (f : Fun) (env : List PV) (L : Heap K) (k : List PV -> Heap K -> Prop) : Prop :=
 evRes C env L f.res fun rs => match solidRes C L rs with
  | some (ys, ids) => canon f.m ys (goneAll ids L) k
  | none => False
abbrev KA (K : Codes) := List AItem -> List PV -> Heap K -> Prop
def evCut (f : Fun) (id : Option Nat) (todo : List AItem) (env : List PV) (L : Heap K) (A : KA K) : Prop :=
 match id.bind f.live with
 | some live => canon f.m (mask live 0 env) L (A todo)
 | none => canon f.m env L (A todo)
def condE (x : Operand) (env : List PV) (b : Bool) : List PV :=
 match x with
 | .tmp d => env.set d (.bool b)
 | _ => env
def evT (C : Cfg K) (f : Fun) (A : KA K) (k : List PV -> Heap K -> Prop) : Nat -> Bool -> List AItem -> List PV -> Heap K -> Prop
 | 0, _, _, _, _ => False
 | n + 1, force, todo, env, L => match todo with
  | [] => evFin C f env L k
  | .endB _ :: r => evT C f A k n false r env L
  | .code c :: r => match c with
   | .skip => evT C f A k n false r env L
   | .seq a b => evT C f A k n force (.code a :: .code b :: r) env L
   | .cond x a b => match evX C env x with
    | .bool t => cond t (evT C f A k n false (.code a :: r) (condE x env true) L) (evT C f A k n false (.code b :: r) (condE x env false) L)
    | _ => False
   | .block id a => evT C f A k n force (.code a :: .endB id :: r) env L
   | .loop a => match force with
    | true => evT C f A k n true (.code a :: .code (.loop a) :: r) env L
    | false => evCut f (firstRegion a) (.code (.loop a) :: r) env L A
   | .exit id => match afterExit id r with
    | some r' => evT C f A k n false r' env L
    | none => False
   | .ret => evFin C f env L k
   | .region id ops draw => match force, f.cut id with
    | false, true => evCut f (some id) (.code (.region id ops draw) :: r) env L A
    | _, _ => evRegion C ops draw (f.touch id) env L fun env' L' => evT C f A k n false r env' L'
   | .label _ => evT C f A k n force r env L
   | .scope a => evT C f A k n force (.code a :: r) env L
   | _ => False
end Go.Ab
namespace Go.Ab
open Go
class DMode where
 dm : Bool
def Tp [DMode] (w w' : World) : Prop := w'.tape = w.tape /\ (DMode.dm = true -> w.drawn <= w'.drawn)
theorem Tp.refl [DMode] (w : World) : Tp w w := ⟨rfl, fun _ => Nat.le_refl _⟩
theorem Tp.trans [DMode] {a b c : World} (k : Tp b c) (h : Tp a b) : Tp a c := ⟨k.1.trans h.1, fun e => Nat.le_trans (h.2 e) (k.2 e)⟩
variable [DMode] {K : Codes}
def sig (C : Cfg K) (X : Nat -> Prop) : Sig := ⟨C.I, C.P.cellsOf, X⟩
theorem MapRel.mono {G G' : Sig} {M M' : Nat -> Prop} {w w' : World} {kd : IntKind} {c : Cod} {f : Int -> Option c.α} {es : List MapEntry} (h : ∀ b o, ¬ M b -> w.heap[b]? = some o -> ¬ M' b /\ w'.heap[b]? = some o) (hI : G'.I = G.I)
 (hx : MapRel G M w kd c f es) : MapRel G' M' w' kd c f es := by
 intro n
 have := hx n
 cases hf : f n with
 | none => rw [hf] at this; exact this
 | some y =>
  rw [hf] at this
  obtain ⟨i, v, h1, h2, h3⟩ := this
  exact ⟨i, v, h1, h2, by rw [hI]; exact RepF.mono h _ _ h3⟩
theorem ObjRel.mono {G G' : Sig} {L L' : Heap K} {η η' : Eta} {w w' : World} {ρ : Nat -> Option Nat} (h : Moves2 G G' L η w L' η' w' ρ) {o o' : Nat} {x : AObj K} (hx : ObjRel G L η w o x)
 (hη : η' o' = η o) (hb : ∀ b, η o = some b -> w'.heap[b]? = w.heap[b]?) : ObjRel G' L' η' w' o' (renO ρ x) := by
 cases x with
 | gone => exact trivial
 | mp kd e f =>
  obtain ⟨b, es, clock, h1, h2, h3⟩ := hx
  exact ⟨b, es, clock, by rw [hη]; exact h1, by rw [hb b h1]; exact h2, h3.mono h.froz h.I⟩
 | box cs =>
  obtain ⟨b, t, cells, h1, h2, h3⟩ := hx
  exact ⟨b, t, cells, by rw [hη]; exact h1, by rw [hb b h1]; exact h2, Rep.mono_go h cs cells h3⟩
 | row e xs =>
  rcases hx with ⟨h1, h2⟩ | ⟨b, cells, fr, hfr, h1, h2, h3, h4, h5⟩
  ·exact .inl ⟨h1, by rw [hη]; exact h2⟩
  ·refine .inr ⟨b, cells, fr, hfr, by rw [hη]; exact h1, by rw [hb b h1]; exact h2, by rw [h.sz]; exact h3, by rw [h.sz]; exact h4, ?_⟩
   intro i x hi
   obtain ⟨cs, c1, c2, c3⟩ := h5 i x hi
   exact ⟨cs, by rw [h.sz]; exact c1, by rw [h.I]; exact RepF.mono h.froz _ _ c2, by rw [h.sz]; exact c3⟩
structure Fwd (L : Heap K) (η : Eta) (w : World) (L' : Heap K) (η' : Eta) (w' : World) (bad : Nat -> Bool) : Prop where
 os : w'.os = w.os
 tape : Tp w w'
 output : w'.output = w.output
 size : w.heap.size <= w'.heap.size
 keep : ∀ b, b < w.heap.size -> ¬ Mut L η b -> w'.heap[b]? = w.heap[b]?
 muts : ∀ b, Mut L' η' b -> Mut L η b \/ w.heap.size <= b
 len : L.length <= L'.length
 box : ∀ o cs', o < L.length -> L'[o]? = some (.box cs') -> ∃ cs, L[o]? = some (.box cs) /\ η' o = η o
 kind : ∀ o e xs', o < L.length -> L'[o]? = some (.row e xs') -> ∃ xs, L[o]? = some (.row e xs)
 row : ∀ o e (xs' : List (K e).α), o < L.length -> bad o = false -> L'[o]? = some (.row e xs') -> ∃ xs : List (K e).α, L[o]? = some (.row e xs) /\ xs.length = xs'.length /\ η' o = η o /\
  ∀ b cells t fr, η o = some b -> w.heap[b]? = some (.cells cells t fr) -> ∃ cells' t' fr', w'.heap[b]? = some (.cells cells' t' fr') /\ cells'.size = cells.size
 trk : ∀ o b, o < L.length -> η' o = some b -> η o = some b \/ w.heap.size <= b
 mp : ∀ o kd e f', o < L.length -> L'[o]? = some (.mp kd e f') -> ∃ f, L[o]? = some (.mp kd e f) /\ η' o = η o
def butB (bad : Nat -> Bool) (p : Nat) : Option Nat := match bad p with | true => none | false => some p
theorem Fwd.moves {C : Sig} {L L' : Heap K} {η η' : Eta} {w w' : World} {bad : Nat -> Bool} (h : Fwd L η w L' η' w' bad) (hx : ∀ b, C.X b -> b < w.heap.size) :
 Moves C L η w L' η' w' (butB bad) where
 froz := by
  intro b o hM hb
  have hlt : b < w.heap.size := (Array.getElem?_eq_some_iff.1 hb).1
  have hm : ¬ Mut L η b := fun q => hM (.inl q)
  refine ⟨?_, by rw [h.keep b hlt hm]; exact hb⟩
  rintro (q | q)
  ·rcases h.muts b q with q | q
   ·exact hm q
   ·omega
  ·exact hM (.inr q)
 len := by
  intro o o' ho hρ
  simp only [butB] at hρ
  split at hρ
  ·cases hρ
  ·cases hρ; exact Nat.lt_of_lt_of_le ho h.len
 box := by
  intro o o' cs' ho hρ hL
  simp only [butB] at hρ
  split at hρ
  ·cases hρ
  ·cases hρ; exact h.box o cs' ho hL
 row := by
  intro o o' e xs' ho hρ hL
  simp only [butB] at hρ
  split at hρ
  ·cases hρ
  ·rename_i hb; cases hρ; exact h.row o e xs' ho hb hL
 mp := by
  intro o o' kd e f' ho hρ hL
  simp only [butB] at hρ
  split at hρ
  ·cases hρ
  ·cases hρ; exact h.mp o kd e f' ho hL
theorem Fwd.refl (L : Heap K) (η : Eta) (w : World) (bad : Nat -> Bool) : Fwd L η w L η w bad :=
 ⟨rfl, .refl _, rfl, Nat.le_refl _, fun _ _ _ => rfl, fun _ h => .inl h, Nat.le_refl _, fun _ cs _ h => ⟨cs, h, rfl⟩, fun _ _ xs _ h => ⟨xs, h⟩,
  fun _ _ xs _ _ h => ⟨xs, h, rfl, rfl, fun _ cells t fr _ hb => ⟨cells, t, fr, hb, rfl⟩⟩, fun _ _ _ h => .inl h, fun _ _ _ f _ h => ⟨f, h, rfl⟩⟩
theorem Fwd.trans {L L1 L2 : Heap K} {η η1 η2 : Eta} {w w1 w2 : World} {b1 b2 bad : Nat -> Bool} (h : Fwd L η w L1 η1 w1 b1) (k : Fwd L1 η1 w1 L2 η2 w2 b2)
 (hb : ∀ o, o < L.length -> bad o = false -> b1 o = false /\ b2 o = false) : Fwd L η w L2 η2 w2 bad where
 os := k.os.trans h.os
 tape := k.tape.trans h.tape
 output := k.output.trans h.output
 size := Nat.le_trans h.size k.size
 keep := by
  intro b hlt hm
  have h1 : ¬ Mut L1 η1 b := fun q => by
   rcases h.muts b q with q | q
   ·exact hm q
   ·omega
  rw [k.keep b (Nat.lt_of_lt_of_le hlt h.size) h1, h.keep b hlt hm]
 muts := by
  intro b q
  rcases k.muts b q with q | q
  ·exact h.muts b q
  ·exact .inr (Nat.le_trans h.size q)
 len := Nat.le_trans h.len k.len
 box := by
  intro o cs' ho hL
  obtain ⟨cs1, h1, h2⟩ := k.box o cs' (Nat.lt_of_lt_of_le ho h.len) hL
  obtain ⟨cs, h3, h4⟩ := h.box o cs1 ho h1
  exact ⟨cs, h3, h2.trans h4⟩
 kind := by
  intro o e xs' ho hL
  obtain ⟨xs1, h1⟩ := k.kind o e xs' (Nat.lt_of_lt_of_le ho h.len) hL
  exact h.kind o e xs1 ho h1
 row := by
  intro o e xs' ho hbad hL
  obtain ⟨q1, q2⟩ := hb o ho hbad
  obtain ⟨xs1, h1, h2, h3, h4⟩ := k.row o e xs' (Nat.lt_of_lt_of_le ho h.len) q2 hL
  obtain ⟨xs, g1, g2, g3, g4⟩ := h.row o e xs1 ho q1 h1
  refine ⟨xs, g1, g2.trans h2, h3.trans g3, ?_⟩
  intro b cells t fr hη hbl
  obtain ⟨c1, t1, f1, e1, e2⟩ := g4 b cells t fr hη hbl
  obtain ⟨c2, t2, f2, e3, e4⟩ := h4 b c1 t1 f1 (g3.trans hη) e1
  exact ⟨c2, t2, f2, e3, e4.trans e2⟩
 trk := by
  intro o b ho hb
  rcases k.trk o b (Nat.lt_of_lt_of_le ho h.len) hb with q | q
  ·exact h.trk o b ho q
  ·exact .inr (Nat.le_trans h.size q)
 mp := by
  intro o kd e f' ho hL
  obtain ⟨f1, h1, h2⟩ := k.mp o kd e f' (Nat.lt_of_lt_of_le ho h.len) hL
  obtain ⟨f, h3, h4⟩ := h.mp o kd e f1 ho h1
  exact ⟨f, h3, h2.trans h4⟩
def noBad : Nat -> Bool := fun _ => false
theorem butB_noBad : butB noBad = some := by funext p; rfl
def GlobAt (I : Ids) (M : Nat -> Prop) (w : World) (g : Nat) (x : PV) : Prop :=
 RepF I M w (.el x 0) [.pointer (some ⟨g, 0, none⟩)] /\ ¬ M g /\ ∃ cells t fr, w.heap[g]? = some (.cells cells t fr) /\ cells.size = x.cells.length
theorem GlobAt.mono {I : Ids} {M M' : Nat -> Prop} {w w' : World} {g : Nat} {x : PV} (h : ∀ b o, ¬ M b -> w.heap[b]? = some o -> ¬ M' b /\ w'.heap[b]? = some o) (hx : GlobAt I M w g x) : GlobAt I M' w' g x := by
 obtain ⟨h1, h2, cells, t, fr, h3, h4⟩ := hx
 obtain ⟨g1, g2⟩ := h g _ h2 h3
 exact ⟨RepF.mono h _ _ h1, g1, cells, t, fr, g2, h4⟩
structure RelT (C : Cfg K) (G : Sig) (N : Nat) (env : List PV) (L : Heap K) (η : Eta) (w : World) (a : Act) : Prop where
 heap : HeapRel G L η w
 elen : env.length = N
 size : a.tmps.size = N
 defers : a.defers = []
 tmp : ∀ t x, env[t]? = some x -> RepV G L η w x (a.tmps.getD t undef)
 glob : ∀ g x, C.glob g = some x -> GlobAt G.I (Mx G L η) w g x
theorem RelT.step {C : Cfg K} {G : Sig} {N : Nat} {env : List PV} {L L' : Heap K} {η η' : Eta} {w w' : World} {a : Act} {bad : Nat -> Bool} (h : RelT C G N env L η w a)
 (hf : Fwd L η w L' η' w' bad) (hh : HeapRel G L' η' w') : RelT C G N (renE (butB bad) env) L' η' w' a where
 heap := hh
 elen := by rw [renE, PV.ren_go_length]; exact h.elen
 size := h.size
 defers := h.defers
 tmp := by
  intro t x hx
  rw [renE, PV.ren_go_get] at hx
  obtain ⟨y, hy, rfl⟩ := Option.map_eq_some_iff.1 hx
  exact RepV.mono (hf.moves fun b hb => (h.heap.ext b hb).1) (h.tmp t y hy)
 glob := fun g x hg => GlobAt.mono (hf.moves fun b hb => (h.heap.ext b hb).1).froz (h.glob g x hg)
theorem RelT.step0 {C : Cfg K} {G : Sig} {N : Nat} {env : List PV} {L L' : Heap K} {η η' : Eta} {w w' : World} {a : Act} (h : RelT C G N env L η w a)
 (hf : Fwd L η w L' η' w' noBad) (hh : HeapRel G L' η' w') : RelT C G N env L' η' w' a := by
 have := h.step hf hh
 rw [butB_noBad, renE, PV.ren_id_go] at this
 exact this
theorem RelT.put {C : Cfg K} {G : Sig} {N : Nat} {env : List PV} {L : Heap K} {η : Eta} {w : World} {a : Act} (h : RelT C G N env L η w a) {d : Option Tmp} {x : PV} {v : Value} (hx : RepV G L η w x v) :
 RelT C G N (putE env d x) L η w (a.put d v) := by
 cases d with
 | none => exact h
 | some d =>
  refine ⟨h.heap, by simp [putE, h.elen], by simp [Act.put, h.size], h.defers, ?_, h.glob⟩
  intro t y hy
  simp only [putE] at hy
  rw [List.getElem?_set] at hy
  split at hy
  ·rename_i hdt
   subst hdt
   split at hy
   ·rename_i hlt
    cases hy
    simp only [Act.put]
    have : d < a.tmps.size := by rw [h.size, <- h.elen]; exact hlt
    rw [Array.getD_eq_getD_getElem?, Array.getElem?_setIfInBounds_self_of_lt this]
    exact hx
   ·cases hy
  ·rename_i hne
   have := h.tmp t y hy
   simp only [Act.put]
   rw [Array.getD_eq_getD_getElem?, Array.getElem?_setIfInBounds_ne hne, <- Array.getD_eq_getD_getElem?]
   exact this
end Go.Ab
namespace Go.Ab
open Go
variable [DMode] {K : Codes} {G : Sig}
def upd (η : Eta) (o : Nat) (b : Option Nat) : Eta := fun p => if p = o then b else η p
theorem upd_same (η : Eta) (o : Nat) (b : Option Nat) : upd η o b o = b := if_pos rfl
theorem upd_ne (η : Eta) {o p : Nat} (b : Option Nat) (h : p ≠ o) : upd η o b p = η p := if_neg h
theorem renO_some (x : AObj K) : renO some x = x := by cases x <;> simp [renO, PV.ren_id_go]
theorem get_snoc {α : Type _} (L : List α) (x : α) (o : Nat) (y : α) (h : (L ++ [x])[o]? = some y) : (o < L.length /\ L[o]? = some y) \/ (o = L.length /\ y = x) := by
 rcases Nat.lt_trichotomy o L.length with ho | ho | ho
 ·rw [List.getElem?_append_left ho] at h; exact .inl ⟨ho, h⟩
 ·subst ho; rw [List.getElem?_append_right (Nat.le_refl _)] at h; simp at h; exact .inr ⟨rfl, h.symm⟩
 ·rw [List.getElem?_eq_none (by simp; omega)] at h; cases h
structure More (w w' : World) : Prop where
 os : w'.os = w.os
 tape : Tp w w'
 output : w'.output = w.output
 size : w.heap.size <= w'.heap.size
 keep : ∀ b, b < w.heap.size -> w'.heap[b]? = w.heap[b]?
theorem More.refl (w : World) : More w w := ⟨rfl, .refl _, rfl, Nat.le_refl _, fun _ _ => rfl⟩
theorem More.alloc (w : World) (o : Obj) : More w (w.alloc o) :=
 ⟨rfl, ⟨rfl, fun _ => Nat.le_refl _⟩, rfl, by simp, fun b hb => Go.RowKit.Below.heap_alloc w o b hb⟩
theorem More.of_heap {w w' : World} (h : w'.heap = w.heap) (h1 : w'.os = w.os) (h2 : Tp w w') (h3 : w'.output = w.output) : More w w' :=
 ⟨h1, h2, h3, by rw [h]; exact Nat.le_refl _, fun _ _ => by rw [h]⟩
theorem More.trans {a b c : World} (h : More a b) (k : More b c) : More a c :=
 ⟨k.os.trans h.os, k.tape.trans h.tape, k.output.trans h.output, Nat.le_trans h.size k.size, fun i hi => (k.keep i (Nat.lt_of_lt_of_le hi h.size)).trans (h.keep i hi)⟩
theorem blk_lt {w : World} {b : Nat} {o : Obj} (h : w.heap[b]? = some o) : b < w.heap.size := (Array.getElem?_eq_some_iff.1 h).1
theorem More.blk {w w' : World} (h : More w w') {b : Nat} {o : Obj} (hb : w.heap[b]? = some o) : w'.heap[b]? = some o := (h.keep b (blk_lt hb)).trans hb
theorem ObjRel.lt {L : Heap K} {η : Eta} {w : World} {o : Nat} {x : AObj K} (hx : ObjRel G L η w o x) (hl : x.live = true) {b : Nat} (hb : η o = some b) : b < w.heap.size := by
 cases x with
 | gone => cases hl
 | box cs => obtain ⟨b', t, cells, h1, h2, _⟩ := hx; rw [hb] at h1; cases h1; exact blk_lt h2
 | mp kd e f => obtain ⟨b', es, clock, h1, h2, _⟩ := hx; rw [hb] at h1; cases h1; exact blk_lt h2
 | row e xs =>
  rcases hx with ⟨_, h2⟩ | ⟨b', cells, fr, _, h1, h2, _⟩
  ·rw [hb] at h2; cases h2
  ·rw [hb] at h1; cases h1; exact blk_lt h2
theorem HeapRel.lt {L : Heap K} {η : Eta} {w : World} (h : HeapRel G L η w) {b : Nat} (hb : Mut L η b) : b < w.heap.size := by
 obtain ⟨o, x, h1, h2, h3⟩ := hb
 exact (h.obj o x h1).lt h2 h3
theorem Fwd.more {L : Heap K} {η : Eta} {w w' : World} (h : More w w') : Fwd L η w L η w' noBad :=
 ⟨h.os, h.tape, h.output, h.size, fun b hb _ => h.keep b hb, fun _ q => .inl q, Nat.le_refl _, fun _ cs _ q => ⟨cs, q, rfl⟩, fun _ _ xs _ q => ⟨xs, q⟩,
  fun _ _ xs _ _ q => ⟨xs, q, rfl, rfl, fun b cells t fr _ hb => ⟨cells, t, fr, h.blk hb, rfl⟩⟩, fun _ _ _ h => .inl h, fun _ _ _ f _ q => ⟨f, q, rfl⟩⟩
theorem HeapRel.more {L : Heap K} {η : Eta} {w w' : World} (hh : HeapRel G L η w) (h : More w w') : HeapRel G L η w' := by
 have hm := (Fwd.more (L := L) (η := η) h).moves (C := G) (fun b hb => (hh.ext b hb).1)
 refine ⟨?_, hh.inj, fun b hb => ⟨Nat.lt_of_lt_of_le (hh.ext b hb).1 h.size, (hh.ext b hb).2⟩, hh.none⟩
 intro o x hL
 cases hl : x.live with
 | false => cases x <;> first | exact trivial | cases hl
 | true =>
  have := (hh.obj o x hL).mono hm (o' := o) rfl (fun b hb => h.keep b ((hh.obj o x hL).lt hl hb))
  rw [butB_noBad, renO_some] at this
  exact this
theorem RelT.more {C : Cfg K} {N : Nat} {env : List PV} {L : Heap K} {η : Eta} {w w' : World} {a : Act} (h : RelT C G N env L η w a) (hm : More w w') : RelT C G N env L η w' a :=
 h.step0 (Fwd.more hm) (h.heap.more hm)
theorem push_fwd {L : Heap K} {η : Eta} {w w' : World} (hh : HeapRel G L η w) (h : More w w') (x : AObj K) (nb : Option Nat) (hnb : ∀ b, nb = some b -> w.heap.size <= b) :
 Fwd L η w (L ++ [x]) (upd η L.length nb) w' noBad where
 os := h.os
 tape := h.tape
 output := h.output
 size := h.size
 keep := fun b hb _ => h.keep b hb
 muts := by
  rintro b ⟨o, y, h1, h2, h3⟩
  rcases get_snoc L x o y h1 with ⟨ho, h1⟩ | ⟨rfl, rfl⟩
  ·rw [upd_ne _ _ (by omega)] at h3; exact .inl ⟨o, y, h1, h2, h3⟩
  ·rw [upd_same] at h3; exact .inr (hnb b h3)
 len := by simp
 box := by
  intro o cs' ho hL
  rw [List.getElem?_append_left ho] at hL
  exact ⟨cs', hL, upd_ne _ _ (by omega)⟩
 kind := by
  intro o e xs' ho hL
  rw [List.getElem?_append_left ho] at hL
  exact ⟨xs', hL⟩
 row := by
  intro o e xs' ho _ hL
  rw [List.getElem?_append_left ho] at hL
  exact ⟨xs', hL, rfl, upd_ne _ _ (by omega), fun b cells t fr _ hb => ⟨cells, t, fr, h.blk hb, rfl⟩⟩
 trk := by
  intro o b ho hb
  rw [upd_ne _ _ (by omega)] at hb
  exact .inl hb
 mp := by
  intro o kd e f' ho hL
  rw [List.getElem?_append_left ho] at hL
  exact ⟨f', hL, upd_ne _ _ (by omega)⟩
theorem push_heap {L : Heap K} {η : Eta} {w w' : World} (hh : HeapRel G L η w) (h : More w w') (x : AObj K) (nb : Option Nat) (hnb : ∀ b, nb = some b -> w.heap.size <= b)
 (hx : ObjRel G (L ++ [x]) (upd η L.length nb) w' L.length x) : HeapRel G (L ++ [x]) (upd η L.length nb) w' := by
 have hf := push_fwd hh h x nb hnb
 have hm := hf.moves (C := G) (fun b hb => (hh.ext b hb).1)
 refine ⟨?_, ?_, ?_, ?_⟩
 ·intro o y hL
  rcases get_snoc L x o y hL with ⟨ho, h1⟩ | ⟨rfl, rfl⟩
  ·cases hl : y.live with
   | false => cases y <;> first | exact trivial | cases hl
   | true =>
    have := (hh.obj o y h1).mono hm (o' := o) (upd_ne _ _ (by omega)) (fun b hb => h.keep b ((hh.obj o y h1).lt hl hb))
    rw [butB_noBad, renO_some] at this
    exact this
  ·exact hx
 ·intro o o' y y' b h1 h2 h3 h4 h5 h6
  rcases get_snoc L x o y h1 with ⟨ho, g1⟩ | ⟨ho, g1⟩ <;> rcases get_snoc L x o' y' h2 with ⟨ho', g2⟩ | ⟨ho', g2⟩
  ·rw [upd_ne _ _ (by omega)] at h5 h6; exact hh.inj o o' y y' b g1 g2 h3 h4 h5 h6
  ·rw [upd_ne _ _ (by omega)] at h5; rw [ho', upd_same] at h6
   have := (hh.obj o y g1).lt h3 h5; have := hnb b h6; omega
  ·rw [upd_ne _ _ (by omega)] at h6; rw [ho, upd_same] at h5
   have := (hh.obj o' y' g2).lt h4 h6; have := hnb b h5; omega
  ·omega
 ·intro b hb
  have hlt := (hh.ext b hb).1
  refine ⟨Nat.lt_of_lt_of_le hlt h.size, fun q => ?_⟩
  rcases hf.muts b q with q | q
  ·exact (hh.ext b hb).2 q
  ·omega
 ·intro o ho
  rw [upd_ne _ _ (by simp at ho; omega)]
  exact hh.none o (by simp at ho; omega)
theorem heap_new (w : World) (o : Obj) : (w.alloc o).heap[w.heap.size]? = some o := by
 show (w.heap.push o)[w.heap.size]? = _
 simp
theorem Fwd.rep_go {L L' : Heap K} {η η' : Eta} {w w' : World} (hf : Fwd L η w L' η' w' noBad) (hh : HeapRel G L η w) {x : List PV} {l : List Value} (hx : Rep.go G L η w x l) : Rep.go G L' η' w' x l := by
 have := Rep.mono_go (hf.moves (C := G) fun b hb => (hh.ext b hb).1) x l hx
 rw [butB_noBad, PV.ren_id_go] at this; exact this
theorem Fwd.repV {L L' : Heap K} {η η' : Eta} {w w' : World} (hf : Fwd L η w L' η' w' noBad) (hh : HeapRel G L η w) {x : PV} {v : Value} (hx : RepV G L η w x v) : RepV G L' η' w' x v := by
 have := RepV.mono (hf.moves (C := G) fun b hb => (hh.ext b hb).1) hx
 rw [butB_noBad, PV.ren_id] at this; exact this
theorem Fwd.repF {L L' : Heap K} {η η' : Eta} {w w' : World} {bad : Nat -> Bool} (hf : Fwd L η w L' η' w' bad) (hh : HeapRel G L η w) {x : PV} {l : List Value} (hx : RepF G.I (Mx G L η) w x l) : RepF G.I (Mx G L' η') w' x l :=
 RepF.mono (hf.moves (C := G) fun b hb => (hh.ext b hb).1).froz x l hx
theorem push_box {L : Heap K} {η : Eta} {w : World} (hh : HeapRel G L η w) (cs : List PV) (cells : List Value) (t : TypeId) (hc : Rep.go G L η w cs cells) :
 Fwd L η w (L ++ [.box cs]) (upd η L.length (some w.heap.size)) (w.alloc (.cells ⟨cells⟩ t)) noBad /\
 HeapRel G (L ++ [.box cs]) (upd η L.length (some w.heap.size)) (w.alloc (.cells ⟨cells⟩ t)) := by
 have hf := push_fwd hh (More.alloc w (.cells ⟨cells⟩ t)) (.box cs) (some w.heap.size) (fun b hb => by cases hb; exact Nat.le_refl _)
 exact ⟨hf, push_heap hh (More.alloc w _) _ _ (fun b hb => by cases hb; exact Nat.le_refl _)
  ⟨w.heap.size, t, cells, upd_same _ _ _, heap_new w _, hf.rep_go hh hc⟩⟩
theorem push_map {L : Heap K} {η : Eta} {w : World} (hh : HeapRel G L η w) (kd : IntKind) (e : TypeId) :
 Fwd L η w (L ++ [.mp kd e (fun _ => none)]) (upd η L.length (some w.heap.size)) (w.alloc (.map #[] 0)) noBad /\
 HeapRel G (L ++ [.mp kd e (fun _ => none)]) (upd η L.length (some w.heap.size)) (w.alloc (.map #[] 0)) := by
 have hf := push_fwd hh (More.alloc w (.map #[] 0)) (.mp kd e (fun _ => none)) (some w.heap.size) (fun b hb => by cases hb; exact Nat.le_refl _)
 exact ⟨hf, push_heap hh (More.alloc w _) _ _ (fun b hb => by cases hb; exact Nat.le_refl _)
  ⟨w.heap.size, #[], 0, upd_same _ _ _, heap_new w _, fun n => rfl⟩⟩
theorem push_nil {L : Heap K} {η : Eta} {w : World} (hh : HeapRel G L η w) (e : TypeId) :
 Fwd L η w (L ++ [.row e []]) (upd η L.length none) w noBad /\ HeapRel G (L ++ [.row e []]) (upd η L.length none) w :=
 ⟨push_fwd hh (More.refl w) _ none (fun b hb => by cases hb), push_heap hh (More.refl w) _ none (fun b hb => by cases hb) (.inl ⟨rfl, upd_same _ _ _⟩)⟩
theorem RowRel.fwd {L L' : Heap K} {η η' : Eta} {w w' : World} {bad : Nat -> Bool} (hf : Fwd L η w L' η' w' bad) (hh : HeapRel G L η w) {s : Nat} {c : Cod} {xs : List c.α} {cells : Array Value}
 (h : RowRel G (Mx G L η) w s c xs cells) : RowRel G (Mx G L' η') w' s c xs cells := by
 obtain ⟨h1, h2, h3⟩ := h
 refine ⟨h1, h2, fun i x hi => ?_⟩
 obtain ⟨cs, c1, c2, c3⟩ := h3 i x hi
 exact ⟨cs, c1, hf.repF hh c2, c3⟩
theorem push_rowF {L : Heap K} {η : Eta} {w w' : World} (hh : HeapRel G L η w) (hm : More w w') (e : TypeId) (xs : List (K e).α) (b : Nat) (cells : Array Value) (hb : w.heap.size <= b) {fr : Nat × Nat} (hfr : FreeR fr cells)
 (hbl : w'.heap[b]? = some (.cells cells e fr)) (hr : RowRel G (Mx G L η) w (G.sz e) (K e) xs cells) :
 Fwd L η w (L ++ [.row e xs]) (upd η L.length (some b)) w' noBad /\ HeapRel G (L ++ [.row e xs]) (upd η L.length (some b)) w' := by
 have hf := push_fwd hh hm (.row e xs) (some b) (fun b' hb' => by cases hb'; exact hb)
 exact ⟨hf, push_heap hh hm _ _ (fun b' hb' => by cases hb'; exact hb) (.inr ⟨b, cells, fr, hfr, upd_same _ _ _, hbl, hr.fwd hf hh⟩)⟩
theorem push_row {L : Heap K} {η : Eta} {w w' : World} (hh : HeapRel G L η w) (hm : More w w') (e : TypeId) (xs : List (K e).α) (b : Nat) (cells : Array Value) (hb : w.heap.size <= b)
 (hbl : w'.heap[b]? = some (.cells cells e (0, 0))) (hr : RowRel G (Mx G L η) w (G.sz e) (K e) xs cells) :
 Fwd L η w (L ++ [.row e xs]) (upd η L.length (some b)) w' noBad /\ HeapRel G (L ++ [.row e xs]) (upd η L.length (some b)) w' := push_rowF hh hm e xs b cells hb (FreeR.zero _) hbl hr
end Go.Ab
namespace Go.Ab
open Go
variable [DMode] {K : Codes} {G : Sig}
structure Rew (w w' : World) (b : Nat) (cells cells' : Array Value) (t : TypeId) (fr : Nat × Nat := (0, 0)) : Prop where
 os : w'.os = w.os
 tape : Tp w w'
 output : w'.output = w.output
 size : w'.heap.size = w.heap.size
 keep : ∀ i, i ≠ b -> w'.heap[i]? = w.heap[i]?
 was : w.heap[b]? = some (.cells cells t fr)
 now : w'.heap[b]? = some (.cells cells' t fr)
 same : cells'.size = cells.size
structure Rew0 (w w' : World) (b : Nat) : Prop where
 os : w'.os = w.os
 tape : Tp w w'
 output : w'.output = w.output
 size : w'.heap.size = w.heap.size
 keep : ∀ i, i ≠ b -> w'.heap[i]? = w.heap[i]?
 sized : ∀ cells t fr, w.heap[b]? = some (.cells cells t fr) -> ∃ c1 t1 f1, w'.heap[b]? = some (.cells c1 t1 f1) /\ c1.size = cells.size
theorem Rew.r0 {w w' : World} {b : Nat} {cells cells' : Array Value} {t : TypeId} {fr : Nat × Nat} (h : Rew w w' b cells cells' t fr) : Rew0 w w' b :=
 ⟨h.os, h.tape, h.output, h.size, h.keep, fun c t0 f0 hb => by rw [h.was] at hb; cases hb; exact ⟨cells', t, fr, h.now, h.same⟩⟩
def kindOk (bad : Nat -> Bool) (o : Nat) : AObj K -> AObj K -> Prop
 | .box _, .box _ => True
 | .mp kd e _, .mp kd' e' _ => kd = kd' /\ e = e'
 | .row e xs, .row e' xs' => e = e' /\ (bad o = true \/ xs.length = xs'.length)
 | _, _ => False
theorem renL_get (ρ : Nat -> Option Nat) (L : Heap K) (o : Nat) : (renL ρ L)[o]? = (L[o]?).map (renO ρ) := by simp [renL]
theorem renL_length (ρ : Nat -> Option Nat) (L : Heap K) : (renL ρ L).length = L.length := by simp [renL]
theorem renO_live (ρ : Nat -> Option Nat) (x : AObj K) : (renO ρ x).live = x.live := by cases x <;> rfl
theorem set_get (ρ : Nat -> Option Nat) (L : Heap K) (o : Nat) (x' : AObj K) (p : Nat) (y : AObj K) (h : ((renL ρ L).set o x')[p]? = some y) :
 (p = o /\ o < L.length /\ y = x') \/ (p ≠ o /\ ∃ z, L[p]? = some z /\ y = renO ρ z) := by
 rw [List.getElem?_set] at h
 split at h
 ·rename_i hop
  subst hop
  split at h
  ·rename_i hlt; rw [renL_length] at hlt; cases h; exact .inl ⟨rfl, hlt, rfl⟩
  ·cases h
 ·rename_i hne
  rw [renL_get] at h
  obtain ⟨z, h1, h2⟩ := Option.map_eq_some_iff.1 h
  exact .inr ⟨fun q => hne q.symm, z, h1, h2.symm⟩
theorem set_fwd0 {L : Heap K} {η : Eta} {w w' : World} {b : Nat} {bad : Nat -> Bool} (hr : Rew0 w w' b) {o : Nat} {x x' : AObj K}
 (ho : L[o]? = some x) (hl : x.live = true) (hη : η o = some b) (hk : kindOk bad o x x') : Fwd L η w ((renL (butB bad) L).set o x') η w' bad where
 os := hr.os
 tape := hr.tape
 output := hr.output
 size := by rw [hr.size]; exact Nat.le_refl _
 keep := by
  intro i _ hm
  refine hr.keep i fun e => hm ?_
  subst e; exact ⟨o, x, ho, hl, hη⟩
 muts := by
  rintro i ⟨p, y, h1, h2, h3⟩
  rcases set_get _ L o x' p y h1 with ⟨rfl, _, rfl⟩ | ⟨_, z, h4, rfl⟩
  ·exact .inl ⟨p, x, ho, hl, h3⟩
  ·exact .inl ⟨p, z, h4, by rw [<- renO_live]; exact h2, h3⟩
 len := by simp [renL_length]
 box := by
  intro p cs' hp hL
  rcases set_get _ L o x' p _ hL with ⟨rfl, _, hx⟩ | ⟨_, z, h4, hx⟩
  ·subst hx
   cases x with
   | box cs => exact ⟨cs, ho, rfl⟩
   | row e xs => exact hk.elim
   | mp _ _ _ => exact hk.elim
   | gone => exact hk.elim
  ·cases z with
   | box cs => exact ⟨cs, h4, rfl⟩
   | row e xs => cases hx
   | mp _ _ _ => cases hx
   | gone => cases hx
 kind := by
  intro p e xs' hp hL
  rcases set_get _ L o x' p _ hL with ⟨rfl, _, hx⟩ | ⟨_, z, h4, hx⟩
  ·subst hx
   cases x with
   | row e xs => obtain ⟨rfl, _⟩ := hk; exact ⟨xs, ho⟩
   | box cs => exact hk.elim
   | mp _ _ _ => exact hk.elim
   | gone => exact hk.elim
  ·cases z with
   | row e xs => cases hx; exact ⟨_, h4⟩
   | box cs => cases hx
   | mp _ _ _ => cases hx
   | gone => cases hx
 row := by
  intro p e xs' hp hb hL
  have hsz : ∀ i cells0 t0 fr0, η p = some i -> w.heap[i]? = some (.cells cells0 t0 fr0) -> ∃ c1 t1 f1, w'.heap[i]? = some (.cells c1 t1 f1) /\ c1.size = cells0.size := by
   intro i cells0 t0 fr0 _ hi
   by_cases hib : i = b
   ·subst hib
    exact hr.sized _ _ _ hi
   ·exact ⟨cells0, t0, fr0, by rw [hr.keep i hib]; exact hi, rfl⟩
  rcases set_get _ L o x' p _ hL with ⟨rfl, _, hx⟩ | ⟨_, z, h4, hx⟩
  ·subst hx
   cases x with
   | row e xs =>
    obtain ⟨rfl, hk⟩ := hk
    rcases hk with hk | hk
    ·rw [hb] at hk; cases hk
    ·exact ⟨xs, ho, hk, rfl, hsz⟩
   | box cs => exact hk.elim
   | mp _ _ _ => exact hk.elim
   | gone => exact hk.elim
  ·cases z with
   | row e xs => cases hx; exact ⟨_, h4, rfl, rfl, hsz⟩
   | box cs => cases hx
   | mp _ _ _ => cases hx
   | gone => cases hx
 trk := fun _ _ _ h => .inl h
 mp := by
  intro p kd e f' hp hL
  rcases set_get _ L o x' p _ hL with ⟨rfl, _, hx⟩ | ⟨_, z, h4, hx⟩
  ·subst hx
   cases x with
   | mp kd e f => obtain ⟨rfl, rfl⟩ := hk; exact ⟨f, ho, rfl⟩
   | box cs => exact hk.elim
   | row _ _ => exact hk.elim
   | gone => exact hk.elim
  ·cases z with
   | mp kd e f => cases hx; exact ⟨_, h4, rfl⟩
   | box cs => cases hx
   | row _ _ => cases hx
   | gone => cases hx
theorem set_fwd {L : Heap K} {η : Eta} {w w' : World} {b : Nat} {cells cells' : Array Value} {t : TypeId} {fr : Nat × Nat} {bad : Nat -> Bool} (hr : Rew w w' b cells cells' t fr) {o : Nat} {x x' : AObj K}
 (ho : L[o]? = some x) (hl : x.live = true) (hη : η o = some b) (hk : kindOk bad o x x') : Fwd L η w ((renL (butB bad) L).set o x') η w' bad := set_fwd0 hr.r0 ho hl hη hk
theorem set_heap0 {L : Heap K} {η : Eta} {w w' : World} {b : Nat} {bad : Nat -> Bool} (hh : HeapRel G L η w) (hr : Rew0 w w' b) {o : Nat} {x x' : AObj K}
 (ho : L[o]? = some x) (hl : x.live = true) (hη : η o = some b) (hk : kindOk bad o x x')
 (hx : ObjRel G ((renL (butB bad) L).set o x') η w' o x') : HeapRel G ((renL (butB bad) L).set o x') η w' := by
 have hf := set_fwd0 hr ho hl hη hk
 have hm := hf.moves (C := G) (fun b hb => (hh.ext b hb).1)
 refine ⟨?_, ?_, ?_, ?_⟩
 ·intro p y hL
  rcases set_get _ L o x' p y hL with ⟨rfl, _, rfl⟩ | ⟨hne, z, h4, rfl⟩
  ·exact hx
  ·cases hz : z.live with
   | false => cases z <;> first | exact trivial | cases hz
   | true =>
    refine (hh.obj p z h4).mono hm rfl (fun i hi => hr.keep i fun e => hne ?_)
    subst e
    exact hh.inj p o z x _ h4 ho hz hl hi hη
 ·intro p p' y y' i h1 h2 h3 h4 h5 h6
  have key : ∀ (q : Nat) (z : AObj K), ((renL (butB bad) L).set o x')[q]? = some z -> z.live = true -> ∃ z0 : AObj K, L[q]? = some z0 /\ z0.live = true := by
   intro q z hq hz
   rcases set_get _ L o x' q z hq with ⟨rfl, _, rfl⟩ | ⟨_, z0, h7, rfl⟩
   ·exact ⟨x, ho, hl⟩
   ·exact ⟨z0, h7, by rw [<- renO_live]; exact hz⟩
  obtain ⟨z, g1, g2⟩ := key p y h1 h3
  obtain ⟨z', g3, g4⟩ := key p' y' h2 h4
  exact hh.inj p p' z z' i g1 g3 g2 g4 h5 h6
 ·intro i hi
  refine ⟨by rw [hr.size]; exact (hh.ext i hi).1, fun q => ?_⟩
  rcases hf.muts i q with q | q
  ·exact (hh.ext i hi).2 q
  ·exact absurd (hh.ext i hi).1 (by omega)
 ·intro p hp
  exact hh.none p (by simpa [renL_length] using hp)
theorem set_heap {L : Heap K} {η : Eta} {w w' : World} {b : Nat} {cells cells' : Array Value} {t : TypeId} {fr : Nat × Nat} {bad : Nat -> Bool} (hh : HeapRel G L η w) (hr : Rew w w' b cells cells' t fr) {o : Nat} {x x' : AObj K}
 (ho : L[o]? = some x) (hl : x.live = true) (hη : η o = some b) (hk : kindOk bad o x x')
 (hx : ObjRel G ((renL (butB bad) L).set o x') η w' o x') : HeapRel G ((renL (butB bad) L).set o x') η w' := set_heap0 hh hr.r0 ho hl hη hk hx
theorem renL_some (L : Heap K) : renL some L = L := by
 have : (renO some : AObj K -> AObj K) = id := by funext x; exact renO_some x
 simp [renL, this]
theorem Rep.go_length {L : Heap K} {η : Eta} {w : World} : ∀ {cs : List PV} {l : List Value}, Rep.go G L η w cs l -> l.length = cs.length
 | [], l, h => by simp only [Rep.go] at h; subst h; rfl
 | x :: cs, l, h => by
  obtain ⟨v, r, rfl, _, _, h⟩ := h
  simp [Rep.go_length h]
theorem Rep.go_get {L : Heap K} {η : Eta} {w : World} : ∀ {cs : List PV} {l : List Value}, Rep.go G L η w cs l -> ∀ (i : Nat) (x : PV), cs[i]? = some x ->
 ∃ v : Value, l[i]? = some v /\ x.isAgg = false /\ v.oneCell' = true /\ Rep G L η w x [v]
 | [], l, h, i, x, hi => by simp at hi
 | y :: cs, l, h, i, x, hi => by
  obtain ⟨v, r, rfl, ha, hx, h⟩ := h
  cases i with
  | zero => simp at hi; subst hi; exact ⟨v, rfl, ha.1, ha.2, hx⟩
  | succ i => simp at hi; simpa using Rep.go_get h i x hi
theorem Rep.go_set {L : Heap K} {η : Eta} {w : World} : ∀ {cs : List PV} {l : List Value}, Rep.go G L η w cs l -> ∀ (i : Nat) (x : PV) (v : Value), x.isAgg = false -> v.oneCell' = true -> Rep G L η w x [v] ->
 Rep.go G L η w (cs.set i x) (l.set i v)
 | [], l, h, i, x, v, _, _, _ => by simp only [Rep.go] at h; subst h; exact rfl
 | y :: cs, l, h, i, x, v, h1, h2, h3 => by
  obtain ⟨u, r, rfl, ha, hx, h⟩ := h
  cases i with
  | zero => exact ⟨v, r, rfl, ⟨h1, h2⟩, h3, h⟩
  | succ i => exact ⟨u, r.set i v, rfl, ha, hx, Rep.go_set h i x v h1 h2 h3⟩
theorem Rep.go_drop {L : Heap K} {η : Eta} {w : World} : ∀ {cs : List PV} {l : List Value}, Rep.go G L η w cs l -> ∀ n, Rep.go G L η w (cs.drop n) (l.drop n)
 | [], l, h, n => by simp only [Rep.go] at h; subst h; simp [Rep.go]
 | y :: cs, l, h, 0 => h
 | y :: cs, l, h, n + 1 => by
  obtain ⟨v, r, rfl, ha, hx, h⟩ := h
  exact Rep.go_drop h n
theorem Rep.go_take {L : Heap K} {η : Eta} {w : World} : ∀ {cs : List PV} {l : List Value}, Rep.go G L η w cs l -> ∀ n, Rep.go G L η w (cs.take n) (l.take n)
 | [], l, h, n => by simp only [Rep.go] at h; subst h; simp [Rep.go]
 | y :: cs, l, h, 0 => rfl
 | y :: cs, l, h, n + 1 => by
  obtain ⟨v, r, rfl, ha, hx, h⟩ := h
  exact ⟨v, _, rfl, ha, hx, Rep.go_take h n⟩
def setV : List Value -> Nat -> List Value -> List Value
 | cs, _, [] => cs
 | cs, off, y :: ys => setV (cs.set off y) (off + 1) ys
theorem setV_length : ∀ (cs : List Value) (off : Nat) (ys : List Value), (setV cs off ys).length = cs.length
 | _, _, [] => rfl
 | cs, off, y :: ys => by rw [setV, setV_length]; simp
theorem Rep.go_setCells {L : Heap K} {η : Eta} {w : World} : ∀ (ys : List PV) (us : List Value) (cs : List PV) (l : List Value) (off : Nat), Rep.go G L η w ys us -> Rep.go G L η w cs l ->
 Rep.go G L η w (setCells cs off ys) (setV l off us)
 | [], us, cs, l, off, h, hc => by simp only [Rep.go] at h; subst h; exact hc
 | y :: ys, us, cs, l, off, h, hc => by
  obtain ⟨v, r, rfl, ha, hx, h⟩ := h
  exact Rep.go_setCells ys r _ _ (off + 1) h (Rep.go_set hc off y v ha.1 ha.2 hx)
mutual
theorem Rep.toF {L : Heap K} {η : Eta} {w : World} : ∀ (x : PV) (l : List Value), x.pure = true -> Rep G L η w x l -> RepF G.I (Mx G L η) w x l
 | .bool _, _, _, h => h
 | .int _ _, _, _, h => h
 | .str _, _, _, h => h
 | .raw _, _, _, h => h
 | .sl _ _ _, _, _, h => h
 | .el _ _, _, _, h => h
 | .err _, _, _, h => h
 | .agg cs, l, hp, h => Rep.toF_go cs l hp h
 | .iface t x, l, hp, h => by
  obtain ⟨v, rfl, ha, h⟩ := h
  exact ⟨v, rfl, ha, Rep.toF x _ hp h⟩
 | .fn f a b, l, hp, h => by
  obtain ⟨fs, cs, rfl, h1, h2⟩ := h
  simp only [PV.pure, Bool.and_eq_true] at hp
  exact ⟨fs, cs, rfl, Rep.toF_go a fs hp.1 h1, Rep.toF_go b cs hp.2 h2⟩
 | .junk, _, hp, _ => by simp [PV.pure] at hp
 | .tup _, _, hp, _ => by simp [PV.pure] at hp
 | .own _, _, hp, _ => by simp [PV.pure] at hp
 | .ptr _ _, _, hp, _ => by simp [PV.pure] at hp
 | .oel _ _ _, _, hp, _ => by simp [PV.pure] at hp
 | .fsl _, _, hp, _ => by simp [PV.pure] at hp
 | .fel _, _, hp, _ => by simp [PV.pure] at hp
 | .mref _, _, hp, _ => by simp [PV.pure] at hp
theorem Rep.toF_go {L : Heap K} {η : Eta} {w : World} : ∀ (xs : List PV) (l : List Value), PV.pure.go xs = true -> Rep.go G L η w xs l -> RepF.go G.I (Mx G L η) w xs l
 | [], _, _, h => h
 | x :: xs, l, hp, h => by
  obtain ⟨v, r, rfl, ha, hx, h⟩ := h
  simp only [PV.pure.go, Bool.and_eq_true] at hp
  exact ⟨v, r, rfl, ha, Rep.toF x _ hp.1 hx, Rep.toF_go xs r hp.2 h⟩
end
mutual
theorem Rep.ofF {L : Heap K} {η : Eta} {w : World} : ∀ (x : PV) (l : List Value), RepF G.I (Mx G L η) w x l -> Rep G L η w x l
 | .bool _, _, h => h
 | .int _ _, _, h => h
 | .str _, _, h => h
 | .raw _, _, h => h
 | .sl _ _ _, _, h => h
 | .el _ _, _, h => h
 | .err _, _, h => h
 | .agg cs, l, h => Rep.ofF_go cs l h
 | .iface t x, l, h => by
  obtain ⟨v, rfl, ha, h⟩ := h
  exact ⟨v, rfl, ha, Rep.ofF x _ h⟩
 | .fn f a b, l, h => by
  obtain ⟨fs, cs, rfl, h1, h2⟩ := h
  exact ⟨fs, cs, rfl, Rep.ofF_go a fs h1, Rep.ofF_go b cs h2⟩
 | .junk, _, h => h.elim
 | .tup _, _, h => h.elim
 | .own _, _, h => h.elim
 | .ptr _ _, _, h => h.elim
 | .oel _ _ _, _, h => h.elim
 | .fsl _, _, h => h.elim
 | .fel _, _, h => h.elim
 | .mref _, _, h => h.elim
theorem Rep.ofF_go {L : Heap K} {η : Eta} {w : World} : ∀ (xs : List PV) (l : List Value), RepF.go G.I (Mx G L η) w xs l -> Rep.go G L η w xs l
 | [], _, h => h
 | x :: xs, l, h => by
  obtain ⟨v, r, rfl, ha, hx, h⟩ := h
  exact ⟨v, r, rfl, ha, Rep.ofF x _ hx, Rep.ofF_go xs r h⟩
end
theorem RepF.cells {I : Ids} {M : Nat -> Prop} {w : World} {x : PV} {l : List Value} (h : RepF I M w x l) : RepF.go I M w x.cells l \/ (x.isAgg = false /\ l.length = 1) := by
 cases x with
 | agg cs => exact .inl h
 | bool _ => simp only [RepF] at h; subst h; exact .inr ⟨rfl, rfl⟩
 | int _ _ => simp only [RepF] at h; subst h; exact .inr ⟨rfl, rfl⟩
 | str _ => simp only [RepF] at h; subst h; exact .inr ⟨rfl, rfl⟩
 | raw _ => obtain ⟨rfl, _⟩ := h; exact .inr ⟨rfl, rfl⟩
 | sl _ _ _ => obtain ⟨_, _, rfl, _⟩ := h; exact .inr ⟨rfl, rfl⟩
 | el _ _ => obtain ⟨_, _, _, _, _, _, rfl, _⟩ := h; exact .inr ⟨rfl, rfl⟩
 | err _ => obtain ⟨_, rfl, _⟩ := h; exact .inr ⟨rfl, rfl⟩
 | iface _ _ => obtain ⟨_, rfl, _⟩ := h; exact .inr ⟨rfl, rfl⟩
 | fn _ _ _ => obtain ⟨_, _, rfl, _⟩ := h; exact .inr ⟨rfl, rfl⟩
 | _ => exact h.elim
theorem RepF.go_length {I : Ids} {M : Nat -> Prop} {w : World} : ∀ {cs : List PV} {l : List Value}, RepF.go I M w cs l -> l.length = cs.length
 | [], l, h => by simp only [RepF.go] at h; subst h; rfl
 | x :: cs, l, h => by
  obtain ⟨v, r, rfl, _, _, h⟩ := h
  simp [RepF.go_length h]
theorem RepF.length {I : Ids} {M : Nat -> Prop} {w : World} {x : PV} {l : List Value} (h : RepF I M w x l) : l.length = x.cells.length := by
 rcases h.cells with h1 | ⟨h1, h2⟩
 ·exact RepF.go_length h1
 ·cases x <;> first | (exact h2) | (simp [PV.isAgg] at h1)
end Go.Ab
namespace Go.Ab
open Go
variable [DMode] {K : Codes}
def TD.isAgg : TD -> Bool | .struct _ | .array _ _ => true | _ => false
def notAggD : TypeDesc -> Bool | .struct _ | .array _ _ => false | _ => true
def TDok (C : Cfg K) (t : TypeId) : TD -> Prop
 | .bool => C.P.underlying t = some .bool
 | .int k => C.P.underlying t = some (.int k)
 | .str => C.P.underlying t = some .string
 | .slice e => C.P.underlying t = some (.slice e)
 | .struct fs => ∃ fields, C.P.underlying t = some (.struct fields) /\ (fields.toList.mapM (fun f => (C.P.info? f.type).map fun i => (f.offset, i.size)) = some (fs.map fun p => (p.1, C.P.cellsOf p.2))) /\ ∀ (i o ft : Nat), fs[i]? = some (o, ft) -> ∃ f, fields[i]? = some f /\ f.offset = o /\ f.type = ft /\ C.P.cellsOf ft ≠ 0
 | .array n e => C.P.underlying t = some (.array n e)
 | .ptr e => C.P.underlying t = some (.pointer e)
 | .iface => ∃ ms, C.P.underlying t = some (.interface ms)
 | .func => ∃ a b c, C.P.underlying t = some (.func a b c)
 | .map k e => C.P.underlying t = some (.map k e)
 | .other => ∃ d, C.P.underlying t = some d /\ notAggD d = true
structure TyOk (C : Cfg K) (t : TypeId) (i : TInfo) : Prop where
 info : ∃ inf, C.P.info? t = some inf /\ inf.size = i.size /\ inf.bytes = i.bytes /\ ∃ z, inf.zero = some z /\ isAggV z = i.agg /\ ∀ (G : Sig) (L : Heap K) η w, Rep.go G L η w i.zero z.cells.toList
 zlen : i.zero.length = i.size
 desc : TDok C t i.td
 agg : i.agg = i.td.isAgg
def Sc : PV -> Value -> Prop
 | .int k n, v => v = .int k n
 | .bool b, v => v = .bool b
 | .str s, v => v = .string s
 | _, _ => False
def ScL : List PV -> List Value -> Prop
 | [], vs => vs = []
 | x :: xs, vs => ∃ v r, vs = v :: r /\ Sc x v /\ ScL xs r
def EqOk (C : Cfg K) (t : TypeId) (xs : List PV) : Prop :=
 C.P.eqGuardType C.P.depth t = false /\ ∀ (ys : List PV) (us vs : List Value) (r : Bool) (w : World), eqCells xs ys = some r -> ScL xs us -> ScL ys vs ->
  (Op.equal t (.agg ⟨us⟩) (.agg ⟨vs⟩)).run C.P w = .ok r w
structure CfgOk (C : Cfg K) : Prop where
 eqs : ∀ t xs, C.eqs t xs = true -> EqOk C t xs
 ty : ∀ t i, C.ty t = some i -> TyOk C t i
 cods : ∀ e i, C.cod e = true -> C.ty e = some i -> (K e).n = i.size
 meth : ∀ t name g, C.meth t name = some g -> ∀ v w, (method (C.P.types.size + Made.depth) t v name).run C.P w = .ok (g, v) w
theorem CfgOk.codsz {C : Cfg K} (hc : CfgOk C) (e : TypeId) (i : TInfo) (h : C.cod e = true) (hi : C.ty e = some i) (y : (K e).α) : ((K e).enc y).cells.length = i.size :=
 ((K e).len y).trans (hc.cods e i h hi)
theorem run_typeInfo' {P : Program} {t : TypeId} {i : TypeInfo} (h : P.info? t = some i) (w : World) : (typeInfo t).run P w = .ok i w := by
 simp [typeInfo, h]
theorem run_sizeOf' {P : Program} {t : TypeId} {i : TypeInfo} (h : P.info? t = some i) (w : World) : (sizeOf t).run P w = .ok i.size w := by
 simp [sizeOf, run_typeInfo' h, Result.andThen]
theorem run_zeroValue' {P : Program} {t : TypeId} {i : TypeInfo} {z : Value} (h : P.info? t = some i) (hz : i.zero = some z) (w : World) : (zeroValue t).run P w = .ok z w := by
 simp [zeroValue, run_typeInfo' h, Result.andThen, hz]
theorem TyOk.und {C : Cfg K} {t : TypeId} {i : TInfo} (h : TyOk C t i) : ∃ d, C.P.underlying t = some d /\ (notAggD d = !i.agg) := by
 have := h.desc
 rw [h.agg]
 cases htd : i.td <;> rw [htd] at this <;> simp only [TDok] at this
 case struct fs => obtain ⟨f, h1, _⟩ := this; exact ⟨_, h1, rfl⟩
 case iface => obtain ⟨f, h1⟩ := this; exact ⟨_, h1, rfl⟩
 case func => obtain ⟨a, b, c, h1⟩ := this; exact ⟨_, h1, rfl⟩
 case other => obtain ⟨d, h1, h2⟩ := this; exact ⟨d, h1, by rw [h2]; rfl⟩
 all_goals exact ⟨_, this, rfl⟩
theorem TyOk.isAgg {C : Cfg K} {t : TypeId} {i : TInfo} (h : TyOk C t i) (w : World) : (isAgg t).run C.P w = .ok i.agg w := by
 obtain ⟨d, h1, h2⟩ := h.und
 have : i.agg = !notAggD d := by rw [h2]; simp
 rw [this]
 simp only [Go.isAgg, Sem.run_bind, run_underlying h1, Result.andThen]
 cases d <;> rfl
theorem TyOk.size {C : Cfg K} {t : TypeId} {i : TInfo} (h : TyOk C t i) (w : World) : (sizeOf t).run C.P w = .ok i.size w := by
 obtain ⟨inf, h1, h2, _⟩ := h.info
 rw [run_sizeOf' h1, h2]
theorem TyOk.cellsOf {C : Cfg K} {t : TypeId} {i : TInfo} (h : TyOk C t i) : C.P.cellsOf t = i.size := by
 obtain ⟨inf, h1, h2, _⟩ := h.info
 simp [Program.cellsOf, h1, h2]
theorem add_plain' (b off n : Nat) : (⟨b, off, none⟩ : Addr).add n = ⟨b, off + n, none⟩ := by
 unfold Addr.add; split <;> simp_all
theorem repV_int {G : Sig} {L : Heap K} {η : Eta} {w : World} {kd : IntKind} {n : Int} {v : Value} (h : RepV G L η w (.int kd n) v) : v = .int kd n := by
 rcases h with h | ⟨_, h⟩
 ·cases h
 ·simp only [Rep] at h
  cases v <;> simp [Value.cells] at h <;> simp_all [isAggV, PV.isAgg]
theorem repV_bool {G : Sig} {L : Heap K} {η : Eta} {w : World} {n : Bool} {v : Value} (h : RepV G L η w (.bool n) v) : v = .bool n := by
 rcases h with h | ⟨_, h⟩
 ·cases h
 ·simp only [Rep] at h
  cases v <;> simp [Value.cells] at h <;> simp_all [isAggV, PV.isAgg]
theorem repV_str {G : Sig} {L : Heap K} {η : Eta} {w : World} {n : ByteArray} {v : Value} (h : RepV G L η w (.str n) v) : v = .string n := by
 rcases h with h | ⟨_, h⟩
 ·cases h
 ·simp only [Rep] at h
  cases v <;> simp [Value.cells] at h <;> simp_all [isAggV, PV.isAgg]
theorem notAgg_of_one {v : Value} (h : v.oneCell' = true) : isAggV v = false := by cases v <;> first | rfl | simp [Value.oneCell'] at h
theorem cells_one {v : Value} (h : isAggV v = false) : v.cells = #[v] := by
 cases v <;> first | rfl | simp [isAggV] at h
theorem repV_one {G : Sig} {L : Heap K} {η : Eta} {w : World} {x : PV} {v : Value} (h : RepV G L η w x v) (hj : x ≠ .junk) (ha : x.isAgg = false) : isAggV v = false /\ Rep G L η w x [v] := by
 rcases h with h | ⟨h1, h2⟩
 ·exact absurd h hj
 ·rw [ha] at h1
  rw [cells_one h1] at h2
  exact ⟨h1, h2⟩
theorem repV_mk {G : Sig} {L : Heap K} {η : Eta} {w : World} {x : PV} {v : Value} (ha : x.isAgg = false) (hv : isAggV v = false) (h : Rep G L η w x [v]) : RepV G L η w x v :=
 .inr ⟨by rw [ha]; exact hv, by rw [cells_one hv]; exact h⟩
theorem repV_agg {G : Sig} {L : Heap K} {η : Eta} {w : World} {cs : List PV} {v : Value} (h : RepV G L η w (.agg cs) v) : ∃ vs, v = .agg ⟨vs⟩ /\ Rep.go G L η w cs vs := by
 rcases h with h | ⟨h1, h2⟩
 ·cases h
 ·cases v <;> simp [isAggV, PV.isAgg] at h1
  rename_i c
  exact ⟨c.toList, rfl, h2⟩
theorem load_ok {C : Cfg K} {G : Sig} {L : Heap K} {η : Eta} {w : World} (hc : CfgOk C) {t : TypeId} {i : TInfo} (hi : C.ty t = some i) {cs : List PV} {vs : List Value} (hr : Rep.go G L η w cs vs)
 {b base off : Nat} {blk : Option Obj} (hcell : ∀ w : World, w.heap[b]? = blk -> ∀ (j : Nat) (v : Value), vs[j]? = some v -> w.cell? ⟨b, base + j, none⟩ = some v) {k : PV -> Prop} (h : evLoadCells i cs off k) :
 ∃ v x, (∀ w, w.heap[b]? = blk -> (loadVar t ⟨b, base + off, none⟩).run C.P w = .ok v w) /\ k x /\ RepV G L η w x v := by
 have hty := hc.ty t i hi
 simp only [evLoadCells] at h
 cases ha : i.agg with
 | true =>
  rw [ha] at h
  obtain ⟨hlen, hk⟩ := chk_iff h
  have hlen := Nat.le_of_ble_eq_true hlen
  have hlv := Rep.go_length hr
  have hl : ((vs.drop off).take i.size).length = i.size := by simp; omega
  refine ⟨.agg ⟨(vs.drop off).take i.size⟩, _, fun w hw => ?_, hk, .inr ⟨rfl, Rep.go_take (Rep.go_drop hr off) _⟩⟩
  have hcell := hcell w hw
  simp only [loadVar, Sem.run_bind, hty.isAgg w, Result.andThen, ha, if_true, hty.size w]
  have := run_loadCells_list (P := C.P) w ⟨b, base + off, none⟩ ((vs.drop off).take i.size) (by
   intro j v hj
   rw [add_plain', Nat.add_assoc]
   rw [List.getElem?_take] at hj
   split at hj
   ·rw [List.getElem?_drop] at hj; exact hcell _ _ hj
   ·cases hj)
  rw [hl] at this
  simp [this]
 | false =>
  rw [ha] at h
  cases hx : cs[off]? with
  | none => rw [hx] at h; exact h.elim
  | some x =>
   rw [hx] at h
   obtain ⟨v, h1, h2, h3, h4⟩ := Rep.go_get hr off x hx
   refine ⟨v, x, fun w hw => ?_, h, repV_mk h2 (notAgg_of_one h3) h4⟩
   have hcell := hcell w hw
   simp only [loadVar, Sem.run_bind, hty.isAgg w, Result.andThen, ha, if_false, Bool.false_eq_true]
   simp [hcell _ _ h1]
theorem RepErr.one {I : Ids} {M : Nat -> Prop} {w : World} : ∀ {e : Err} {v : Value}, RepErr I M w e v -> v.oneCell' = true
 | .nil, _, h => by simp only [RepErr] at h; subst h; rfl
 | .cls _, _, h => by simp only [RepErr] at h; subst h; rfl
 | .sec _ _, _, h => by obtain ⟨_, _, _, _, rfl, _⟩ := h; rfl
 | .plc _ _, _, h => by obtain ⟨_, _, _, _, rfl, _⟩ := h; rfl
theorem RepF.one {I : Ids} {M : Nat -> Prop} {w : World} {x : PV} {v : Value} (h : RepF I M w x [v]) (hx : x.isAgg = false) : v.oneCell' = true := by
 cases x with
 | agg cs => simp [PV.isAgg] at hx
 | bool _ => simp [RepF] at h; subst h; rfl
 | int _ _ => simp [RepF] at h; subst h; rfl
 | str _ => simp [RepF] at h; subst h; rfl
 | raw _ => obtain ⟨h, h2⟩ := h; simp at h; subst h; exact h2
 | sl _ _ _ => obtain ⟨_, _, h, _⟩ := h; simp at h; subst h; rfl
 | el _ _ => obtain ⟨_, _, _, _, _, _, h, _⟩ := h; simp at h; subst h; rfl
 | err _ => obtain ⟨_, h, h2⟩ := h; simp at h; subst h; exact h2.one
 | iface _ _ => obtain ⟨_, h, _⟩ := h; simp at h; subst h; rfl
 | fn _ _ _ => obtain ⟨_, _, h, _⟩ := h; simp at h; subst h; rfl
 | _ => exact h.elim
theorem Rep.cells {G : Sig} {L : Heap K} {η : Eta} {w : World} {x : PV} {v : Value} (h : RepV G L η w x v) (hj : x.stor = true) : Rep.go G L η w x.cells v.cells.toList := by
 rcases h with h | ⟨ha, h⟩
 ·subst h; simp [PV.stor] at hj
 ·cases x with
  | agg cs => exact h
  | junk => simp [PV.stor] at hj
  | tup _ => simp [PV.stor] at hj
  | own o => rw [cells_one ha] at h ⊢; refine ⟨v, [], rfl, ⟨rfl, ?_⟩, h, rfl⟩; obtain ⟨_, ⟨u, hu, h2⟩, _⟩ := h; simp at hu; subst hu; exact h2
  | ptr o off => rw [cells_one ha] at h ⊢; refine ⟨v, [], rfl, ⟨rfl, ?_⟩, h, rfl⟩; obtain ⟨_, ⟨u, hu, h2⟩, _⟩ := h; simp at hu; subst hu; exact h2
  | mref o => rw [cells_one ha] at h ⊢; refine ⟨v, [], rfl, ⟨rfl, ?_⟩, h, rfl⟩; obtain ⟨_, ⟨u, hu, h2⟩, _⟩ := h; simp at hu; subst hu; exact h2
  | oel o i off => rw [cells_one ha] at h ⊢; refine ⟨v, [], rfl, ⟨rfl, ?_⟩, h, rfl⟩; obtain ⟨_, ⟨u, hu, h2⟩, _⟩ := h; simp at hu; subst hu; exact h2
  | iface t y => rw [cells_one ha] at h ⊢; refine ⟨v, [], rfl, ⟨rfl, ?_⟩, h, rfl⟩; obtain ⟨_, h, _⟩ := h; simp at h; subst h; rfl
  | fn f a b => rw [cells_one ha] at h ⊢; refine ⟨v, [], rfl, ⟨rfl, ?_⟩, h, rfl⟩; obtain ⟨_, _, h, _⟩ := h; simp at h; subst h; rfl
  | bool n => rw [cells_one ha] at h ⊢; refine ⟨v, [], rfl, ⟨rfl, ?_⟩, h, rfl⟩; simp [Rep] at h; subst h; rfl
  | int k n => rw [cells_one ha] at h ⊢; refine ⟨v, [], rfl, ⟨rfl, ?_⟩, h, rfl⟩; simp [Rep] at h; subst h; rfl
  | str n => rw [cells_one ha] at h ⊢; refine ⟨v, [], rfl, ⟨rfl, ?_⟩, h, rfl⟩; simp [Rep] at h; subst h; rfl
  | raw u => rw [cells_one ha] at h ⊢; refine ⟨v, [], rfl, ⟨rfl, ?_⟩, h, rfl⟩; obtain ⟨h, h2⟩ := h; simp at h; subst h; exact h2
  | sl α e l => rw [cells_one ha] at h ⊢; exact ⟨v, [], rfl, ⟨rfl, RepF.one h rfl⟩, h, rfl⟩
  | el y off => rw [cells_one ha] at h ⊢; exact ⟨v, [], rfl, ⟨rfl, RepF.one h rfl⟩, h, rfl⟩
  | err e => rw [cells_one ha] at h ⊢; exact ⟨v, [], rfl, ⟨rfl, RepF.one h rfl⟩, h, rfl⟩
  | fsl fs => rw [cells_one ha] at h ⊢; refine ⟨v, [], rfl, ⟨rfl, ?_⟩, h, rfl⟩; obtain ⟨_, _, _, _, h, _⟩ := h; simp at h; subst h; rfl
  | fel y => rw [cells_one ha] at h ⊢; refine ⟨v, [], rfl, ⟨rfl, ?_⟩, h, rfl⟩; obtain ⟨_, _, _, _, _, _, h, _⟩ := h; simp at h; subst h; rfl
theorem RepF.go_cells {I : Ids} {M : Nat -> Prop} {w : World} {x : PV} {l : List Value} (h : RepF I M w x l) : RepF.go I M w x.cells l := by
 rcases h.cells with q | ⟨q1, q2⟩
 ·exact q
 ·have : x.cells = [x] := by cases x <;> first | rfl | simp [PV.isAgg] at q1
  rw [this]
  match l, q2 with
  | [v0], _ => exact ⟨v0, [], rfl, ⟨q1, h.one q1⟩, h, rfl⟩
theorem cell_of_blk {w : World} {b : Nat} {cells : Array Value} {t : TypeId} {fr : Nat × Nat} (h : w.heap[b]? = some (.cells cells t fr)) (j : Nat) : w.cell? ⟨b, j, none⟩ = cells[j]? := by
 simp [World.cell?, h]
def LoadBlk (G : Sig) (L : Heap K) (η : Eta) (p : PV) (b : Nat) : Prop :=
 match p with
 | .ptr o _ => (∃ cs, L[o]? = some (.box cs)) /\ η o = some b
 | .oel o _ _ => (∃ e xs, L[o]? = some (.row e xs)) /\ η o = some b
 | .el _ _ => ¬ Mx G L η b
 | .fel _ => ¬ Mx G L η b
 | _ => False
theorem evLoad_ok {C : Cfg K} {X : Nat -> Prop} {L : Heap K} {η : Eta} {w : World} (hc : CfgOk C) (hh : HeapRel (sig C X) L η w) {t : TypeId} {p : PV} {v : Value} (hp : RepV (sig C X) L η w p v)
 {k : PV -> Prop} (h : evLoad C t p L k) : ∃ u x b, (∀ w1, w1.heap[b]? = w.heap[b]? -> (Instr.loadAt t v).run C.P w1 = .ok u w1) /\ k x /\ RepV (sig C X) L η w x u /\ b < w.heap.size /\ LoadBlk (sig C X) L η p b := by
 cases hi : C.ty t with
 | none => simp [evLoad, hi] at h
 | some i =>
  cases p with
  | ptr o off =>
   simp only [evLoad, hi] at h
   cases hL : L[o]? with
   | none => rw [hL] at h; exact h.elim
   | some y =>
    rw [hL] at h
    cases y with
    | box cs =>
     obtain ⟨_, hr⟩ := repV_one hp (by simp) rfl
     obtain ⟨_, _, hr⟩ := hr
     obtain ⟨b, h1, h2⟩ := hr cs hL
     simp at h2; subst h2
     obtain ⟨b', t', cells, g1, g2, g3⟩ := hh.obj o _ hL
     rw [h1] at g1; cases g1
     obtain ⟨u, x, e1, e2, e3⟩ := load_ok hc hi (base := 0) g3 (b := b) (blk := w.heap[b]?) (fun w1 hw j v hj => by rw [Nat.zero_add, cell_of_blk (hw.trans g2)]; simpa using hj) h
     simp only [Nat.zero_add] at e1
     exact ⟨u, x, b, fun w1 hw => by simp [Instr.loadAt, Instr.sureAddr, e1 w1 hw], e2, e3, blk_lt g2, ⟨_, hL⟩, h1⟩
    | row e xs => exact h.elim
    | mp _ _ _ => exact h.elim
    | gone => exact h.elim
  | el x off =>
   simp only [evLoad, hi] at h
   obtain ⟨_, hr⟩ := repV_one hp (by simp) rfl
   obtain ⟨b, base, cells, t', fr, vs, h1, h2, h3, h4, h5⟩ := hr
   simp at h1; subst h1
   have hgo : Rep.go (sig C X) L η w x.cells vs := Rep.ofF_go _ _ h4.go_cells
   obtain ⟨u, y, e1, e2, e3⟩ := load_ok hc hi (base := base) hgo (b := b) (blk := w.heap[b]?) (fun w1 hw j v hj => by rw [cell_of_blk (hw.trans h3)]; exact h5 j v hj) h
   exact ⟨u, y, b, fun w1 hw => by simp [Instr.loadAt, Instr.sureAddr, e1 w1 hw], e2, e3, blk_lt h3, h2⟩
  | fel x =>
   simp only [evLoad, hi] at h
   obtain ⟨_, hr⟩ := repV_one hp (by simp) rfl
   obtain ⟨b, off, cells, t', fr, v', h1, h2, h3, h4, h5, h6⟩ := hr
   simp at h1; subst h1
   have hgo : Rep.go (sig C X) L η w [x] [v'] := ⟨v', [], rfl, h5, h6, rfl⟩
   obtain ⟨u, y, e1, e2, e3⟩ := load_ok hc hi (base := off) hgo (b := b) (blk := w.heap[b]?) (fun w1 hw j v hj => by
    rw [cell_of_blk (hw.trans h3)]
    have hj0 : j = 0 := by have := (List.getElem?_eq_some_iff.1 hj).1; simpa using this
    subst hj0
    obtain rfl := Option.some.inj hj
    exact h4) h
   simp only [Nat.add_zero] at e1
   exact ⟨u, y, b, fun w1 hw => by simp [Instr.loadAt, Instr.sureAddr, e1 w1 hw], e2, e3, blk_lt h3, h2⟩
  | oel o n off =>
   simp only [evLoad, hi] at h
   cases hL : L[o]? with
   | none => rw [hL] at h; exact h.elim
   | some y =>
    rw [hL] at h
    cases y with
    | row e xs =>
     obtain ⟨_, hr⟩ := repV_one hp (by simp) rfl
     obtain ⟨_, _, hr⟩ := hr
     obtain ⟨n0, n1, b, h1, h2⟩ := hr e xs hL
     simp at h2; subst h2
     have hlt : n.toNat < xs.length := by omega
     have hx := List.getElem?_eq_getElem hlt
     obtain ⟨c1, h2⟩ | ⟨b', cells, fr0, hfr0, g1, g2, g3, g4, g5⟩ := hh.obj o _ hL
     ·rw [h1] at h2; cases h2
     rw [h1] at g1; cases g1
     obtain ⟨vs, v1, v2, v3⟩ := g5 _ _ hx
     have h : getAll C.cl xs[n.toNat]? (fun y => evLoadCells i ((K e).enc y).cells off k) := h
     have h : evLoadCells i ((K e).enc xs[n.toNat]).cells off k := getAll_at (k := fun y => evLoadCells i ((K e).enc y).cells off k) h hx
     obtain ⟨u, y, e1, e2, e3⟩ := load_ok hc hi (base := n.toNat * (sig C X).sz e) (Rep.ofF_go _ _ v2.go_cells) (b := b) (blk := w.heap[b]?) (fun w1 hw j v hj => by rw [cell_of_blk (hw.trans g2)]; exact v3 j v hj) h
     exact ⟨u, y, b, fun w1 hw => by simp [Instr.loadAt, Instr.sureAddr, e1 w1 hw], e2, e3, blk_lt g2, ⟨_, _, hL⟩, h1⟩
    | box cs => exact h.elim
    | mp _ _ _ => exact h.elim
    | gone => exact h.elim
  | _ => simp [evLoad, hi] at h
end Go.Ab
namespace Go.Ab
open Go
variable [DMode] {K : Codes} {C : Cfg K} {X : Nat -> Prop} {L : Heap K} {η : Eta} {w : World}
theorem Cfg.td_slice {t e : TypeId} (hc : CfgOk C) (h : C.td t = .slice e) : C.P.underlying t = some (.slice e) := by
 simp only [Cfg.td] at h
 cases hi : C.ty t with
 | none => rw [hi] at h; cases h
 | some i => rw [hi] at h; have := (hc.ty t i hi).desc; dsimp only at h; rw [h] at this; exact this
theorem Cfg.td_int {t : TypeId} {kd : IntKind} (hc : CfgOk C) (h : C.td t = .int kd) : C.P.underlying t = some (.int kd) := by
 simp only [Cfg.td] at h
 cases hi : C.ty t with
 | none => rw [hi] at h; cases h
 | some i => rw [hi] at h; have := (hc.ty t i hi).desc; dsimp only at h; rw [h] at this; exact this
theorem Cfg.td_str {t : TypeId} (hc : CfgOk C) (h : C.td t = .str) : C.P.underlying t = some .string := by
 simp only [Cfg.td] at h
 cases hi : C.ty t with
 | none => rw [hi] at h; cases h
 | some i => rw [hi] at h; have := (hc.ty t i hi).desc; dsimp only at h; rw [h] at this; exact this
theorem Cfg.td_bool {t : TypeId} (hc : CfgOk C) (h : C.td t = .bool) : C.P.underlying t = some .bool := by
 simp only [Cfg.td] at h
 cases hi : C.ty t with
 | none => rw [hi] at h; cases h
 | some i => rw [hi] at h; have := (hc.ty t i hi).desc; dsimp only at h; rw [h] at this; exact this
theorem Cfg.td_ptr {t e : TypeId} (hc : CfgOk C) (h : C.td t = .ptr e) : C.P.underlying t = some (.pointer e) := by
 simp only [Cfg.td] at h
 cases hi : C.ty t with
 | none => rw [hi] at h; cases h
 | some i => rw [hi] at h; have := (hc.ty t i hi).desc; dsimp only at h; rw [h] at this; exact this
theorem Cfg.td_iface {t : TypeId} (hc : CfgOk C) (h : C.td t = .iface) : ∃ ms, C.P.underlying t = some (.interface ms) := by
 simp only [Cfg.td] at h
 cases hi : C.ty t with
 | none => rw [hi] at h; cases h
 | some i => rw [hi] at h; have := (hc.ty t i hi).desc; dsimp only at h; rw [h] at this; exact this
theorem Cfg.td_func {t : TypeId} (hc : CfgOk C) (h : C.td t = .func) : ∃ a b c, C.P.underlying t = some (.func a b c) := by
 simp only [Cfg.td] at h
 cases hi : C.ty t with
 | none => rw [hi] at h; cases h
 | some i => rw [hi] at h; have := (hc.ty t i hi).desc; dsimp only at h; rw [h] at this; exact this
def Gives (G : Sig) (L : Heap K) (η : Eta) (w : World) (P : Program) (s : Sem Value) (k : PV -> Prop) : Prop :=
 ∃ v x, (∀ w1, s.run P w1 = .ok v w1) /\ k x /\ RepV G L η w x v
theorem gives {G : Sig} {P : Program} {s : Sem Value} {k : PV -> Prop} (v : Value) (x : PV) (h : ∀ w1, s.run P w1 = .ok v w1) (hk : k x) (hr : RepV G L η w x v) : Gives G L η w P s k := ⟨v, x, h, hk, hr⟩
theorem rv_int {G : Sig} (kd : IntKind) (n : Int) : RepV G L η w (.int kd n) (.int kd n) := .inr ⟨rfl, rfl⟩
theorem rv_bool {G : Sig} (b : Bool) : RepV G L η w (.bool b) (.bool b) := .inr ⟨rfl, rfl⟩
theorem rv_str {G : Sig} (s : ByteArray) : RepV G L η w (.str s) (.string s) := .inr ⟨rfl, rfl⟩
theorem evFieldAddr_ok (hc : CfgOk C) {t : TypeId} {p : PV} {v : Value} {f : Nat} {k : PV -> Prop} (hp : RepV (sig C X) L η w p v) (h : evFieldAddr C t p f L k) :
 Gives (sig C X) L η w C.P (Instr.fieldAt t v f) k := by
 simp only [evFieldAddr] at h
 split at h
 ·rename_i fs _ _ _ _ _ hi
  have hty := (hc.ty t _ hi).desc
  obtain ⟨fields, hu, _, hf⟩ := hty
  have key : ∀ (o ft : Nat) (b off : Nat), fs[f]? = some (o, ft) -> ∀ w1, (Instr.fieldAt t (.pointer (some ⟨b, off, none⟩)) f).run C.P w1 = .ok (.pointer (some ⟨b, off + o, none⟩)) w1 := by
   intro o ft b off hfs w1
   obtain ⟨fld, h1, h2, h3, h4⟩ := hf f o ft hfs
   have hsz : ∃ inf, C.P.info? ft = some inf /\ inf.size ≠ 0 := by
    simp only [Program.cellsOf] at h4
    cases hq : C.P.info? ft with
    | none => simp [hq] at h4
    | some inf => simp [hq] at h4; exact ⟨inf, rfl, h4⟩
   obtain ⟨inf, e1, e2⟩ := hsz
   simp [Instr.fieldAt, run_underlying hu, Result.andThen, h1, Instr.sureAddr, fieldPlace, h3, run_sizeOf' e1, e2, h2, add_plain']
  split at h
  ·rename_i o ft b off hfs
   split at h
   ·rename_i cs hL
    obtain ⟨_, hr⟩ := repV_one hp (by simp) rfl
    obtain ⟨hlt, _, hr⟩ := hr
    obtain ⟨b', h1, h2⟩ := hr cs hL
    simp at h2; subst h2
    exact gives _ _ (key o ft b' off hfs) h (repV_mk rfl rfl ⟨hlt, ⟨_, rfl, rfl⟩, fun cs' hL' => ⟨b', h1, rfl⟩⟩)
   ·exact h.elim
  ·rename_i o ft x off hfs
   obtain ⟨_, hr⟩ := repV_one hp (by simp) rfl
   obtain ⟨b, base, cells, t', fr, vs, h1, h2, h3, h4, h5⟩ := hr
   simp at h1; subst h1
   refine gives _ _ (key o ft b (base + off) hfs) h (repV_mk rfl rfl ⟨b, base, cells, t', fr, vs, by rw [Nat.add_assoc], h2, h3, h4, h5⟩)
  ·rename_i o ft b i off hfs
   split at h
   ·rename_i e xs hL
    obtain ⟨_, hr⟩ := repV_one hp (by simp) rfl
    obtain ⟨hlt, _, hr⟩ := hr
    obtain ⟨n0, n1, b', h1, h2⟩ := hr e xs hL
    simp at h2; subst h2
    refine gives _ _ (key o ft b' _ hfs) h (repV_mk rfl rfl ⟨hlt, ⟨_, rfl, rfl⟩, ?_⟩)
    intro e' xs' hL'
    obtain ⟨m0, m1, b2, g1, g2⟩ := hr e' xs' hL'
    refine ⟨m0, m1, b2, g1, ?_⟩
    simp at g2
    simp [g2.1]; omega
   ·exact h.elim
  ·exact h.elim
 ·exact h.elim
theorem evLoadCells_part {G : Sig} (hc : CfgOk C) {t : TypeId} {i : TInfo} (hi : C.ty t = some i) {cs : List PV} {vs : List Value} (hr : Rep.go G L η w cs vs) {off : Nat} {k : PV -> Prop} (h : evLoadCells i cs off k) :
 Gives G L η w C.P (part t ⟨vs⟩ off) k := by
 have hty := hc.ty t i hi
 simp only [evLoadCells] at h
 cases ha : i.agg with
 | true =>
  rw [ha] at h
  obtain ⟨hlen, hk⟩ := chk_iff h
  have hlen := Nat.le_of_ble_eq_true hlen
  refine gives (.agg ⟨(vs.drop off).take i.size⟩) _ (fun w => ?_) hk (.inr ⟨rfl, Rep.go_take (Rep.go_drop hr off) _⟩)
  simp [part, hty.isAgg w, hty.size w, Result.andThen, ha, List.take_drop]
 | false =>
  rw [ha] at h
  cases hx : cs[off]? with
  | none => rw [hx] at h; exact h.elim
  | some x =>
   rw [hx] at h
   obtain ⟨v, h1, h2, h3, h4⟩ := Rep.go_get hr off x hx
   refine gives v x (fun w => ?_) h (repV_mk h2 (notAgg_of_one h3) h4)
   simp [part, hty.isAgg w, Result.andThen, ha, h1]
theorem evIndex_ok {t : TypeId} {x i : PV} {v u : Value} {k : PV -> Prop} (hc : CfgOk C) (hx : RepV (sig C X) L η w x v) (hi : RepV (sig C X) L η w i u) (h : evIndex C t x i k) :
 Gives (sig C X) L η w C.P (Instr.index t v u) k := by
 simp only [evIndex] at h
 split at h
 ·rename_i s kd n ht
  obtain rfl := repV_str hx
  obtain rfl := repV_int hi
  obtain ⟨⟨h0, h1⟩, h⟩ := h
  have hlt : n.toNat < s.size := by omega
  have hb := h s[n.toNat] (by rw [getElem?_pos s n.toNat hlt])
  refine gives _ _ (fun w => ?_) hb (rv_int _ _)
  simp [Instr.index, asIntOf, run_underlying (Cfg.td_str hc ht), Result.andThen, h0, hlt]
 ·rename_i len e cs kd n ht
  obtain rfl := repV_int hi
  obtain ⟨vs, rfl, hr⟩ := repV_agg hx
  have hu : C.P.underlying t = some (.array len e) := by
   unfold Cfg.td at ht
   split at ht
   ·rename_i i hi; have := (hc.ty t i hi).desc; rw [ht] at this; exact this
   ·cases ht
  split at h
  ·rename_i i m he
   obtain ⟨hlt, h⟩ := chk_iff h
   have hlt : m < len := by rw [Nat.blt_eq] at hlt; exact hlt
   obtain ⟨u, y, e1, e2, e3⟩ := evLoadCells_part hc he hr h
   refine gives u y (fun w => ?_) e2 e3
   have hsz := (hc.ty e i he).size w
   simp [Instr.index, asIntOf, run_underlying hu, Result.andThen, hlt, hsz, e1]
  ·exact h.elim
 ·exact h.elim
theorem evField_ok (hc : CfgOk C) {t : TypeId} {x : PV} {v : Value} {f : Nat} {k : PV -> Prop} (hx : RepV (sig C X) L η w x v) (h : evField C t x f k) :
 Gives (sig C X) L η w C.P (Instr.field t v f) k := by
 simp only [evField] at h
 split at h
 ·rename_i fs _ _ _ _ _ hi
  obtain ⟨fields, hu, _, hf⟩ := (hc.ty t _ hi).desc
  split at h
  ·rename_i o ft cs hfs
   split at h
   ·rename_i i hft
    obtain ⟨vs, rfl, hr⟩ := repV_agg hx
    obtain ⟨fld, h1, h2, h3, h4⟩ := hf f o ft hfs
    obtain ⟨u, y, e1, e2, e3⟩ := evLoadCells_part hc hft hr h
    refine gives u y (fun w => ?_) e2 e3
    simp [Instr.field, run_underlying hu, Result.andThen, h1, asAgg, h3, h2, e1]
   ·exact h.elim
  ·exact h.elim
 ·exact h.elim
theorem evIndexAddr_ok (hc : CfgOk C) (hh : HeapRel (sig C X) L η w) {t : TypeId} {x i : PV} {v u : Value} {k : PV -> Prop} (hx : RepV (sig C X) L η w x v) (hi : RepV (sig C X) L η w i u) (h : evIndexAddr C t x i L k) :
 Gives (sig C X) L η w C.P (Instr.indexAt t v u) k := by
 simp only [evIndexAddr] at h
 split at h
 ·rename_i e _ _ _ _ _ kd n ht
  have hu : C.P.underlying t = some (.slice e) := (hc.ty t _ ht).desc
  obtain rfl := repV_int hi
  split at h
  ·rename_i ie he
   have hsz := (hc.ty e ie he).size
   split at h
   ·rename_i α enc l
    obtain ⟨⟨h0, h1⟩, h⟩ := h
    obtain ⟨_, hr⟩ := repV_one hx (by simp) rfl
    obtain ⟨A, cap, hv, hcap, hr⟩ := hr
    simp at hv; subst hv
    have hlt : n.toNat < l.length := by omega
    have hy := List.getElem?_eq_getElem hlt
    obtain ⟨hs, hk⟩ := chk_iff (getAll_at (k := fun y => chk (Nat.beq (enc y).cells.length ie.size) (k (.el (enc y) 0))) h hy)
    have hs := Nat.eq_of_beq_eq_true hs
    rcases hr with hr | ⟨b, off, s, cells, t', fr, rfl, s0, hM, hb, hel⟩
    ·subst hr; simp at hlt
    ·obtain ⟨cs, c1, c2, c3⟩ := hel _ _ hy
     have hss : s = ie.size := by rw [<- c1, c2.length, hs]
     refine gives (.pointer (some ⟨b, off + n.toNat * s, none⟩)) _ (fun w => ?_) hk (repV_mk rfl rfl ⟨b, off + n.toNat * s, cells, t', fr, cs, by simp, hM, hb, c2, c3⟩)
     simp [Instr.indexAt, asIntOf, run_underlying hu, Result.andThen, h0, h1, hsz, add_plain', hss]
   ·rename_i o
    split at h
    ·rename_i e' l hL
     obtain ⟨he', ⟨h0, h1⟩, hk⟩ := chk_iff h
     obtain rfl := Nat.eq_of_beq_eq_true he'
     obtain ⟨_, hr⟩ := repV_one hx (by simp) rfl
     obtain ⟨hlt, _, hr⟩ := hr
     obtain ⟨A, cap, hv, hcap, hq⟩ := hr e' l hL
     clear hr
     simp at hv; subst hv
     rcases hq with hq | ⟨b, cells, t', fr, e1, rfl, e2, e3⟩
     ·omega
     ·refine gives (.pointer (some ⟨b, n.toNat * ie.size, none⟩)) _ (fun w => ?_) hk (repV_mk rfl rfl ⟨hlt, ⟨_, rfl, rfl⟩, ?_⟩)
      ·simp [Instr.indexAt, asIntOf, run_underlying hu, Result.andThen, h0, h1, hsz, add_plain']
      ·intro e2 xs hL2
       rw [hL] at hL2; cases hL2
       exact ⟨h0, h1, b, e1, by simp [sig, (hc.ty e' ie he).cellsOf]⟩
    ·exact h.elim
   ·rename_i fs
    split at h
    ·rename_i y hy
     obtain ⟨hs1, ⟨h0, h1⟩, hk⟩ := chk_iff h
     have hs1 := Nat.eq_of_beq_eq_true hs1
     obtain ⟨_, hr⟩ := repV_one hx (by simp) rfl
     obtain ⟨b, cells, t', fr, hv, hM, hb, hgo⟩ := hr
     simp at hv; subst hv
     obtain ⟨v', g1, g2, g3, g4⟩ := Rep.go_get hgo _ _ hy
     refine gives (.pointer (some ⟨b, n.toNat * ie.size, none⟩)) _ (fun w => ?_) hk (repV_mk rfl rfl ⟨b, n.toNat * ie.size, ⟨cells⟩, t', fr, v', by simp, hM, hb, by rw [hs1, Nat.mul_one]; simpa using g1, ⟨g2, g3⟩, g4⟩)
     simp [Instr.indexAt, asIntOf, run_underlying hu, Result.andThen, h0, h1, hsz, add_plain']
    ·exact h.elim
   ·exact h.elim
  ·exact h.elim
 ·rename_i len e _ _ _ _ _ kd n ht
  have hu : C.P.underlying t = some (.array len e) := (hc.ty t _ ht).desc
  obtain rfl := repV_int hi
  split at h
  ·rename_i ie he
   have hsz := (hc.ty e ie he).size
   have key : ∀ (b off : Nat), 0 <= n -> n < len -> ∀ w1, (Instr.indexAt t (.pointer (some ⟨b, off, none⟩)) (.int kd n)).run C.P w1 = .ok (.pointer (some ⟨b, off + n.toNat * ie.size, none⟩)) w1 := by
    intro b off h0 h1 w1
    simp [Instr.indexAt, asIntOf, run_underlying hu, Result.andThen, h0, h1, hsz, add_plain', Instr.sureAddr]
   split at h
   ·rename_i y off
    obtain ⟨⟨h0, h1⟩, h⟩ := h
    obtain ⟨_, hr⟩ := repV_one hx (by simp) rfl
    obtain ⟨b, base, cells, t', fr, vs, e1, h2, h3, h4, h5⟩ := hr
    simp at e1; subst e1
    refine gives _ _ (key b (base + off) h0 h1) h (repV_mk rfl rfl ⟨b, base, cells, t', fr, vs, by rw [Nat.add_assoc], h2, h3, h4, h5⟩)
   ·rename_i o off
    split at h
    ·rename_i cs hL
     obtain ⟨⟨h0, h1⟩, h⟩ := h
     obtain ⟨_, hr⟩ := repV_one hx (by simp) rfl
     obtain ⟨hlt, _, hr⟩ := hr
     obtain ⟨b', e1, h2⟩ := hr cs hL
     simp at h2; subst h2
     exact gives _ _ (key b' off h0 h1) h (repV_mk rfl rfl ⟨hlt, ⟨_, rfl, rfl⟩, fun cs' hL' => ⟨b', e1, rfl⟩⟩)
    ·exact h.elim
   ·rename_i o i off
    split at h
    ·rename_i e' xs hL
     obtain ⟨⟨h0, h1⟩, h⟩ := h
     obtain ⟨_, hr⟩ := repV_one hx (by simp) rfl
     obtain ⟨hlt, _, hr⟩ := hr
     obtain ⟨n0, n1, b', e1, h2⟩ := hr e' xs hL
     simp at h2; subst h2
     refine gives _ _ (key b' _ h0 h1) h (repV_mk rfl rfl ⟨hlt, ⟨_, rfl, rfl⟩, ?_⟩)
     intro e2 xs' hL'
     obtain ⟨m0, m1, b2, g1, g2⟩ := hr e2 xs' hL'
     refine ⟨m0, m1, b2, g1, ?_⟩
     simp at g2
     simp [g2.1]; omega
    ·exact h.elim
   ·exact h.elim
  ·exact h.elim
 ·exact h.elim
theorem evExtract_ok {x : PV} {v : Value} {j : Nat} {k : PV -> Prop} (hx : RepV (sig C X) L η w x v) (h : evExtract x j k) : Gives (sig C X) L η w C.P (Instr.extract v j) k := by
 simp only [evExtract] at h
 split at h
 ·rename_i cs
  split at h
  ·rename_i y hy
   obtain ⟨_, hr⟩ := repV_one hx (by simp) rfl
   obtain ⟨vs, hv, hr⟩ := hr
   simp at hv; subst hv
   have key : ∀ (cs : List PV) (vs : List Value) (j : Nat) (y : PV), Rep.goT (sig C X) L η w cs vs -> cs[j]? = some y -> ∃ u, vs[j]? = some u /\ RepV (sig C X) L η w y u := by
    intro cs
    induction cs with
    | nil => intro vs j y _ hj; simp at hj
    | cons c cs ih =>
     intro vs j y hr hj
     obtain ⟨u, r, rfl, h1, h2, h3⟩ := hr
     cases j with
     | zero =>
      simp at hj; subst hj
      refine ⟨u, rfl, ?_⟩
      rcases h1 with h1 | h1
      ·exact .inr ⟨h1, h2⟩
      ·exact .inl h1
     | succ j => simp at hj; simpa using ih r j y h3 hj
   obtain ⟨u, h1, h2⟩ := key cs vs j y hr hy
   exact gives u y (fun w => by simp [Instr.extract, h1]) h h2
  ·exact h.elim
 ·exact h.elim
theorem evUn_ok {op : UnOp} {x : PV} {v : Value} {k : PV -> Prop} (hx : RepV (sig C X) L η w x v) (h : evUn op x k) : Gives (sig C X) L η w C.P (Op.unary op v) k := by
 cases op <;> cases x <;> simp only [evUn] at h
 ·obtain rfl := repV_int hx
  exact gives _ _ (fun w => by simp [Op.unary, Op.intArith]) h (rv_int _ _)
 ·obtain rfl := repV_int hx
  exact gives _ _ (fun w => by simp only [Op.unary]; rfl) h (rv_int _ _)
 ·obtain rfl := repV_bool hx
  exact gives _ _ (fun w => by simp [Op.unary]) h (rv_bool _)
theorem evIntBin_ok {op : BinOp} {kd : IntKind} {a b : Int} {t : TypeId} {k : PV -> Prop} (h : evIntBin op kd a b k) : Gives (sig C X) L η w C.P (binOp op t (.int kd a) (.int kd b)) k := by
 cases op <;> simp only [evIntBin] at h
 case quo => exact gives _ _ (fun w => by simp [binOp, Op.intDiv, h.1]) h.2 (rv_int _ _)
 case rem => exact gives _ _ (fun w => by simp [binOp, Op.intDiv, h.1]) h.2 (rv_int _ _)
 case and => exact gives _ _ (fun w => by simp only [binOp, ne_eq, not_true_eq_false, if_false]; rfl) h (rv_int _ _)
 case or => exact gives _ _ (fun w => by simp only [binOp, ne_eq, not_true_eq_false, if_false]; rfl) h (rv_int _ _)
 case xor => exact gives _ _ (fun w => by simp only [binOp, ne_eq, not_true_eq_false, if_false]; rfl) h (rv_int _ _)
 case andNot => exact gives _ _ (fun w => by simp only [binOp, ne_eq, not_true_eq_false, if_false]; rfl) h (rv_int _ _)
 case add => exact gives _ _ (fun w => by simp [binOp, Op.intArith]) h (rv_int _ _)
 case sub => exact gives _ _ (fun w => by simp [binOp, Op.intArith]) h (rv_int _ _)
 case mul => exact gives _ _ (fun w => by simp [binOp, Op.intArith]) h (rv_int _ _)
 all_goals first
  | exact h.elim
  | exact gives _ _ (fun w => by simp [binOp, Op.intCmp]) h (rv_bool _)
theorem evStrBin_ok {op : BinOp} {a b : ByteArray} {t : TypeId} {k : PV -> Prop} (h : evStrBin op a b k) : Gives (sig C X) L η w C.P (binOp op t (.string a) (.string b)) k := by
 cases op <;> simp only [evStrBin] at h
 case add =>
  have : ¬ (((a.size + b.size : Nat) : Int) > IntKind.i64.max) := by
   have : IntKind.i64.max = 9223372036854775807 := by decide
   omega
  exact gives _ _ (fun w => by simp only [binOp, Op.stringOp]; rw [if_neg this]; rfl) h.2 (rv_str _)
 all_goals first
  | exact h.elim
  | exact gives _ _ (fun w => by simp [binOp, Op.stringOp]) h (rv_bool _)
end Go.Ab
namespace Go.Ab
open Go
variable [DMode] {K : Codes} {C : Cfg K} {X : Nat -> Prop} {N : Nat} {env : List PV} {L : Heap K} {η : Eta} {w : World} {a : Act}
def isRow (L : Heap K) (o : Nat) : Bool := match L[o]? with | some (.row _ _) => true | _ => false
def Kept (η : Eta) (w w' : World) (tl : List Nat) : Prop := ∀ b, b < w.heap.size -> (∀ o, o ∈ tl -> η o ≠ some b) -> w'.heap[b]? = w.heap[b]?
theorem Kept.same {η : Eta} {w : World} {tl : List Nat} : Kept η w w tl := fun _ _ _ => rfl
theorem Kept.more {η : Eta} {w w' : World} {tl : List Nat} (h : More w w') : Kept η w w' tl := fun b hb _ => h.keep b hb
theorem Kept.alloc {η : Eta} {w : World} {tl : List Nat} {o : Obj} : Kept η w (w.alloc o) tl := .more (.alloc w o)
def Res (C : Cfg K) (X : Nat -> Prop) (N : Nat) (L : Heap K) (η : Eta) (w : World) (a : Act) (tl : List Nat) (k : K1 K) (v : Value) (w' : World) : Prop :=
 ∃ x env' L' η', k x env' L' /\ RepV (sig C X) L' η' w' x v /\ RelT C (sig C X) N env' L' η' w' a /\ (∃ bad, Fwd L η w L' η' w' bad /\ ∀ o, bad o = true -> isRow L o = true) /\ Kept η w w' tl
theorem res_same (hr : RelT C (sig C X) N env L η w a) {k : K1 K} {tl : List Nat} {s : Sem Value} (h : Gives (sig C X) L η w C.P s fun y => k y env L) : ∃ v w', s.run C.P w = .ok v w' /\ Res C X N L η w a tl k v w' := by
 obtain ⟨v, x, h1, h2, h3⟩ := h
 exact ⟨v, w, h1 w, x, env, L, η, h2, h3, hr, ⟨noBad, Fwd.refl _ _ _ _, fun o h => by cases h⟩, .same⟩
theorem res_mk {L' : Heap K} {η' : Eta} {w' : World} {v : Value} {x : PV} {tl : List Nat} (hr : RelT C (sig C X) N env L η w a) {k : K1 K} (hkp : Kept η w w' tl) (hk : k x env L') (hf : Fwd L η w L' η' w' noBad) (hh : HeapRel (sig C X) L' η' w')
 (hx : RepV (sig C X) L' η' w' x v) : Res C X N L η w a tl k v w' :=
 ⟨x, env, L', η', hk, hx, hr.step0 hf hh, ⟨noBad, hf, fun o h => by cases h⟩, hkp⟩
theorem Fwd.trans0 {L L1 L2 : Heap K} {η η1 η2 : Eta} {w w1 w2 : World} (h : Fwd L η w L1 η1 w1 noBad) (k : Fwd L1 η1 w1 L2 η2 w2 noBad) : Fwd L η w L2 η2 w2 noBad :=
 h.trans k fun _ _ _ => ⟨rfl, rfl⟩
theorem isNil_eq {v : Value} (h : isNilSlice v = true) : v = .slice none 0 0 := by
 unfold isNilSlice at h
 split at h
 ·rfl
 ·cases h
theorem rep_own_nil {G : Sig} {L : Heap K} {η : Eta} {w : World} {o : Nat} {e : TypeId} (ho : L[o]? = some (.row e [])) : Rep G L η w (.own o) [.slice none 0 0] := by
 refine ⟨?_, ⟨_, rfl, rfl⟩, ?_⟩
 ·exact (List.getElem?_eq_some_iff.1 ho).1
 ·intro e' xs h
  rw [ho] at h; cases h
  exact ⟨none, 0, rfl, Nat.le_refl _, .inl rfl⟩
theorem denil_ok {G : Sig} : ∀ (nils : List (Nat × TypeId)) (cs : List PV) (L : Heap K) (η : Eta) (cells : List Value) (k : List PV -> Heap K -> Prop), HeapRel G L η w -> Rep.go G L η w cs cells -> denil C nils cs L k ->
 ∃ cs' L' η', k cs' L' /\ HeapRel G L' η' w /\ Fwd L η w L' η' w noBad /\ Rep.go G L' η' w cs' cells
 | [], cs, L, η, cells, k, hh, hr, h => ⟨cs, L, η, h, hh, Fwd.refl _ _ _ _, hr⟩
 | (j, e) :: r, cs, L, η, cells, k, hh, hr, h => by
  simp only [denil] at h
  split at h
  ·rename_i v hv
   split at h
   ·rename_i hn _
    obtain rfl := isNil_eq hn
    obtain ⟨f1, h1⟩ := push_nil hh e
    obtain ⟨u, g1, g2, g3, g4⟩ := Rep.go_get hr j _ hv
    obtain ⟨g4, _⟩ := g4
    simp at g4; subst g4
    have hr1 := Rep.go_set (f1.rep_go hh hr) j (.own L.length) (.slice none 0 0) rfl rfl (rep_own_nil (e := e) (by simp))
    have hs : cells.set j (.slice none 0 0) = cells := by
     apply List.ext_getElem?
     intro i
     rw [List.getElem?_set]
     split
     ·rename_i hij; subst hij
      split
      ·exact g1.symm
      ·rename_i hlt; rw [List.getElem?_eq_none (by omega)] at g1; cases g1
     ·rfl
    rw [hs] at hr1
    obtain ⟨cs', L', η', q1, q2, q3, q4⟩ := denil_ok r _ _ _ cells k h1 hr1 h
    exact ⟨cs', L', η', q1, q2, f1.trans0 q3, q4⟩
   ·exact h.elim
   ·exact denil_ok r cs L η cells k hh hr h
  ·exact denil_ok r cs L η cells k hh hr h
theorem evAlloc_ok (hc : CfgOk C) (hr : RelT C (sig C X) N env L η w a) {t : TypeId} {k : K1 K} (h : evAlloc C t env L k) :
 ∃ v w', (Instr.alloc t true (.tuple #[])).run C.P w = .ok v w' /\ Res C X N L η w a [] k v w' := by
 simp only [evAlloc] at h
 split at h
 ·rename_i i hi
  obtain ⟨inf, i1, i2, i3, z, i4, i5, i6⟩ := (hc.ty t i hi).info
  obtain ⟨cs', L', η', q1, q2, q3, q4⟩ := denil_ok i.nils i.zero L η z.cells.toList _ hr.heap (i6 _ _ _ _) h
  obtain ⟨f2, h2⟩ := push_box q2 cs' z.cells.toList t q4
  refine ⟨.pointer (some ⟨w.heap.size, 0, none⟩), w.alloc (.cells z.cells t), ?_, res_mk hr .alloc q1 (q3.trans0 f2) h2 (repV_mk rfl rfl ⟨by simp, ⟨_, rfl, rfl⟩, ?_⟩)⟩
  ·simp [Instr.alloc, run_zeroValue' i1 i4, Result.andThen, newVar, newRow]
  ·intro cs hL
   exact ⟨w.heap.size, upd_same _ _ _, rfl⟩
 ·exact h.elim
theorem evBox_ok (hc : CfgOk C) (hr : RelT C (sig C X) N env L η w a) {t : TypeId} {x : PV} {u : Value} (hx : RepV (sig C X) L η w x u) {k : K1 K} (h : evBox C t x env L k) :
 ∃ v w', (Instr.box t u).run C.P w = .ok v w' /\ Res C X N L η w a [] k v w' := by
 simp only [evBox] at h
 split at h
 ·rename_i i hi hs
  obtain ⟨cs', L', η', q1, q2, q3, q4⟩ := denil_ok i.nils x.cells L η u.cells.toList _ hr.heap (Rep.cells hx hs) h
  obtain ⟨f2, h2⟩ := push_box q2 cs' u.cells.toList t q4
  refine ⟨.pointer (some ⟨w.heap.size, 0, none⟩), w.alloc (.cells u.cells t), ?_, res_mk hr .alloc q1 (q3.trans0 f2) h2 (repV_mk rfl rfl ⟨by simp, ⟨_, rfl, rfl⟩, ?_⟩)⟩
  ·simp [Instr.box, newVar, newRow, Result.andThen]
  ·intro cs hL
   exact ⟨w.heap.size, upd_same _ _ _, rfl⟩
 ·exact h.elim
theorem run_storeCellsF {P : Program} (b off : Nat) (t : TypeId) (fr : Nat × Nat) : ∀ (vs : List Value) (i : Nat) (w : World) (cells : List Value), w.heap[b]? = some (.cells ⟨cells⟩ t fr) -> FreeR fr ⟨cells⟩ -> off + i + vs.length <= cells.length ->
 (∀ v, v ∈ vs -> v.oneCell' = true) -> ∃ w', (storeCells ⟨b, off, none⟩ vs i).run P w = .ok () w' /\ Rew w w' b ⟨cells⟩ ⟨setV cells (off + i) vs⟩ t fr
 | [], i, w, cells, hb, _, _, _ => ⟨w, by simp [storeCells], ⟨rfl, .refl _, rfl, rfl, fun _ _ => rfl, hb, hb, rfl⟩⟩
 | v :: vs, i, w, cells, hb, hF, hlen, hone => by
  have hlen' : off + i + (vs.length + 1) <= cells.length := by simpa using hlen
  have hcell : w.cell? ⟨b, off + i, none⟩ = cells[off + i]? := by rw [cell_of_blk hb]; simp
  have hsome : cells[off + i]? = some cells[off + i] := List.getElem?_eq_getElem (by omega)
  have hfr : w.frozen? ⟨b, off + i, none⟩ = false := by
   have := hF (off + i) (by simp; omega)
   simp only [World.frozen?, hb]
   rw [Bool.and_eq_false_iff, decide_eq_false_iff_not, decide_eq_false_iff_not]
   omega
  have hb1 : (w.setCell ⟨b, off + i, none⟩ v).heap[b]? = some (.cells ⟨cells.set (off + i) v⟩ t fr) := by
   simp [World.setCell, Array.getElem?_modify, hb]
  obtain ⟨w', h1, h2⟩ := run_storeCellsF b off t fr vs (i + 1) (w.setCell ⟨b, off + i, none⟩ v) (cells.set (off + i) v) hb1 (hF.size (by simp)) (by simp; omega) (fun u hu => hone u (List.mem_cons_of_mem _ hu))
  refine ⟨w', ?_, ⟨h2.os, h2.tape, h2.output, by rw [h2.size]; simp [World.setCell], ?_, hb, h2.now, by simp [setV_length]⟩⟩
  ·simp only [storeCells, Sem.run_bind, add_plain', run_store _ _ _ _ _ (hone v List.mem_cons_self), hcell, hsome, hfr, Result.andThen, Bool.false_eq_true, if_false]
   exact h1
  ·intro j hj
   rw [h2.keep j hj]
   exact Go.RowKit.Below.heap_setCell _ _ _ _ hj
theorem run_storeCells' {P : Program} (b off : Nat) (t : TypeId) (vs : List Value) (i : Nat) (w : World) (cells : List Value) (hb : w.heap[b]? = some (.cells ⟨cells⟩ t (0, 0))) (hl : off + i + vs.length <= cells.length)
 (ho : ∀ v, v ∈ vs -> v.oneCell' = true) : ∃ w', (storeCells ⟨b, off, none⟩ vs i).run P w = .ok () w' /\ Rew w w' b ⟨cells⟩ ⟨setV cells (off + i) vs⟩ t := run_storeCellsF b off t (0, 0) vs i w cells hb (FreeR.zero _) hl ho
theorem Rep.go_one {G : Sig} {L : Heap K} {η : Eta} {w : World} : ∀ {cs : List PV} {l : List Value}, Rep.go G L η w cs l -> ∀ v, v ∈ l -> v.oneCell' = true
 | [], l, h, v, hv => by simp only [Rep.go] at h; subst h; simp at hv
 | x :: cs, l, h, v, hv => by
  obtain ⟨u, r, rfl, ha, _, h⟩ := h
  rcases List.mem_cons.1 hv with rfl | hv
  ·exact ha.2
  ·exact Rep.go_one h v hv
theorem set_noBad (L : Heap K) (o : Nat) (x : AObj K) : (renL (butB noBad) L).set o x = L.set o x := by rw [butB_noBad, renL_some]
theorem rew_res (hr : RelT C (sig C X) N env L η w a) {w' : World} {b : Nat} {cells cells' : Array Value} {t : TypeId} {fr : Nat × Nat} (hw : Rew w w' b cells cells' t fr) {o : Nat} {x x' : AObj K} (ho : L[o]? = some x)
 (hl : x.live = true) (hη : η o = some b) (hk : kindOk noBad o x x') (hx : Fwd L η w (L.set o x') η w' noBad -> ObjRel (sig C X) (L.set o x') η w' o x') {k : K1 K} (h : k (.tup []) env (L.set o x')) :
 Res C X N L η w a [o] k undef w' := by
 have hf := set_fwd (bad := noBad) hw ho hl hη hk
 rw [set_noBad] at hf
 have hh := set_heap (bad := noBad) hr.heap hw ho hl hη hk (by rw [set_noBad]; exact hx hf)
 rw [set_noBad] at hh
 exact res_mk hr (fun i _ hi => hw.keep i fun e => hi o (by simp) (e ▸ hη)) h hf hh (.inr ⟨rfl, ⟨[], rfl, rfl⟩⟩)
theorem rep_cells_length {G : Sig} {x : PV} {v : Value} (hx : RepV G L η w x v) (hs : x.stor = true) : v.cells.size = x.cells.length := by
 have := Rep.go_length (Rep.cells hx hs)
 simpa using this
theorem setV_get : ∀ (us l : List Value) (off p : Nat), off + us.length <= l.length -> (setV l off us)[p]? = if off <= p /\ p < off + us.length then us[p - off]? else l[p]?
 | [], l, off, p, _ => by simp [setV]; omega
 | u :: us, l, off, p, h => by
  simp only [List.length_cons] at h ⊢
  rw [setV, setV_get us (l.set off u) (off + 1) p (by simp; omega), List.getElem?_set]
  by_cases h1 : p < off
  ·rw [if_neg (by omega), if_neg (by omega), if_neg (by omega)]
  ·by_cases h2 : p = off
   ·subst h2; rw [if_neg (by omega), if_pos rfl, if_pos (by omega), if_pos (by omega)]; simp
   ·by_cases h3 : p < off + 1 + us.length
    ·rw [if_pos (by omega), if_pos (by omega)]
     rw [show p - off = (p - (off + 1)) + 1 by omega]; rfl
    ·rw [if_neg (by omega), if_neg (by omega), if_neg (by omega)]
theorem keep1_ok {G : Sig} (old y : PV) (v : Value) (hy : Rep G L η w y [v]) : Rep G L η w (keep1 L old y) [v] /\ (keep1 L old y).isAgg = y.isAgg := by
 unfold keep1
 split
 ·rename_i u o
  split
  ·rename_i hn
   obtain rfl := isNil_eq hn
   split
   ·rename_i e hL
    obtain ⟨hy, _⟩ := hy
    simp at hy; subst hy
    exact ⟨rep_own_nil hL, rfl⟩
   ·exact ⟨hy, rfl⟩
  ·exact ⟨hy, rfl⟩
 ·exact ⟨hy, rfl⟩
theorem keepNil_ok {G : Sig} : ∀ (old ys : List PV) (vs : List Value), Rep.go G L η w ys vs -> Rep.go G L η w (keepNil L old ys) vs
 | old :: r, y :: ys, vs, h => by
  obtain ⟨v, m, rfl, h0, h1, h2⟩ := h
  obtain ⟨k1, k2⟩ := keep1_ok old y v h1
  exact ⟨v, m, rfl, ⟨by rw [k2]; exact h0.1, h0.2⟩, k1, keepNil_ok r ys m h2⟩
 | [], ys, vs, h => by unfold keepNil; exact h
 | _ :: _, [], vs, h => by unfold keepNil; exact h
theorem evStore_ok (hc : CfgOk C) (hr : RelT C (sig C X) N env L η w a) {t : TypeId} {p y : PV} {v u : Value} (hp : RepV (sig C X) L η w p v) (hy : RepV (sig C X) L η w y u) {k : K1 K} (h : evStore C t p y env L k) :
 ∃ w', (Instr.storeAt t v u).run C.P w = .ok () w' /\ Res C X N L η w a (tlOf p) k undef w' := by
 simp only [evStore] at h
 split at h
 ·rename_i i o off hi hs
  have hsz := (hc.ty t i hi).size w
  split at h
  ·rename_i cs hL
   obtain ⟨h12, hk⟩ := chk_iff h
   simp only [Bool.and_eq_true] at h12
   have h1 := Nat.eq_of_beq_eq_true h12.1
   have h2 := Nat.le_of_ble_eq_true h12.2
   obtain ⟨_, hq⟩ := repV_one hp (by simp) rfl
   obtain ⟨hlt, _, hq⟩ := hq
   obtain ⟨b, hη, hv⟩ := hq cs hL
   clear hq
   simp at hv; subst hv
   obtain ⟨b', t', cells, g1, g2, g3⟩ := hr.heap.obj o _ hL
   rw [hη] at g1; cases g1
   have hlen := Rep.go_length g3
   have hul := rep_cells_length hy hs
   obtain ⟨w', e1, e2⟩ := run_storeCells' (P := C.P) b off t' u.cells.toList 0 w cells g2 (by simp [hul]; omega) (fun v hv => Rep.go_one (Rep.cells hy hs) v hv)
   refine ⟨w', ?_, rew_res (x' := .box (setCells cs off (keepNil L (cs.drop off) y.cells))) hr e2 hL rfl hη trivial ?_ hk⟩
   ·have : ¬ (u.cells.size ≠ i.size) := by rw [hul, h1]; simp
    simp only [Instr.storeAt, Instr.sureAddr, Sem.run_bind, Sem.run_pure, Result.andThen, storeVar, hsz, this, if_false]
    exact e1
   ·intro hf
    refine ⟨b, t', _, hη, e2.now, ?_⟩
    exact hf.rep_go hr.heap (Rep.go_setCells _ _ _ _ _ (keepNil_ok _ _ _ (Rep.cells hy hs)) g3)
  ·exact h.elim
 ·rename_i i o n off hi hs
  have hsz := (hc.ty t i hi).size w
  split at h
  ·rename_i e xs hL
   obtain ⟨h1, h⟩ := chk_iff h
   have h1 := Nat.eq_of_beq_eq_true h1
   obtain ⟨_, hq⟩ := repV_one hp (by simp) rfl
   obtain ⟨hlt, _, hq⟩ := hq
   obtain ⟨n0, n1, b, hη, hv⟩ := hq e xs hL
   clear hq
   simp at hv; subst hv
   have hnlt : n.toNat < xs.length := by omega
   have hz := List.getElem?_eq_getElem hnlt
   obtain ⟨h2, h⟩ := chk_iff (h _ hz)
   have h2 := Nat.le_of_ble_eq_true h2
   obtain ⟨z', hdec, h⟩ := h
   ·obtain ⟨_, q⟩ | ⟨b', cells, fr0, hfr0, g1, g2, g3, g4, g5⟩ := hr.heap.obj o _ hL
    ·rw [hη] at q; cases q
    rw [hη] at g1; cases g1
    have hul := rep_cells_length hy hs
    obtain ⟨vs, v1, v2, v3⟩ := g5 _ _ hz
    have hvl := v2.length
    have hsz0 : (sig C X).sz e = vs.length := v1.symm
    have hrow : (n.toNat + 1) * (sig C X).sz e <= cells.size := Nat.le_trans (Nat.mul_le_mul_right _ hnlt) g4
    have hrow' : n.toNat * (sig C X).sz e + (sig C X).sz e <= cells.size := by rw [Nat.add_mul, Nat.one_mul] at hrow; exact hrow
    obtain ⟨w', e1, e2⟩ := run_storeCellsF (P := C.P) b (n.toNat * (sig C X).sz e + off) e fr0 u.cells.toList 0 w cells.toList (by simpa using g2) (hfr0.size (by simp)) (by simp [hul]; omega) (fun v hv => Rep.go_one (Rep.cells hy hs) v hv)
    refine ⟨w', ?_, rew_res (x' := .row e (xs.set n.toNat z')) hr e2 hL rfl hη ⟨rfl, .inr (by simp)⟩ ?_ h⟩
    ·have : ¬ (u.cells.size ≠ i.size) := by rw [hul, h1]; simp
     simp only [Instr.storeAt, Instr.sureAddr, Sem.run_bind, Sem.run_pure, Result.andThen, storeVar, hsz, this, if_false]
     exact e1
    ·intro hf
     have hus : u.cells.toList.length = i.size := by simpa [hul] using h1
     have hcl : cells.toList.length = cells.size := Array.length_toList
     have hrepz : ∀ zz : (K e).α, (K e).enc zz = (match (K e).enc xs[n.toNat] with | .agg cs => .agg (setCells cs off y.cells) | _ => cond y.isAgg .junk y) ->
      ∃ us' : List Value, us'.length = vs.length /\ RepF (sig C X).I (Mx (sig C X) L η) w ((K e).enc zz) us' /\
      ∀ j, j < vs.length -> (setV cells.toList (n.toNat * (sig C X).sz e + off) u.cells.toList)[n.toNat * (sig C X).sz e + j]? = us'[j]? := by
      intro zz hz'
      have hpure := (K e).ok zz
      have hyr := Rep.cells hy hs
      clear hdec h
      cases henc : (K e).enc xs[n.toNat] with
      | agg cs0 =>
       rw [henc] at hz' v2 h2
       simp only at hz'
       have hv0 : Rep.go (sig C X) L η w cs0 vs := Rep.ofF_go _ _ v2
       have h3 := Rep.go_setCells y.cells u.cells.toList cs0 vs off hyr hv0
       refine ⟨setV vs off u.cells.toList, setV_length _ _ _, ?_, ?_⟩
       ·rw [hz'] at hpure ⊢
        exact Rep.toF (.agg _) _ hpure h3
       ·intro j hj
        have h4 : off + u.cells.toList.length <= vs.length := by rw [hus, hvl, henc]; exact h2
        rw [setV_get _ _ _ _ (by omega), setV_get _ _ _ _ h4]
        by_cases hjo : off <= j /\ j < off + u.cells.toList.length
        ·rw [if_pos (by omega), if_pos hjo]; congr 1; omega
        ·rw [if_neg (by omega), if_neg hjo]
         have := v3 j vs[j] (List.getElem?_eq_getElem hj)
         rw [Array.getElem?_toList, this, List.getElem?_eq_getElem hj]
      | _ =>
       rw [henc] at hz' v2 h2
       simp only at hz'
       have hya : y.isAgg = false := by
        cases hq : y.isAgg with
        | false => rfl
        | true => rw [hq] at hz'; rw [hz'] at hpure; simp [PV.pure] at hpure
       rw [hya] at hz'
       simp only [cond_false] at hz'
       have hyc : y.cells = [y] := by cases y <;> first | rfl | simp [PV.isAgg] at hya
       have hvl1 : vs.length = 1 := by rw [v2.length]; rfl
       have hi1 : i.size = 1 := by rw [<- h1, hyc]; rfl
       have hoff : off = 0 := by simp [PV.cells] at h2; omega
       subst hoff
       rw [hyc] at hyr
       obtain ⟨u0, r0, hu0, _, hy0, hr0⟩ := hyr
       simp only [Rep.go] at hr0
       subst hr0
       refine ⟨[u0], by rw [hvl1]; rfl, ?_, ?_⟩
       ·rw [hz'] at hpure ⊢
        exact Rep.toF y _ hpure hy0
       ·intro j hj
        have : j = 0 := by omega
        subst this
        rw [setV_get _ _ _ _ (by omega), if_pos (by rw [hus]; omega), hu0]
        simp
     obtain ⟨us', u1, u2, u3⟩ := hrepz z' hdec
     have s0 := g3
     refine .inr ⟨b, _, fr0, hfr0.size (by simp [setV_length]), hη, e2.now, g3, by simp [setV_length]; exact g4, ?_⟩
     intro p x hp
     rw [List.getElem?_set] at hp
     split at hp
     ·rename_i hpn
      subst hpn
      obtain rfl := Option.some.inj hp
      refine ⟨us', by rw [u1, v1], hf.repF hr.heap u2, ?_⟩
      intro j v hj
      have hjl : j < vs.length := by rw [<- u1]; exact (List.getElem?_eq_some_iff.1 hj).1
      have := u3 j hjl
      rw [List.getElem?_toArray, Nat.add_zero, this]; exact hj
     ·rename_i hpn
      obtain ⟨cs1, c1, c2, c3⟩ := g5 p x hp
      refine ⟨cs1, c1, hf.repF hr.heap c2, ?_⟩
      intro j v hj
      have hjl : j < (sig C X).sz e := by rw [<- c1]; exact (List.getElem?_eq_some_iff.1 hj).1
      rw [List.getElem?_toArray, Nat.add_zero, setV_get _ _ _ _ (by omega)]
      rw [if_neg]
      ·rw [Array.getElem?_toList]; exact c3 j v hj
      ·rw [hus]
       rcases Nat.lt_or_gt_of_ne hpn with hlt | hgt
       ·have := Nat.mul_le_mul_right ((sig C X).sz e) (show n.toNat + 1 <= p from hlt)
        rw [Nat.add_mul, Nat.one_mul] at this
        rw [hsz0, hvl] at this hjl ⊢
        omega
       ·have := Nat.mul_le_mul_right ((sig C X).sz e) (show p + 1 <= n.toNat from hgt)
        rw [Nat.add_mul, Nat.one_mul] at this
        omega
  ·exact h.elim
 ·exact h.elim
end Go.Ab
namespace Go.Ab
open Go
variable [DMode] {K : Codes} {C : Cfg K} {X : Nat -> Prop} {N : Nat} {env : List PV} {L : Heap K} {η : Eta} {w : World} {a : Act}
def Off (G : Sig) (L : Heap K) (η : Eta) (ids : List Nat) (M : Nat -> Prop) : Prop := ∀ b, M b -> Mx G L η b /\ ∀ o x, o ∈ ids -> L[o]? = some x -> x.live = true -> η o ≠ some b
theorem Off.left {G : Sig} {ids ids' : List Nat} {M : Nat -> Prop} (h : Off G L η (ids ++ ids') M) : Off G L η ids M := fun b hb => ⟨(h b hb).1, fun o x ho => (h b hb).2 o x (List.mem_append_left _ ho)⟩
theorem Off.right {G : Sig} {ids ids' : List Nat} {M : Nat -> Prop} (h : Off G L η (ids ++ ids') M) : Off G L η ids' M := fun b hb => ⟨(h b hb).1, fun o x ho => (h b hb).2 o x (List.mem_append_right _ ho)⟩
theorem Off.tail {G : Sig} {o : Nat} {ids : List Nat} {M : Nat -> Prop} (h : Off G L η (o :: ids) M) : Off G L η ids M := fun b hb => ⟨(h b hb).1, fun p x hp => (h b hb).2 p x (List.mem_cons_of_mem _ hp)⟩
theorem Off.mono {G : Sig} {ids : List Nat} {M : Nat -> Prop} (h : Off G L η ids M) : ∀ b o, ¬ Mx G L η b -> w.heap[b]? = some o -> ¬ M b /\ w.heap[b]? = some o :=
 fun b _ hm hb => ⟨fun q => hm (h b q).1, hb⟩
theorem solid_agg : ∀ (n : Nat) (x y : PV), solid C L n x = some y -> y.isAgg = x.isAgg := by
 intro n
 cases n with
 | zero => intro x y h; simp [solid] at h
 | succ n =>
  intro x y h
  cases x with
  | iface t x =>
   unfold solid at h
   dsimp only at h
   repeat' split at h
   all_goals first
    | (cases h; rfl)
    | (obtain ⟨z, _, rfl⟩ := Option.map_eq_some_iff.1 h; rfl)
    | cases h
  | _ =>
   simp only [solid] at h
   repeat' split at h
   all_goals first
    | (cases h; rfl)
    | (obtain ⟨z, _, rfl⟩ := Option.map_eq_some_iff.1 h; rfl)
    | cases h
theorem solid_ok (hh : HeapRel (sig C X) L η w) {M : Nat -> Prop} : ∀ (n : Nat),
 (∀ (x : PV) (l : List Value) (y : PV), solid C L n x = some y -> Rep (sig C X) L η w x l -> Off (sig C X) L η (reach L n x) M -> RepF C.I M w y l) /\
 (∀ (xs : List PV) (l : List Value) (ys : List PV), solid.goS C L n xs = some ys -> Rep.go (sig C X) L η w xs l -> Off (sig C X) L η (reach.goR L n xs) M -> RepF.go C.I M w ys l) := by
 intro n
 induction n with
 | zero =>
  refine ⟨fun x l y h _ _ => by simp [solid] at h, ?_⟩
  intro xs
  cases xs with
  | nil => intro l ys h hr _; simp [solid.goS, goO] at h; subst h; exact hr
  | cons x xs => intro l ys h; simp [solid.goS, goO, solid] at h
 | succ n ih =>
  have single : ∀ (x : PV) (l : List Value) (y : PV), solid C L (n + 1) x = some y -> Rep (sig C X) L η w x l -> Off (sig C X) L η (reach L (n + 1) x) M -> RepF C.I M w y l := by
   intro x l y h hr ho
   have blk : ∀ o b z, o ∈ reach L (n + 1) x -> L[o]? = some z -> z.live = true -> η o = some b -> ¬ M b := fun o b z h1 h4 h5 h2 h3 => (ho b h3).2 o z h1 h4 h5 h2
   cases x with
   | junk => simp [solid] at h
   | tup _ => simp [solid] at h
   | oel _ _ _ => simp [solid] at h
   | fsl _ => simp [solid] at h
   | fel _ => simp [solid] at h
   | mref _ => simp [solid] at h
   | bool _ => simp [solid] at h; subst h; exact hr
   | int _ _ => simp [solid] at h; subst h; exact hr
   | str _ => simp [solid] at h; subst h; exact hr
   | raw _ => simp [solid] at h; subst h; exact hr
   | sl _ _ _ => simp [solid] at h; subst h; exact RepF.mono ho.mono _ _ hr
   | el _ _ => simp [solid] at h; subst h; exact RepF.mono ho.mono _ _ hr
   | err _ => simp [solid] at h; subst h; exact RepF.mono ho.mono _ _ hr
   | own o =>
    simp only [solid] at h
    split at h
    ·rename_i e xs hL
     cases h
     obtain ⟨_, _, hr⟩ := hr
     obtain ⟨A, cap, rfl, hcap, hq⟩ := hr e xs hL
     refine ⟨A, cap, rfl, hcap, ?_⟩
     rcases hh.obj o _ hL with ⟨q, _⟩ | ⟨b, cells, fr0, hfr0, g1, g2, g3, g4, g5⟩
     ·exact .inl q
     ·rcases hq with hq | ⟨b', cells', t', fr', e1, e2, e3, e4⟩
      ·left; cases xs with
       | nil => rfl
       | cons _ _ => simp at hcap; omega
      ·right
       rw [g1] at e1; cases e1
       refine ⟨b, 0, C.P.cellsOf e, cells, e, fr0, e2, g3, blk o b _ (by simp [reach]) hL rfl g1, g2, ?_⟩
       intro i x hi
       obtain ⟨cs, c1, c2, c3⟩ := g5 i x hi
       exact ⟨cs, c1, RepF.mono ho.mono _ _ c2, fun j v hj => by rw [Nat.zero_add]; exact c3 j v hj⟩
    ·cases h
   | ptr o off =>
    simp only [solid] at h
    split at h
    ·rename_i cs hL
     obtain ⟨cs', h1, rfl⟩ := Option.map_eq_some_iff.1 h
     obtain ⟨_, _, hr⟩ := hr
     obtain ⟨b, e1, rfl⟩ := hr cs hL
     obtain ⟨b', t', cells, g1, g2, g3⟩ := hh.obj o _ hL
     rw [e1] at g1; cases g1
     have hre : reach L (n + 1) (.ptr o off) = o :: reach.goR L n cs := by simp [reach, hL]
     rw [hre] at ho blk
     refine ⟨b, 0, ⟨cells⟩, t', (0, 0), cells, by simp, blk o b _ List.mem_cons_self hL rfl e1, g2, (ih.2 cs cells cs' h1 g3 ho.tail), fun j v hj => by simpa using hj⟩
    ·cases h
   | agg cs =>
    simp only [solid] at h
    obtain ⟨cs', h1, rfl⟩ := Option.map_eq_some_iff.1 h
    simp only [reach] at ho
    exact ih.2 cs l cs' h1 hr ho
   | fn f p q =>
    simp only [solid] at h
    split at h
    ·rename_i p' q' h1 h2
     cases h
     obtain ⟨fs, cs, rfl, r1, r2⟩ := hr
     simp only [reach] at ho
     exact ⟨fs, cs, rfl, ih.2 p fs p' h1 r1 ho.left, ih.2 q cs q' h2 r2 ho.right⟩
    ·cases h
   | iface t x =>
    obtain ⟨v, rfl, ha, hr⟩ := hr
    have gen : ∀ z, solid C L n x = some z -> reach L (n + 1) (.iface t x) = reach L n x -> RepF C.I M w (.iface t z) [.iface t v] := by
     intro z hz hre
     rw [hre] at ho
     exact ⟨v, rfl, by rw [solid_agg _ _ _ hz]; exact ha, ih.1 x _ z hz hr ho⟩
    have special : ∀ o, x = .ptr o 0 -> RepF C.I M w y [.iface t v] := by
     rintro o rfl
     simp only [solid] at h
     split at h
     ·rename_i cs hL
      split at h
      ·rename_i cs' h1
       have hre : reach L (n + 1) (.iface t (.ptr o 0)) = o :: reach.goR L n cs := by simp [reach, hL]
       rw [hre] at ho blk
       obtain ⟨_, _, hr⟩ := hr
       obtain ⟨b, e1, e2⟩ := hr cs hL
       obtain ⟨b', t', cells, g1, g2, g3⟩ := hh.obj o _ hL
       rw [e1] at g1; cases g1
       have hv : v = .pointer (some ⟨b, 0, none⟩) := by
        have hva : isAggV v = false := ha
        rw [cells_one hva] at e2
        simpa using e2
       have hM := blk o b _ List.mem_cons_self hL rfl e1
       have hF := ih.2 cs cells cs' h1 g3 ho.tail
       have key : ∀ (m : Int) (e : Err), cs' = [.int .i64 m, .err e] -> ∃ ve, cells = [.int .i64 m, ve] /\ RepErr C.I M w e ve := by
        rintro m e rfl
        obtain ⟨v1, r1, q1, _, q2, q3⟩ := hF
        obtain ⟨v2, r2, q4, _, q5, q6⟩ := q3
        simp only [RepF.go] at q6
        simp only [RepF] at q2
        obtain ⟨v3, q7, q8⟩ := q5
        simp at q2 q7
        subst q6 q4 q2 q7
        exact ⟨_, q1, q8⟩
       split at h
       ·rename_i m e hs
        cases h
        obtain ⟨ve, k1, k2⟩ := key m e rfl
        have ht : t = C.I.sec := by
         by_cases q : t = C.I.sec
         ·exact q
         ·rw [if_neg q] at hs; split at hs <;> cases hs
        subst ht
        exact ⟨_, rfl, b, ve, t', (0, 0), by rw [hv], hM, by rw [g2, k1], k2⟩
       ·rename_i m e hs
        cases h
        obtain ⟨ve, k1, k2⟩ := key m e rfl
        have ht : t = C.I.plc := by
         by_cases q : t = C.I.sec
         ·rw [if_pos q] at hs; cases hs
         ·rw [if_neg q] at hs
          by_cases q2 : t = C.I.plc
          ·exact q2
          ·rw [if_neg q2] at hs; cases hs
        subst ht
        exact ⟨_, rfl, b, ve, t', (0, 0), by rw [hv], hM, by rw [g2, k1], k2⟩
       ·cases h
        refine ⟨v, rfl, ha, ?_⟩
        rw [hv]
        exact ⟨b, 0, ⟨cells⟩, t', (0, 0), cells, by simp [Value.cells], hM, g2, hF, fun j v hj => by simpa using hj⟩
      ·cases h
     ·cases h
    cases x with
    | ptr o off =>
     cases off with
     | zero => exact special o rfl
     | succ off =>
      simp only [solid] at h
      obtain ⟨z, hz, rfl⟩ := Option.map_eq_some_iff.1 h
      exact gen z hz (by simp [reach])
    | _ =>
     simp only [solid] at h
     obtain ⟨z, hz, rfl⟩ := Option.map_eq_some_iff.1 h
     exact gen z hz (by simp [reach])
  refine ⟨single, ?_⟩
  intro xs
  induction xs with
  | nil => intro l ys h hr _; simp [solid.goS, goO] at h; subst h; exact hr
  | cons x xs ihx =>
   intro l ys h hr ho
   simp only [solid.goS, goO] at h
   split at h
   ·rename_i y ys' h1 h2
    cases h
    obtain ⟨v, r, rfl, ha, hx, hr⟩ := hr
    simp only [reach.goR, goA] at ho
    have hy := single x [v] y h1 hx ho.left
    exact ⟨v, r, rfl, ⟨by rw [solid_agg _ _ _ h1]; exact ha.1, ha.2⟩, hy, ihx r ys' h2 hr ho.right⟩
   ·cases h
theorem reach_leaf {L : Heap K} (n : Nat) {x : PV} (h : ∀ n, reach L (n + 1) x = []) : reach L n x = [] := by
 cases n with
 | zero => simp [reach]
 | succ n => exact h n
theorem goR_set {L : Heap K} (n : Nat) {y : PV} (hy : reach L n y = []) : ∀ (cs : List PV) (j : Nat) (x : PV), cs[j]? = some x -> reach L n x = [] -> reach.goR L n (cs.set j y) = reach.goR L n cs
 | [], j, x, h, _ => by simp at h
 | c :: cs, 0, x, h, hx => by simp at h; subst h; simp [reach.goR, goA, hx, hy]
 | c :: cs, j + 1, x, h, hx => by
  simp only [List.set_cons_succ, reach.goR, goA]
  exact congrArg (reach L n c ++ ·) (goR_set n hy cs j x (by simpa using h) hx)
theorem nilCells_ok {G : Sig} {L : Heap K} {η : Eta} {w : World} (n : Nat) : ∀ (nils : List (Nat × TypeId)) (cs : List PV) (cells : List Value), Rep.go G L η w cs cells ->
 Rep.go G L η w (nilCells (K := K) nils cs) cells /\ reach.goR L n (nilCells (K := K) nils cs) = reach.goR L n cs
 | [], cs, cells, h => ⟨h, rfl⟩
 | (j, e) :: r, cs, cells, h => by
  simp only [nilCells]
  split
  ·rename_i v hv
   split
   ·rename_i hn
    obtain rfl := isNil_eq hn
    obtain ⟨u, g1, g2, g3, g4⟩ := Rep.go_get h j _ hv
    obtain ⟨g4, _⟩ := g4
    simp at g4; subst g4
    have h1 := Rep.go_set h j (.sl (K e).α (K e).enc []) (.slice none 0 0) rfl rfl ⟨none, 0, rfl, Nat.le_refl _, .inl rfl⟩
    have hs : cells.set j (.slice none 0 0) = cells := by
     apply List.ext_getElem?
     intro i
     rw [List.getElem?_set]
     split
     ·rename_i hij; subst hij
      split
      ·exact g1.symm
      ·rename_i hlt; rw [List.getElem?_eq_none (by omega)] at g1; cases g1
     ·rfl
    rw [hs] at h1
    obtain ⟨q1, q2⟩ := nilCells_ok n r _ cells h1
    refine ⟨q1, q2.trans (goR_set n (reach_leaf n fun _ => by simp [reach]) cs j _ hv (reach_leaf n fun _ => by simp [reach]))⟩
   ·exact nilCells_ok n r cs cells h
  ·exact nilCells_ok n r cs cells h
theorem lend_ok (hh : HeapRel (sig C X) L η w) {M : Nat -> Prop} {t : TypeId} {x y : PV} {v : Value} (h : lend C L t x = some y) (hx : RepV (sig C X) L η w x v) (ho : Off (sig C X) L η (reach L depth x) M) :
 RepF C.I M w y v.cells.toList /\ isAggV v = y.isAgg := by
 have plain : ∀ x : PV, solid C L depth x = some y -> RepV (sig C X) L η w x v -> Off (sig C X) L η (reach L depth x) M -> RepF C.I M w y v.cells.toList /\ isAggV v = y.isAgg := by
  intro x h hx ho
  rcases hx with rfl | ⟨h1, h2⟩
  ·simp [solid, depth] at h
  ·exact ⟨(solid_ok hh depth).1 x _ y h h2 ho, by rw [solid_agg _ _ _ h]; exact h1⟩
 simp only [lend] at h
 split at h
 ·rename_i i cs hi
  obtain ⟨vs, rfl, hr⟩ := repV_agg hx
  obtain ⟨q1, q2⟩ := nilCells_ok (depth - 1) i.nils cs vs hr
  refine plain _ h (.inr ⟨rfl, q1⟩) ?_
  have : reach L depth (.agg (nilCells (K := K) i.nils cs)) = reach L depth (.agg cs) := by
   simp only [depth, reach] at q2 ⊢
   exact q2
  rw [this]; exact ho
 ·rename_i e u _ _
  split at h
  ·rename_i hn
   obtain rfl := isNil_eq hn
   obtain ⟨h1, h2⟩ := repV_one hx (by simp) rfl
   obtain ⟨h2, _⟩ := h2
   simp at h2; subst h2
   cases h
   exact ⟨⟨none, 0, rfl, Nat.le_refl _, .inl rfl⟩, rfl⟩
  ·exact plain _ (by cases h; simp [solid, depth]) hx ho
 ·exact plain _ h hx ho
def RepVs (G : Sig) (L : Heap K) (η : Eta) (w : World) : List PV -> List Value -> Prop
 | [], vs => vs = []
 | x :: xs, vs => ∃ v r, vs = v :: r /\ RepV G L η w x v /\ RepVs G L η w xs r
def RepFs (I : Ids) (M : Nat -> Prop) (w : World) : List PV -> List Value -> Prop
 | [], vs => vs = []
 | x :: xs, vs => ∃ v r, vs = v :: r /\ (RepF I M w x v.cells.toList /\ isAggV v = x.isAgg) /\ RepFs I M w xs r
theorem lendAll_ok (hh : HeapRel (sig C X) L η w) {M : Nat -> Prop} : ∀ (ts : List TypeId) (xs ys : List PV) (vs : List Value), lendAll C L ts xs = some ys -> RepVs (sig C X) L η w xs vs ->
 Off (sig C X) L η (xs.flatMap (reach L depth)) M -> RepFs C.I M w ys vs
 | ts, [], ys, vs, h, hx, _ => by simp [lendAll] at h; subst h; exact hx
 | ts, x :: xs, ys, vs, h, hx, ho => by
  simp only [lendAll] at h
  split at h
  ·rename_i y ys' h1 h2
   cases h
   obtain ⟨v, r, rfl, hv, hr⟩ := hx
   rw [List.flatMap_cons] at ho
   exact ⟨v, r, rfl, lend_ok hh h1 hv ho.left, lendAll_ok hh ts.tail xs ys' r h2 hr ho.right⟩
  ·cases h
theorem gone_get : ∀ (ids : List Nat) (L : Heap K) (o : Nat) (x : AObj K), (goneAll ids L)[o]? = some x -> x = .gone \/ (L[o]? = some x /\ o ∉ ids)
 | [], L, o, x, h => .inr ⟨h, by simp⟩
 | p :: ids, L, o, x, h => by
  rcases gone_get ids (L.set p .gone) o x h with h | ⟨h, hn⟩
  ·exact .inl h
  ·rw [List.getElem?_set] at h
   split at h
   ·rename_i hp
    split at h
    ·cases h; exact .inl rfl
    ·cases h
   ·rename_i hp
    exact .inr ⟨h, by simp only [List.mem_cons, not_or]; exact ⟨fun q => hp q.symm, hn⟩⟩
theorem gone_length : ∀ (ids : List Nat) (L : Heap K), (goneAll ids L).length = L.length
 | [], L => rfl
 | p :: ids, L => by rw [goneAll, gone_length]; simp
theorem gone_fwd (ids : List Nat) : Fwd L η w (goneAll ids L) η w noBad where
 os := rfl
 tape := .refl _
 output := rfl
 size := Nat.le_refl _
 keep := fun _ _ _ => rfl
 muts := by
  rintro b ⟨o, x, h1, h2, h3⟩
  rcases gone_get ids L o x h1 with rfl | ⟨h1, _⟩
  ·cases h2
  ·exact .inl ⟨o, x, h1, h2, h3⟩
 len := by rw [gone_length]; exact Nat.le_refl _
 box := by
  intro o cs' ho h
  rcases gone_get ids L o _ h with h | ⟨h, _⟩
  ·cases h
  ·exact ⟨cs', h, rfl⟩
 kind := by
  intro o e xs' ho h
  rcases gone_get ids L o _ h with h | ⟨h, _⟩
  ·cases h
  ·exact ⟨xs', h⟩
 row := by
  intro o e xs' ho _ h
  rcases gone_get ids L o _ h with h | ⟨h, _⟩
  ·cases h
  ·exact ⟨xs', h, rfl, rfl, fun b cells t fr _ hb => ⟨cells, t, fr, hb, rfl⟩⟩
 trk := fun _ _ _ h => .inl h
 mp := by
  intro o kd e f' ho h
  rcases gone_get ids L o _ h with h | ⟨h, _⟩
  ·cases h
  ·exact ⟨f', h, rfl⟩
theorem gone_heap {G : Sig} (hh : HeapRel G L η w) (ids : List Nat) : HeapRel G (goneAll ids L) η w := by
 have hm := (gone_fwd (L := L) (η := η) (w := w) ids).moves (C := G) (fun b hb => (hh.ext b hb).1)
 refine ⟨?_, ?_, ?_, ?_⟩
 ·intro o x h
  rcases gone_get ids L o x h with rfl | ⟨h, _⟩
  ·exact trivial
  ·have := (hh.obj o x h).mono hm (o' := o) rfl (fun _ _ => rfl)
   rw [butB_noBad, renO_some] at this
   exact this
 ·intro o o' x x' b h1 h2 h3 h4 h5 h6
  rcases gone_get ids L o x h1 with rfl | ⟨h1, _⟩
  ·cases h3
  rcases gone_get ids L o' x' h2 with rfl | ⟨h2, _⟩
  ·cases h4
  exact hh.inj o o' x x' b h1 h2 h3 h4 h5 h6
 ·intro b hb
  refine ⟨(hh.ext b hb).1, fun q => ?_⟩
  rcases (gone_fwd (L := L) (η := η) (w := w) ids).muts b q with q | q
  ·exact (hh.ext b hb).2 q
  ·exact absurd (hh.ext b hb).1 (by omega)
 ·intro o ho
  exact hh.none o (by rw [gone_length] at ho; exact ho)
theorem gone_off {G : Sig} (hh : HeapRel G L η w) (ids : List Nat) : Off G L η ids (Mx G (goneAll ids L) η) := by
 intro b hb
 rcases hb with ⟨o, x, h1, h2, h3⟩ | hb
 ·rcases gone_get ids L o x h1 with rfl | ⟨h1, hn⟩
  ·cases h2
  ·refine ⟨.inl ⟨o, x, h1, h2, h3⟩, ?_⟩
   intro o' x' ho' hx' hl' hη
   have := hh.inj o o' x x' b h1 hx' h2 hl' h3 hη
   subst this; exact hn ho'
 ·refine ⟨.inr hb, ?_⟩
  intro o' x' ho' hx' hl' hη
  exact (hh.ext b hb).2 ⟨o', x', hx', hl', hη⟩
end Go.Ab
