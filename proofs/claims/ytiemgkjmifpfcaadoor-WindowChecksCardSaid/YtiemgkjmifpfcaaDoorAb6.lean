import Derived.Test.YtiemgkjmifpfcaaDoorAb5
import Derived.Laws.Entries
set_option linter.unusedVariables false
set_option linter.unusedSimpArgs false
namespace Go.Ab
open Go
variable {K : Codes}

def TD.isAgg : TD → Bool | .struct _ | .array _ _ => true | _ => false
def notAggD : TypeDesc → Bool | .struct _ | .array _ _ => false | _ => true

def TDok (C : Cfg K) (t : TypeId) : TD → Prop
  | .bool => C.P.underlying t = some .bool
  | .int k => C.P.underlying t = some (.int k)
  | .str => C.P.underlying t = some .string
  | .slice e => C.P.underlying t = some (.slice e)
  | .struct fs => ∃ fields, C.P.underlying t = some (.struct fields) ∧ (fields.toList.mapM (fun f => (C.P.info? f.type).map fun i => (f.offset, i.size)) = some (fs.map fun p => (p.1, C.P.cellsOf p.2))) ∧ ∀ (i o ft : Nat), fs[i]? = some (o, ft) → ∃ f, fields[i]? = some f ∧ f.offset = o ∧ f.type = ft ∧ C.P.cellsOf ft ≠ 0
  | .array n e => C.P.underlying t = some (.array n e)
  | .ptr e => C.P.underlying t = some (.pointer e)
  | .iface => ∃ ms, C.P.underlying t = some (.interface ms)
  | .func => ∃ a b c, C.P.underlying t = some (.func a b c)
  | .other => ∃ d, C.P.underlying t = some d ∧ notAggD d = true

structure TyOk (C : Cfg K) (t : TypeId) (i : TInfo) : Prop where
  info : ∃ inf, C.P.info? t = some inf ∧ inf.size = i.size ∧ inf.bytes = i.bytes ∧ ∃ z, inf.zero = some z ∧ isAggV z = i.agg ∧ ∀ (G : Sig) (L : Heap K) η w, Rep.go G L η w i.zero z.cells.toList
  zlen : i.zero.length = i.size
  desc : TDok C t i.td
  agg : i.agg = i.td.isAgg

def Sc : PV → Value → Prop
  | .int k n, v => v = .int k n
  | .bool b, v => v = .bool b
  | .str s, v => v = .string s
  | _, _ => False

def ScL : List PV → List Value → Prop
  | [], vs => vs = []
  | x :: xs, vs => ∃ v r, vs = v :: r ∧ Sc x v ∧ ScL xs r

/-- Of a flat struct: equal just if its cells are. -/
def EqOk (C : Cfg K) (t : TypeId) (xs : List PV) : Prop :=
  C.P.eqGuardType C.P.depth t = false ∧ ∀ (ys : List PV) (us vs : List Value) (r : Bool) (w : World), eqCells xs ys = some r → ScL xs us → ScL ys vs →
    (Op.equal t (.agg ⟨us⟩) (.agg ⟨vs⟩)).run C.P w = .ok r w

structure CfgOk (C : Cfg K) : Prop where
  eqs : ∀ t xs, C.eqs t xs = true → EqOk C t xs
  ty : ∀ t i, C.ty t = some i → TyOk C t i
  cods : ∀ e i, C.cod e = true → C.ty e = some i → (K e).n = i.size
  meth : ∀ t name g, C.meth t name = some g → ∀ v w, (method (C.P.types.size + Made.depth) t v name).run C.P w = .ok (g, v) w

theorem CfgOk.codsz {C : Cfg K} (hc : CfgOk C) (e : TypeId) (i : TInfo) (h : C.cod e = true) (hi : C.ty e = some i) (y : (K e).α) : ((K e).enc y).cells.length = i.size :=
  ((K e).len y).trans (hc.cods e i h hi)

theorem run_typeInfo' {P : Program} {t : TypeId} {i : TypeInfo} (h : P.info? t = some i) (w : World) : (typeInfo t).run P w = .ok i w := by
  simp [typeInfo, h]
theorem run_sizeOf' {P : Program} {t : TypeId} {i : TypeInfo} (h : P.info? t = some i) (w : World) : (sizeOf t).run P w = .ok i.size w := by
  simp [sizeOf, run_typeInfo' h, Result.andThen]
theorem run_zeroValue' {P : Program} {t : TypeId} {i : TypeInfo} {z : Value} (h : P.info? t = some i) (hz : i.zero = some z) (w : World) : (zeroValue t).run P w = .ok z w := by
  simp [zeroValue, run_typeInfo' h, Result.andThen, hz]

theorem TyOk.und {C : Cfg K} {t : TypeId} {i : TInfo} (h : TyOk C t i) : ∃ d, C.P.underlying t = some d ∧ (notAggD d = !i.agg) := by
  have := h.desc
  rw [h.agg]
  cases htd : i.td <;> rw [htd] at this <;> simp only [TDok] at this
  case struct fs => obtain ⟨f, h1, _⟩ := this; exact ⟨_, h1, rfl⟩
  case iface => obtain ⟨f, h1⟩ := this; exact ⟨_, h1, rfl⟩
  case func => obtain ⟨a, b, c, h1⟩ := this; exact ⟨_, h1, rfl⟩
  case other => obtain ⟨d, h1, h2⟩ := this; exact ⟨d, h1, by rw [h2]; rfl⟩
  all_goals exact ⟨_, this, rfl⟩

theorem TyOk.isAgg {C : Cfg K} {t : TypeId} {i : TInfo} (h : TyOk C t i) (w : World) : (isAgg t).run C.P w = .ok i.agg w := by
  obtain ⟨d, h1, h2⟩ := h.und
  have : i.agg = !notAggD d := by rw [h2]; simp
  rw [this]
  simp only [Go.isAgg, Sem.run_bind, run_underlying h1, Result.andThen]
  cases d <;> rfl

theorem TyOk.size {C : Cfg K} {t : TypeId} {i : TInfo} (h : TyOk C t i) (w : World) : (sizeOf t).run C.P w = .ok i.size w := by
  obtain ⟨inf, h1, h2, _⟩ := h.info
  rw [run_sizeOf' h1, h2]
theorem TyOk.cellsOf {C : Cfg K} {t : TypeId} {i : TInfo} (h : TyOk C t i) : C.P.cellsOf t = i.size := by
  obtain ⟨inf, h1, h2, _⟩ := h.info
  simp [Program.cellsOf, h1, h2]

theorem add_plain' (b off n : Nat) : (⟨b, off, none⟩ : Addr).add n = ⟨b, off + n, none⟩ := by
  unfold Addr.add; split <;> simp_all

theorem repV_int {G : Sig} {L : Heap K} {η : Eta} {w : World} {kd : IntKind} {n : Int} {v : Value} (h : RepV G L η w (.int kd n) v) : v = .int kd n := by
  rcases h with h | ⟨_, h⟩
  · cases h
  · simp only [Rep] at h
    cases v <;> simp [Value.cells] at h <;> simp_all [isAggV, PV.isAgg]
theorem repV_bool {G : Sig} {L : Heap K} {η : Eta} {w : World} {n : Bool} {v : Value} (h : RepV G L η w (.bool n) v) : v = .bool n := by
  rcases h with h | ⟨_, h⟩
  · cases h
  · simp only [Rep] at h
    cases v <;> simp [Value.cells] at h <;> simp_all [isAggV, PV.isAgg]
theorem repV_str {G : Sig} {L : Heap K} {η : Eta} {w : World} {n : ByteArray} {v : Value} (h : RepV G L η w (.str n) v) : v = .string n := by
  rcases h with h | ⟨_, h⟩
  · cases h
  · simp only [Rep] at h
    cases v <;> simp [Value.cells] at h <;> simp_all [isAggV, PV.isAgg]

theorem notAgg_of_one {v : Value} (h : v.oneCell' = true) : isAggV v = false := by cases v <;> first | rfl | simp [Value.oneCell'] at h
theorem cells_one {v : Value} (h : isAggV v = false) : v.cells = #[v] := by
  cases v <;> first | rfl | simp [isAggV] at h
/-- A value that is no aggregate. -/
theorem repV_one {G : Sig} {L : Heap K} {η : Eta} {w : World} {x : PV} {v : Value} (h : RepV G L η w x v) (hj : x ≠ .junk) (ha : x.isAgg = false) : isAggV v = false ∧ Rep G L η w x [v] := by
  rcases h with h | ⟨h1, h2⟩
  · exact absurd h hj
  · rw [ha] at h1
    rw [cells_one h1] at h2
    exact ⟨h1, h2⟩
theorem repV_mk {G : Sig} {L : Heap K} {η : Eta} {w : World} {x : PV} {v : Value} (ha : x.isAgg = false) (hv : isAggV v = false) (h : Rep G L η w x [v]) : RepV G L η w x v :=
  .inr ⟨by rw [ha]; exact hv, by rw [cells_one hv]; exact h⟩
theorem repV_agg {G : Sig} {L : Heap K} {η : Eta} {w : World} {cs : List PV} {v : Value} (h : RepV G L η w (.agg cs) v) : ∃ vs, v = .agg ⟨vs⟩ ∧ Rep.go G L η w cs vs := by
  rcases h with h | ⟨h1, h2⟩
  · cases h
  · cases v <;> simp [isAggV, PV.isAgg] at h1
    rename_i c
    exact ⟨c.toList, rfl, h2⟩

/-- A variable of some type is read. -/
theorem load_ok {C : Cfg K} {G : Sig} {L : Heap K} {η : Eta} {w : World} (hc : CfgOk C) {t : TypeId} {i : TInfo} (hi : C.ty t = some i) {cs : List PV} {vs : List Value} (hr : Rep.go G L η w cs vs)
    {b base off : Nat} {blk : Option Obj} (hcell : ∀ w : World, w.heap[b]? = blk → ∀ (j : Nat) (v : Value), vs[j]? = some v → w.cell? ⟨b, base + j, none⟩ = some v) {k : PV → Prop} (h : evLoadCells i cs off k) :
    ∃ v x, (∀ w, w.heap[b]? = blk → (loadVar t ⟨b, base + off, none⟩).run C.P w = .ok v w) ∧ k x ∧ RepV G L η w x v := by
  have hty := hc.ty t i hi
  simp only [evLoadCells] at h
  cases ha : i.agg with
  | true =>
    rw [ha] at h
    obtain ⟨hlen, hk⟩ := chk_iff h
    have hlen := Nat.le_of_ble_eq_true hlen
    have hlv := Rep.go_length hr
    have hl : ((vs.drop off).take i.size).length = i.size := by simp; omega
    refine ⟨.agg ⟨(vs.drop off).take i.size⟩, _, fun w hw => ?_, hk, .inr ⟨rfl, Rep.go_take (Rep.go_drop hr off) _⟩⟩
    have hcell := hcell w hw
    simp only [loadVar, Sem.run_bind, hty.isAgg w, Result.andThen, ha, if_true, hty.size w]
    have := run_loadCells_list (P := C.P) w ⟨b, base + off, none⟩ ((vs.drop off).take i.size) (by
      intro j v hj
      rw [add_plain', Nat.add_assoc]
      rw [List.getElem?_take] at hj
      split at hj
      · rw [List.getElem?_drop] at hj; exact hcell _ _ hj
      · cases hj)
    rw [hl] at this
    simp [this]
  | false =>
    rw [ha] at h
    cases hx : cs[off]? with
    | none => rw [hx] at h; exact h.elim
    | some x =>
      rw [hx] at h
      obtain ⟨v, h1, h2, h3, h4⟩ := Rep.go_get hr off x hx
      refine ⟨v, x, fun w hw => ?_, h, repV_mk h2 (notAgg_of_one h3) h4⟩
      have hcell := hcell w hw
      simp only [loadVar, Sem.run_bind, hty.isAgg w, Result.andThen, ha, if_false, Bool.false_eq_true]
      simp [hcell _ _ h1]

theorem RepErr.one {I : Ids} {M : Nat → Prop} {w : World} : ∀ {e : Err} {v : Value}, RepErr I M w e v → v.oneCell' = true
  | .nil, _, h => by simp only [RepErr] at h; subst h; rfl
  | .cls _, _, h => by simp only [RepErr] at h; subst h; rfl
  | .sec _ _, _, h => by obtain ⟨_, _, _, _, rfl, _⟩ := h; rfl
  | .plc _ _, _, h => by obtain ⟨_, _, _, _, rfl, _⟩ := h; rfl

theorem RepF.one {I : Ids} {M : Nat → Prop} {w : World} {x : PV} {v : Value} (h : RepF I M w x [v]) (hx : x.isAgg = false) : v.oneCell' = true := by
  cases x with
  | agg cs => simp [PV.isAgg] at hx
  | bool _ => simp [RepF] at h; subst h; rfl
  | int _ _ => simp [RepF] at h; subst h; rfl
  | str _ => simp [RepF] at h; subst h; rfl
  | raw _ => obtain ⟨h, h2⟩ := h; simp at h; subst h; exact h2
  | sl _ _ _ => obtain ⟨_, _, h, _⟩ := h; simp at h; subst h; rfl
  | el _ _ => obtain ⟨_, _, _, _, _, _, h, _⟩ := h; simp at h; subst h; rfl
  | err _ => obtain ⟨_, h, h2⟩ := h; simp at h; subst h; exact h2.one
  | iface _ _ => obtain ⟨_, h, _⟩ := h; simp at h; subst h; rfl
  | fn _ _ _ => obtain ⟨_, _, h, _⟩ := h; simp at h; subst h; rfl
  | _ => exact h.elim

/-- The cells of a value that may lie in memory. -/
theorem Rep.cells {G : Sig} {L : Heap K} {η : Eta} {w : World} {x : PV} {v : Value} (h : RepV G L η w x v) (hj : x.stor = true) : Rep.go G L η w x.cells v.cells.toList := by
  rcases h with h | ⟨ha, h⟩
  · subst h; simp [PV.stor] at hj
  · cases x with
    | agg cs => exact h
    | junk => simp [PV.stor] at hj
    | tup _ => simp [PV.stor] at hj
    | own o => rw [cells_one ha] at h ⊢; refine ⟨v, [], rfl, ⟨rfl, ?_⟩, h, rfl⟩; obtain ⟨_, ⟨u, hu, h2⟩, _⟩ := h; simp at hu; subst hu; exact h2
    | ptr o off => rw [cells_one ha] at h ⊢; refine ⟨v, [], rfl, ⟨rfl, ?_⟩, h, rfl⟩; obtain ⟨_, ⟨u, hu, h2⟩, _⟩ := h; simp at hu; subst hu; exact h2
    | oel o i off => rw [cells_one ha] at h ⊢; refine ⟨v, [], rfl, ⟨rfl, ?_⟩, h, rfl⟩; obtain ⟨_, ⟨u, hu, h2⟩, _⟩ := h; simp at hu; subst hu; exact h2
    | iface t y => rw [cells_one ha] at h ⊢; refine ⟨v, [], rfl, ⟨rfl, ?_⟩, h, rfl⟩; obtain ⟨_, h, _⟩ := h; simp at h; subst h; rfl
    | fn f a b => rw [cells_one ha] at h ⊢; refine ⟨v, [], rfl, ⟨rfl, ?_⟩, h, rfl⟩; obtain ⟨_, _, h, _⟩ := h; simp at h; subst h; rfl
    | bool n => rw [cells_one ha] at h ⊢; refine ⟨v, [], rfl, ⟨rfl, ?_⟩, h, rfl⟩; simp [Rep] at h; subst h; rfl
    | int k n => rw [cells_one ha] at h ⊢; refine ⟨v, [], rfl, ⟨rfl, ?_⟩, h, rfl⟩; simp [Rep] at h; subst h; rfl
    | str n => rw [cells_one ha] at h ⊢; refine ⟨v, [], rfl, ⟨rfl, ?_⟩, h, rfl⟩; simp [Rep] at h; subst h; rfl
    | raw u => rw [cells_one ha] at h ⊢; refine ⟨v, [], rfl, ⟨rfl, ?_⟩, h, rfl⟩; obtain ⟨h, h2⟩ := h; simp at h; subst h; exact h2
    | sl α e l => rw [cells_one ha] at h ⊢; exact ⟨v, [], rfl, ⟨rfl, RepF.one h rfl⟩, h, rfl⟩
    | el y off => rw [cells_one ha] at h ⊢; exact ⟨v, [], rfl, ⟨rfl, RepF.one h rfl⟩, h, rfl⟩
    | err e => rw [cells_one ha] at h ⊢; exact ⟨v, [], rfl, ⟨rfl, RepF.one h rfl⟩, h, rfl⟩

/-- The cells that frozen memory has of a value. -/
theorem RepF.go_cells {I : Ids} {M : Nat → Prop} {w : World} {x : PV} {l : List Value} (h : RepF I M w x l) : RepF.go I M w x.cells l := by
  rcases h.cells with q | ⟨q1, q2⟩
  · exact q
  · have : x.cells = [x] := by cases x <;> first | rfl | simp [PV.isAgg] at q1
    rw [this]
    match l, q2 with
    | [v0], _ => exact ⟨v0, [], rfl, ⟨q1, h.one q1⟩, h, rfl⟩

theorem cell_of_blk {w : World} {b : Nat} {cells : Array Value} {t : TypeId} {fr : Nat × Nat} (h : w.heap[b]? = some (.cells cells t fr)) (j : Nat) : w.cell? ⟨b, j, none⟩ = cells[j]? := by
  simp [World.cell?, h]

/-- The block that a load reads. -/
def LoadBlk (G : Sig) (L : Heap K) (η : Eta) (p : PV) (b : Nat) : Prop :=
  match p with
  | .ptr o _ => (∃ cs, L[o]? = some (.box cs)) ∧ η o = some b
  | .oel o _ _ => (∃ e xs, L[o]? = some (.row e xs)) ∧ η o = some b
  | .el _ _ => ¬ Mx G L η b
  | _ => False

theorem evLoad_ok {C : Cfg K} {X : Nat → Prop} {L : Heap K} {η : Eta} {w : World} (hc : CfgOk C) (hh : HeapRel (sig C X) L η w) {t : TypeId} {p : PV} {v : Value} (hp : RepV (sig C X) L η w p v)
    {k : PV → Prop} (h : evLoad C t p L k) : ∃ u x b, (∀ w1, w1.heap[b]? = w.heap[b]? → (Instr.loadAt t v).run C.P w1 = .ok u w1) ∧ k x ∧ RepV (sig C X) L η w x u ∧ b < w.heap.size ∧ LoadBlk (sig C X) L η p b := by
  cases hi : C.ty t with
  | none => simp [evLoad, hi] at h
  | some i =>
    cases p with
    | ptr o off =>
      simp only [evLoad, hi] at h
      cases hL : L[o]? with
      | none => rw [hL] at h; exact h.elim
      | some y =>
        rw [hL] at h
        cases y with
        | box cs =>
          obtain ⟨_, hr⟩ := repV_one hp (by simp) rfl
          obtain ⟨_, _, hr⟩ := hr
          obtain ⟨b, h1, h2⟩ := hr cs hL
          simp at h2; subst h2
          obtain ⟨b', t', cells, g1, g2, g3⟩ := hh.obj o _ hL
          rw [h1] at g1; cases g1
          obtain ⟨u, x, e1, e2, e3⟩ := load_ok hc hi (base := 0) g3 (b := b) (blk := w.heap[b]?) (fun w1 hw j v hj => by rw [Nat.zero_add, cell_of_blk (hw.trans g2)]; simpa using hj) h
          simp only [Nat.zero_add] at e1
          exact ⟨u, x, b, fun w1 hw => by simp [Instr.loadAt, Instr.sureAddr, e1 w1 hw], e2, e3, blk_lt g2, ⟨_, hL⟩, h1⟩
        | row e xs => exact h.elim
        | gone => exact h.elim
    | el x off =>
      simp only [evLoad, hi] at h
      obtain ⟨_, hr⟩ := repV_one hp (by simp) rfl
      obtain ⟨b, base, cells, t', fr, vs, h1, h2, h3, h4, h5⟩ := hr
      simp at h1; subst h1
      have hgo : Rep.go (sig C X) L η w x.cells vs := Rep.ofF_go _ _ h4.go_cells
      obtain ⟨u, y, e1, e2, e3⟩ := load_ok hc hi (base := base) hgo (b := b) (blk := w.heap[b]?) (fun w1 hw j v hj => by rw [cell_of_blk (hw.trans h3)]; exact h5 j v hj) h
      exact ⟨u, y, b, fun w1 hw => by simp [Instr.loadAt, Instr.sureAddr, e1 w1 hw], e2, e3, blk_lt h3, h2⟩
    | oel o n off =>
      simp only [evLoad, hi] at h
      cases hL : L[o]? with
      | none => rw [hL] at h; exact h.elim
      | some y =>
        rw [hL] at h
        cases y with
        | row e xs =>
          obtain ⟨_, hr⟩ := repV_one hp (by simp) rfl
          obtain ⟨_, _, hr⟩ := hr
          obtain ⟨n0, n1, b, h1, h2⟩ := hr e xs hL
          simp at h2; subst h2
          have hlt : n.toNat < xs.length := by omega
          have hx := List.getElem?_eq_getElem hlt
          obtain ⟨c1, h2⟩ | ⟨b', cells, g1, g2, g3, g4, g5⟩ := hh.obj o _ hL
          · rw [h1] at h2; cases h2
          rw [h1] at g1; cases g1
          obtain ⟨vs, v1, v2, v3⟩ := g5 _ _ hx
          obtain ⟨u, y, e1, e2, e3⟩ := load_ok hc hi (base := n.toNat * (sig C X).sz e) (Rep.ofF_go _ _ v2.go_cells) (b := b) (blk := w.heap[b]?) (fun w1 hw j v hj => by rw [cell_of_blk (hw.trans g2)]; exact v3 j v hj) (h _ hx)
          exact ⟨u, y, b, fun w1 hw => by simp [Instr.loadAt, Instr.sureAddr, e1 w1 hw], e2, e3, blk_lt g2, ⟨_, _, hL⟩, h1⟩
        | box cs => exact h.elim
        | gone => exact h.elim
    | _ => simp [evLoad, hi] at h
end Go.Ab
