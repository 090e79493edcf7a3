import Derived.Test.YtiemgkjmifpfcaaDoorAb6
set_option linter.unusedVariables false
set_option linter.unusedSimpArgs false
namespace Go.Ab
open Go
variable {K : Codes} {C : Cfg K} {X : Nat → Prop} {L : Heap K} {η : Eta} {w : World}

theorem Cfg.td_slice {t e : TypeId} (hc : CfgOk C) (h : C.td t = .slice e) : C.P.underlying t = some (.slice e) := by
  simp only [Cfg.td] at h
  cases hi : C.ty t with
  | none => rw [hi] at h; cases h
  | some i => rw [hi] at h; have := (hc.ty t i hi).desc; dsimp only at h; rw [h] at this; exact this
theorem Cfg.td_int {t : TypeId} {kd : IntKind} (hc : CfgOk C) (h : C.td t = .int kd) : C.P.underlying t = some (.int kd) := by
  simp only [Cfg.td] at h
  cases hi : C.ty t with
  | none => rw [hi] at h; cases h
  | some i => rw [hi] at h; have := (hc.ty t i hi).desc; dsimp only at h; rw [h] at this; exact this
theorem Cfg.td_str {t : TypeId} (hc : CfgOk C) (h : C.td t = .str) : C.P.underlying t = some .string := by
  simp only [Cfg.td] at h
  cases hi : C.ty t with
  | none => rw [hi] at h; cases h
  | some i => rw [hi] at h; have := (hc.ty t i hi).desc; dsimp only at h; rw [h] at this; exact this
theorem Cfg.td_bool {t : TypeId} (hc : CfgOk C) (h : C.td t = .bool) : C.P.underlying t = some .bool := by
  simp only [Cfg.td] at h
  cases hi : C.ty t with
  | none => rw [hi] at h; cases h
  | some i => rw [hi] at h; have := (hc.ty t i hi).desc; dsimp only at h; rw [h] at this; exact this
theorem Cfg.td_ptr {t e : TypeId} (hc : CfgOk C) (h : C.td t = .ptr e) : C.P.underlying t = some (.pointer e) := by
  simp only [Cfg.td] at h
  cases hi : C.ty t with
  | none => rw [hi] at h; cases h
  | some i => rw [hi] at h; have := (hc.ty t i hi).desc; dsimp only at h; rw [h] at this; exact this
theorem Cfg.td_iface {t : TypeId} (hc : CfgOk C) (h : C.td t = .iface) : ∃ ms, C.P.underlying t = some (.interface ms) := by
  simp only [Cfg.td] at h
  cases hi : C.ty t with
  | none => rw [hi] at h; cases h
  | some i => rw [hi] at h; have := (hc.ty t i hi).desc; dsimp only at h; rw [h] at this; exact this
theorem Cfg.td_func {t : TypeId} (hc : CfgOk C) (h : C.td t = .func) : ∃ a b c, C.P.underlying t = some (.func a b c) := by
  simp only [Cfg.td] at h
  cases hi : C.ty t with
  | none => rw [hi] at h; cases h
  | some i => rw [hi] at h; have := (hc.ty t i hi).desc; dsimp only at h; rw [h] at this; exact this
theorem Cfg.td_of {t : TypeId} {i : TInfo} (h : C.ty t = some i) : C.td t = i.td := by simp [Cfg.td, h]

/-- A reckoning that leaves the world. -/
def Gives (G : Sig) (L : Heap K) (η : Eta) (w : World) (P : Program) (s : Sem Value) (k : PV → Prop) : Prop :=
  ∃ v x, (∀ w1, s.run P w1 = .ok v w1) ∧ k x ∧ RepV G L η w x v

theorem gives {G : Sig} {P : Program} {s : Sem Value} {k : PV → Prop} (v : Value) (x : PV) (h : ∀ w1, s.run P w1 = .ok v w1) (hk : k x) (hr : RepV G L η w x v) : Gives G L η w P s k := ⟨v, x, h, hk, hr⟩

theorem rv_int {G : Sig} (kd : IntKind) (n : Int) : RepV G L η w (.int kd n) (.int kd n) := .inr ⟨rfl, rfl⟩
theorem rv_bool {G : Sig} (b : Bool) : RepV G L η w (.bool b) (.bool b) := .inr ⟨rfl, rfl⟩
theorem rv_str {G : Sig} (s : ByteArray) : RepV G L η w (.str s) (.string s) := .inr ⟨rfl, rfl⟩

theorem evFieldAddr_ok (hc : CfgOk C) {t : TypeId} {p : PV} {v : Value} {f : Nat} {k : PV → Prop} (hp : RepV (sig C X) L η w p v) (h : evFieldAddr C t p f L k) :
    Gives (sig C X) L η w C.P (Instr.fieldAt t v f) k := by
  simp only [evFieldAddr] at h
  split at h
  · rename_i fs _ _ _ _ _ hi
    have hty := (hc.ty t _ hi).desc
    obtain ⟨fields, hu, _, hf⟩ := hty
    have key : ∀ (o ft : Nat) (b off : Nat), fs[f]? = some (o, ft) → ∀ w1, (Instr.fieldAt t (.pointer (some ⟨b, off, none⟩)) f).run C.P w1 = .ok (.pointer (some ⟨b, off + o, none⟩)) w1 := by
      intro o ft b off hfs w1
      obtain ⟨fld, h1, h2, h3, h4⟩ := hf f o ft hfs
      have hsz : ∃ inf, C.P.info? ft = some inf ∧ inf.size ≠ 0 := by
        simp only [Program.cellsOf] at h4
        cases hq : C.P.info? ft with
        | none => simp [hq] at h4
        | some inf => simp [hq] at h4; exact ⟨inf, rfl, h4⟩
      obtain ⟨inf, e1, e2⟩ := hsz
      simp [Instr.fieldAt, run_underlying hu, Result.andThen, h1, Instr.sureAddr, fieldPlace, h3, run_sizeOf' e1, e2, h2, add_plain']
    split at h
    · rename_i o ft b off hfs
      split at h
      · rename_i cs hL
        obtain ⟨_, hr⟩ := repV_one hp (by simp) rfl
        obtain ⟨hlt, _, hr⟩ := hr
        obtain ⟨b', h1, h2⟩ := hr cs hL
        simp at h2; subst h2
        exact gives _ _ (key o ft b' off hfs) h (repV_mk rfl rfl ⟨hlt, ⟨_, rfl, rfl⟩, fun cs' hL' => ⟨b', h1, rfl⟩⟩)
      · exact h.elim
    · rename_i o ft x off hfs
      obtain ⟨_, hr⟩ := repV_one hp (by simp) rfl
      obtain ⟨b, base, cells, t', fr, vs, h1, h2, h3, h4, h5⟩ := hr
      simp at h1; subst h1
      refine gives _ _ (key o ft b (base + off) hfs) h (repV_mk rfl rfl ⟨b, base, cells, t', fr, vs, by rw [Nat.add_assoc], h2, h3, h4, h5⟩)
    · rename_i o ft b i off hfs
      split at h
      · rename_i e xs hL
        obtain ⟨_, hr⟩ := repV_one hp (by simp) rfl
        obtain ⟨hlt, _, hr⟩ := hr
        obtain ⟨n0, n1, b', h1, h2⟩ := hr e xs hL
        simp at h2; subst h2
        refine gives _ _ (key o ft b' _ hfs) h (repV_mk rfl rfl ⟨hlt, ⟨_, rfl, rfl⟩, ?_⟩)
        intro e' xs' hL'
        obtain ⟨m0, m1, b2, g1, g2⟩ := hr e' xs' hL'
        refine ⟨m0, m1, b2, g1, ?_⟩
        simp at g2
        simp [g2.1]; omega
      · exact h.elim
    · exact h.elim
  · exact h.elim

theorem evIndex_ok {t : TypeId} {x i : PV} {v u : Value} {k : PV → Prop} (hc : CfgOk C) (hx : RepV (sig C X) L η w x v) (hi : RepV (sig C X) L η w i u) (h : evIndex C t x i k) :
    Gives (sig C X) L η w C.P (Instr.index t v u) k := by
  simp only [evIndex] at h
  split at h
  · rename_i s kd n ht
    obtain rfl := repV_str hx
    obtain rfl := repV_int hi
    obtain ⟨⟨h0, h1⟩, h⟩ := h
    have hlt : n.toNat < s.size := by omega
    have hb := h s[n.toNat] (by rw [getElem?_pos s n.toNat hlt])
    refine gives _ _ (fun w => ?_) hb (rv_int _ _)
    simp [Instr.index, asIntOf, run_underlying (Cfg.td_str hc ht), Result.andThen, h0, hlt]
  · exact h.elim

theorem evLoadCells_part {G : Sig} (hc : CfgOk C) {t : TypeId} {i : TInfo} (hi : C.ty t = some i) {cs : List PV} {vs : List Value} (hr : Rep.go G L η w cs vs) {off : Nat} {k : PV → Prop} (h : evLoadCells i cs off k) :
    Gives G L η w C.P (part t ⟨vs⟩ off) k := by
  have hty := hc.ty t i hi
  simp only [evLoadCells] at h
  cases ha : i.agg with
  | true =>
    rw [ha] at h
    obtain ⟨hlen, hk⟩ := chk_iff h
    have hlen := Nat.le_of_ble_eq_true hlen
    refine gives (.agg ⟨(vs.drop off).take i.size⟩) _ (fun w => ?_) hk (.inr ⟨rfl, Rep.go_take (Rep.go_drop hr off) _⟩)
    simp [part, hty.isAgg w, hty.size w, Result.andThen, ha, List.take_drop]
  | false =>
    rw [ha] at h
    cases hx : cs[off]? with
    | none => rw [hx] at h; exact h.elim
    | some x =>
      rw [hx] at h
      obtain ⟨v, h1, h2, h3, h4⟩ := Rep.go_get hr off x hx
      refine gives v x (fun w => ?_) h (repV_mk h2 (notAgg_of_one h3) h4)
      simp [part, hty.isAgg w, Result.andThen, ha, h1]

theorem evField_ok (hc : CfgOk C) {t : TypeId} {x : PV} {v : Value} {f : Nat} {k : PV → Prop} (hx : RepV (sig C X) L η w x v) (h : evField C t x f k) :
    Gives (sig C X) L η w C.P (Instr.field t v f) k := by
  simp only [evField] at h
  split at h
  · rename_i fs _ _ _ _ _ hi
    obtain ⟨fields, hu, _, hf⟩ := (hc.ty t _ hi).desc
    split at h
    · rename_i o ft cs hfs
      split at h
      · rename_i i hft
        obtain ⟨vs, rfl, hr⟩ := repV_agg hx
        obtain ⟨fld, h1, h2, h3, h4⟩ := hf f o ft hfs
        obtain ⟨u, y, e1, e2, e3⟩ := evLoadCells_part hc hft hr h
        refine gives u y (fun w => ?_) e2 e3
        simp [Instr.field, run_underlying hu, Result.andThen, h1, asAgg, h3, h2, e1]
      · exact h.elim
    · exact h.elim
  · exact h.elim

theorem evIndexAddr_ok (hc : CfgOk C) (hh : HeapRel (sig C X) L η w) {t : TypeId} {x i : PV} {v u : Value} {k : PV → Prop} (hx : RepV (sig C X) L η w x v) (hi : RepV (sig C X) L η w i u) (h : evIndexAddr C t x i L k) :
    Gives (sig C X) L η w C.P (Instr.indexAt t v u) k := by
  simp only [evIndexAddr] at h
  split at h
  · rename_i e _ _ _ _ _ kd n ht
    have hu : C.P.underlying t = some (.slice e) := (hc.ty t _ ht).desc
    obtain rfl := repV_int hi
    split at h
    · rename_i ie he
      have hsz := (hc.ty e ie he).size
      split at h
      · rename_i α enc l
        obtain ⟨⟨h0, h1⟩, h⟩ := h
        obtain ⟨_, hr⟩ := repV_one hx (by simp) rfl
        obtain ⟨A, cap, hv, hcap, hr⟩ := hr
        simp at hv; subst hv
        have hlt : n.toNat < l.length := by omega
        have hy := List.getElem?_eq_getElem hlt
        obtain ⟨hs, hk⟩ := chk_iff (h _ hy)
        have hs := Nat.eq_of_beq_eq_true hs
        rcases hr with hr | ⟨b, off, s, cells, t', fr, rfl, s0, hM, hb, hel⟩
        · subst hr; simp at hlt
        · obtain ⟨cs, c1, c2, c3⟩ := hel _ _ hy
          have hss : s = ie.size := by rw [← c1, c2.length, hs]
          refine gives (.pointer (some ⟨b, off + n.toNat * s, none⟩)) _ (fun w => ?_) hk (repV_mk rfl rfl ⟨b, off + n.toNat * s, cells, t', fr, cs, by simp, hM, hb, c2, c3⟩)
          simp [Instr.indexAt, asIntOf, run_underlying hu, Result.andThen, h0, h1, hsz, add_plain', hss]
      · rename_i o
        split at h
        · rename_i e' l hL
          obtain ⟨he', ⟨h0, h1⟩, hk⟩ := chk_iff h
          obtain rfl := Nat.eq_of_beq_eq_true he'
          obtain ⟨_, hr⟩ := repV_one hx (by simp) rfl
          obtain ⟨hlt, _, hr⟩ := hr
          obtain ⟨A, cap, hv, hcap, hq⟩ := hr e' l hL
          clear hr
          simp at hv; subst hv
          rcases hq with hq | ⟨b, cells, t', fr, e1, rfl, e2, e3⟩
          · omega
          · refine gives (.pointer (some ⟨b, n.toNat * ie.size, none⟩)) _ (fun w => ?_) hk (repV_mk rfl rfl ⟨hlt, ⟨_, rfl, rfl⟩, ?_⟩)
            · simp [Instr.indexAt, asIntOf, run_underlying hu, Result.andThen, h0, h1, hsz, add_plain']
            · intro e2 xs hL2
              rw [hL] at hL2; cases hL2
              exact ⟨h0, h1, b, e1, by simp [sig, (hc.ty e' ie he).cellsOf]⟩
        · exact h.elim
      · exact h.elim
    · exact h.elim
  · exact h.elim

theorem evExtract_ok {x : PV} {v : Value} {j : Nat} {k : PV → Prop} (hx : RepV (sig C X) L η w x v) (h : evExtract x j k) : Gives (sig C X) L η w C.P (Instr.extract v j) k := by
  simp only [evExtract] at h
  split at h
  · rename_i cs
    split at h
    · rename_i y hy
      obtain ⟨_, hr⟩ := repV_one hx (by simp) rfl
      obtain ⟨vs, hv, hr⟩ := hr
      simp at hv; subst hv
      have key : ∀ (cs : List PV) (vs : List Value) (j : Nat) (y : PV), Rep.goT (sig C X) L η w cs vs → cs[j]? = some y → ∃ u, vs[j]? = some u ∧ RepV (sig C X) L η w y u := by
        intro cs
        induction cs with
        | nil => intro vs j y _ hj; simp at hj
        | cons c cs ih =>
          intro vs j y hr hj
          obtain ⟨u, r, rfl, h1, h2, h3⟩ := hr
          cases j with
          | zero =>
            simp at hj; subst hj
            refine ⟨u, rfl, ?_⟩
            rcases h1 with h1 | h1
            · exact .inr ⟨h1, h2⟩
            · exact .inl h1
          | succ j => simp at hj; simpa using ih r j y h3 hj
      obtain ⟨u, h1, h2⟩ := key cs vs j y hr hy
      exact gives u y (fun w => by simp [Instr.extract, h1]) h h2
    · exact h.elim
  · exact h.elim

theorem evUn_ok {op : UnOp} {x : PV} {v : Value} {k : PV → Prop} (hx : RepV (sig C X) L η w x v) (h : evUn op x k) : Gives (sig C X) L η w C.P (Op.unary op v) k := by
  cases op <;> cases x <;> simp only [evUn] at h
  · obtain rfl := repV_int hx
    exact gives _ _ (fun w => by simp [Op.unary, Op.intArith]) h (rv_int _ _)
  · obtain rfl := repV_int hx
    exact gives _ _ (fun w => by simp only [Op.unary]; rfl) h (rv_int _ _)
  · obtain rfl := repV_bool hx
    exact gives _ _ (fun w => by simp [Op.unary]) h (rv_bool _)

theorem evIntBin_ok {op : BinOp} {kd : IntKind} {a b : Int} {t : TypeId} {k : PV → Prop} (h : evIntBin op kd a b k) : Gives (sig C X) L η w C.P (binOp op t (.int kd a) (.int kd b)) k := by
  cases op <;> simp only [evIntBin] at h
  case quo => exact gives _ _ (fun w => by simp [binOp, Op.intDiv, h.1]) h.2 (rv_int _ _)
  case rem => exact gives _ _ (fun w => by simp [binOp, Op.intDiv, h.1]) h.2 (rv_int _ _)
  case and => exact gives _ _ (fun w => by simp only [binOp, ne_eq, not_true_eq_false, if_false]; rfl) h (rv_int _ _)
  case or => exact gives _ _ (fun w => by simp only [binOp, ne_eq, not_true_eq_false, if_false]; rfl) h (rv_int _ _)
  case xor => exact gives _ _ (fun w => by simp only [binOp, ne_eq, not_true_eq_false, if_false]; rfl) h (rv_int _ _)
  case andNot => exact gives _ _ (fun w => by simp only [binOp, ne_eq, not_true_eq_false, if_false]; rfl) h (rv_int _ _)
  case add => exact gives _ _ (fun w => by simp [binOp, Op.intArith]) h (rv_int _ _)
  case sub => exact gives _ _ (fun w => by simp [binOp, Op.intArith]) h (rv_int _ _)
  case mul => exact gives _ _ (fun w => by simp [binOp, Op.intArith]) h (rv_int _ _)
  all_goals first
    | exact h.elim
    | exact gives _ _ (fun w => by simp [binOp, Op.intCmp]) h (rv_bool _)

theorem evStrBin_ok {op : BinOp} {a b : ByteArray} {t : TypeId} {k : PV → Prop} (h : evStrBin op a b k) : Gives (sig C X) L η w C.P (binOp op t (.string a) (.string b)) k := by
  cases op <;> simp only [evStrBin] at h
  case add =>
    have : ¬ (((a.size + b.size : Nat) : Int) > IntKind.i64.max) := by
      have : IntKind.i64.max = 9223372036854775807 := by decide
      omega
    exact gives _ _ (fun w => by simp only [binOp, Op.stringOp]; rw [if_neg this]; rfl) h.2 (rv_str _)
  all_goals first
    | exact h.elim
    | exact gives _ _ (fun w => by simp [binOp, Op.stringOp]) h (rv_bool _)
end Go.Ab
