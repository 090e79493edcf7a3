import Derived.Test.YtajpmmjpkpgoeaaDoorAbA
import Derived.Laws.Tables
import Derived.Laws.Append
import Derived.Laws.AppendOwn
import Derived.Laws.BytesString
import Derived.Lib.ConvBytes
import Derived.Lib.AtoiErrMem
import Derived.Calls
set_option linter.unusedVariables false
set_option linter.unusedSimpArgs false
set_option linter.unusedSectionVars false
namespace Go.Ab
open Go
variable [DMode] {K : Codes} {C : Cfg K} {X : Nat -> Prop} {N : Nat} {env : List PV} {L : Heap K} {η : Eta} {w : World} {a : Act}
theorem equal_run {P : Program} {t : TypeId} {x y : Value} {r : Bool} (h : ∀ d, (Op.equalIn (d + 1) t x y).run P w = .ok r w) : (Op.equal t x y).run P w = .ok r w := h 9999
theorem eqGuard_const {P : Program} {op : BinOp} {t : TypeId} {x : Operand} {c u v : Value} (h : isAggV v = false) : (eqGuard op t x (.const c) u v).run P w = .ok () w := by
 cases op <;> first
  | rfl
  | (unfold eqGuard
     simp only [Bool.not_true, Bool.false_eq_true, if_false, Sem.run_bind, Sem.run_pure, Result.andThen]
     split
     ·simp
     ·simp [isAggV] at h
     ·simp)
theorem eqGuard_not {P : Program} {op : BinOp} {t : TypeId} {x y : Operand} {u v : Value} (h : u ≠ .nilIface) (h2 : isAggV u = false) : (eqGuard op t x y u v).run P w = .ok () w := by
 cases op <;> first
  | rfl
  | (unfold eqGuard
     simp only [Bool.not_true, Bool.false_eq_true, if_false, Sem.run_bind, Sem.run_pure, Result.andThen]
     split
     ·simp at h
     ·simp [isAggV] at h2
     ·simp)
theorem eqGuard_agg {P : Program} {op : BinOp} {t : TypeId} {x y : Operand} {u v : Array Value} (h : P.eqGuardType P.depth t = false) : (eqGuard op t x y (.agg u) (.agg v)).run P w = .ok () w := by
 cases op <;> first
  | rfl
  | (unfold eqGuard
     simp [h, Result.andThen])
def noNum : Value -> Bool
 | .int _ _ | .float _ _ | .complex _ _ _ | .string _ => false
 | _ => true
theorem binOp_eq {t : TypeId} {u c : Value} (h : noNum c = true) : binOp .eql t u c = (do pure (.bool (<- Op.equal t u c))) := by
 cases u <;> cases c <;> first | rfl | (simp [noNum] at h)
theorem binOp_ne {t : TypeId} {u c : Value} (h : noNum c = true) : binOp .neq t u c = (do pure (.bool (!(<- Op.equal t u c)))) := by
 cases u <;> cases c <;> first | rfl | (simp [noNum] at h)
theorem evIsNil_ok (hc : CfgOk C) (hh : HeapRel (sig C X) L η w) {t : TypeId} {x : PV} {u c : Value} {k : Bool -> Prop} (hx : RepV (sig C X) L η w x u) (hn : nilFor (C.td t) c = true) (h : evIsNil (C.td t) x L k) :
 ∃ b, k b /\ (∀ w1, (Op.equal t u c).run C.P w1 = .ok b w1) /\ isAggV c = false /\ noNum c = true := by
 cases htd : C.td t <;> rw [htd] at hn h <;> cases c <;> simp [nilFor] at hn
 case ptr.pointer e p =>
  cases p <;> simp [nilFor] at hn
  have hu := Cfg.td_ptr hc htd
  cases x <;> simp only [evIsNil] at h
  case ptr o off =>
   split at h
   ·rename_i cs hL
    obtain ⟨_, hr⟩ := repV_one hx (by simp) rfl
    obtain ⟨_, _, hr⟩ := hr
    obtain ⟨b, e1, e2⟩ := hr cs hL
    clear hr
    simp at e2; subst e2
    exact ⟨false, h, fun w => equal_run (fun d => by simp [Op.equalIn, run_underlying hu, Result.andThen]), rfl, rfl⟩
   ·exact h.elim
  case el y off =>
   obtain ⟨_, hr⟩ := repV_one hx (by simp) rfl
   obtain ⟨_, _, _, _, _, _, e2, _⟩ := hr
   simp at e2; subst e2
   exact ⟨false, h, fun w => equal_run (fun d => by simp [Op.equalIn, run_underlying hu, Result.andThen]), rfl, rfl⟩
  case raw v =>
   obtain ⟨_, hr⟩ := repV_one hx (by simp) rfl
   obtain ⟨hr, _⟩ := hr
   simp at hr; subst hr
   cases u with
   | pointer p =>
    cases p with
    | none => exact ⟨true, h, fun w => equal_run (fun d => by simp [Op.equalIn, run_underlying hu, Result.andThen]), rfl, rfl⟩
    | some _ => exact h.elim
   | _ => exact h.elim
 case iface.nilIface =>
  obtain ⟨ms, hu⟩ := Cfg.td_iface hc htd
  cases x <;> simp only [evIsNil] at h
  case err e =>
   obtain ⟨_, hr⟩ := repV_one hx (by simp) rfl
   obtain ⟨v, hv, hr⟩ := hr
   simp at hv; subst hv
   cases e with
   | nil => simp only [RepErr] at hr; subst hr; exact ⟨true, h, fun w => equal_run (fun d => by simp [Op.equalIn, run_underlying hu, Result.andThen]), rfl, rfl⟩
   | cls _ => simp only [RepErr] at hr; subst hr; exact ⟨false, h, fun w => equal_run (fun d => by simp [Op.equalIn, run_underlying hu, Result.andThen]), rfl, rfl⟩
   | sec _ _ => obtain ⟨_, _, _, _, rfl, _⟩ := hr; exact ⟨false, h, fun w => equal_run (fun d => by simp [Op.equalIn, run_underlying hu, Result.andThen]), rfl, rfl⟩
   | plc _ _ => obtain ⟨_, _, _, _, rfl, _⟩ := hr; exact ⟨false, h, fun w => equal_run (fun d => by simp [Op.equalIn, run_underlying hu, Result.andThen]), rfl, rfl⟩
  case iface t' y =>
   obtain ⟨_, hr⟩ := repV_one hx (by simp) rfl
   obtain ⟨v, hv, _, hr⟩ := hr
   simp at hv; subst hv
   exact ⟨false, h, fun w => equal_run (fun d => by simp [Op.equalIn, run_underlying hu, Result.andThen]), rfl, rfl⟩
 case func.nilFunc =>
  obtain ⟨_, _, _, hu⟩ := Cfg.td_func hc htd
  cases x <;> simp only [evIsNil] at h
  case fn f p q =>
   obtain ⟨_, hr⟩ := repV_one hx (by simp) rfl
   obtain ⟨_, _, hv, _⟩ := hr
   simp at hv; subst hv
   exact ⟨false, h, fun w => equal_run (fun d => by simp [Op.equalIn, run_underlying hu, Result.andThen]), rfl, rfl⟩
 case slice.slice e A n cap =>
  cases A <;> cases n <;> cases cap <;> simp [nilFor] at hn
  have hu := Cfg.td_slice hc htd
  have run : ∀ A n cap w1, (Op.equal t (.slice A n cap) (.slice none 0 0)).run C.P w1 = .ok A.isNone w1 := by
   intro A n cap w1
   cases A <;> exact equal_run (fun d => by simp [Op.equalIn, run_underlying hu, Result.andThen])
  cases x <;> simp only [evIsNil] at h
  case sl α enc l =>
   obtain ⟨_, hr⟩ := repV_one hx (by simp) rfl
   obtain ⟨A, cap, hv, hcap, hr⟩ := hr
   simp at hv; subst hv
   refine ⟨A.isNone, h _ ?_, run _ _ _, rfl, rfl⟩
   intro hl
   rcases hr with hr | ⟨b, off, s, cells, t', fr, rfl, _⟩
   ·exact absurd hr hl
   ·rfl
  case own o =>
   split at h
   ·rename_i e' l hL
    obtain ⟨_, hr⟩ := repV_one hx (by simp) rfl
    obtain ⟨_, _, hr⟩ := hr
    obtain ⟨A, cap, hv, hcap, hq⟩ := hr e' l hL
    clear hr
    simp at hv; subst hv
    refine ⟨A.isNone, h _ ?_, run _ _ _, rfl, rfl⟩
    intro hl
    rcases hq with hq | ⟨b, cells, t', fr, _, rfl, _⟩
    ·cases l with
     | nil => exact absurd rfl hl
     | cons _ _ => simp at hcap; omega
    ·rfl
   ·exact h.elim
def isSc : PV -> Bool | .int _ _ | .bool _ | .str _ => true | _ => false
theorem eqCells_tail {x y : PV} {xs ys : List PV} {r : Bool} (h : eqCells (x :: xs) (y :: ys) = some r) : isSc x = true /\ isSc y = true /\ ∃ r', eqCells xs ys = some r' := by
 cases x <;> cases y <;> simp only [eqCells] at h
 case int.int =>
  split at h
  ·obtain ⟨r', h, _⟩ := Option.map_eq_some_iff.1 h; exact ⟨rfl, rfl, r', h⟩
  ·cases h
 case bool.bool => obtain ⟨r', h, _⟩ := Option.map_eq_some_iff.1 h; exact ⟨rfl, rfl, r', h⟩
 case str.str => obtain ⟨r', h, _⟩ := Option.map_eq_some_iff.1 h; exact ⟨rfl, rfl, r', h⟩
 all_goals cases h
theorem sc_of {G : Sig} {x : PV} {v : Value} (h : isSc x = true) (hx : Rep G L η w x [v]) : Sc x v := by
 cases x <;> simp [isSc] at h <;> simp only [Rep] at hx <;> simp at hx <;> exact hx
theorem scL_of {G : Sig} : ∀ {xs : List PV} {us : List Value} {ys : List PV} {r : Bool}, (eqCells xs ys = some r \/ eqCells ys xs = some r) -> Rep.go G L η w xs us -> ScL xs us
 | [], us, ys, r, h, hr => hr
 | x :: xs, us, ys, r, h, hr => by
  obtain ⟨v, rest, rfl, ha, hx, hr⟩ := hr
  cases ys with
  | nil => rcases h with h | h <;> cases x <;> simp [eqCells] at h
  | cons y ys =>
   rcases h with h | h
   ·obtain ⟨h1, _, r', h3⟩ := eqCells_tail h
    exact ⟨v, rest, rfl, sc_of h1 hx, scL_of (.inl h3) hr⟩
   ·obtain ⟨_, h2, r', h3⟩ := eqCells_tail h
    exact ⟨v, rest, rfl, sc_of h2 hx, scL_of (.inr h3) hr⟩
theorem evBin_ok (hc : CfgOk C) (hh : HeapRel (sig C X) L η w) {op : BinOp} {t : TypeId} {xo yo : Operand} {x y : PV} {u v : Value} {k : PV -> Prop} (hx : RepV (sig C X) L η w x u) (hy : RepV (sig C X) L η w y v)
 (hyo : ∀ c, yo = .const c -> v = c) (h : evBin C op t yo x y L k) : Gives (sig C X) L η w C.P (do eqGuard op t xo yo u v; binOp op t u v) k := by
 have seq : ∀ {s : Sem Value}, (∀ w, (eqGuard op t xo yo u v).run C.P w = .ok () w) -> Gives (sig C X) L η w C.P s k -> s = binOp op t u v -> Gives (sig C X) L η w C.P (do eqGuard op t xo yo u v; binOp op t u v) k := by
  rintro s h1 ⟨r, z, h2, h3, h4⟩ rfl
  exact ⟨r, z, fun w => by simp only [Sem.run_bind, h1, Result.andThen]; exact h2 w, h3, h4⟩
 unfold evBin at h
 split at h
 ·rename_i hn
  cases yo with
  | const c =>
   obtain rfl := hyo c rfl
   simp only [isNilConst] at hn
   split at h
   ·obtain ⟨b, h1, h2, h3, h4⟩ := evIsNil_ok hc hh hx hn h
    refine seq (fun _ => eqGuard_const h3) ?_ (binOp_eq h4).symm
    exact gives _ _ (fun w => by simp [h2, Result.andThen]) h1 (rv_bool b)
   ·obtain ⟨b, h1, h2, h3, h4⟩ := evIsNil_ok hc hh hx hn h
    refine seq (fun _ => eqGuard_const h3) ?_ (binOp_ne h4).symm
    exact gives _ _ (fun w => by simp [h2, Result.andThen]) h1 (rv_bool _)
   ·exact h.elim
  | _ => simp [isNilConst] at hn
 ·split at h
  ·rename_i kd p kd' q
   obtain rfl := repV_int hx
   obtain rfl := repV_int hy
   have hg := fun w => eqGuard_not (P := C.P) (op := op) (t := t) (x := xo) (y := yo) (u := .int kd p) (v := .int kd' q) (w := w) (by simp) rfl
   split at h
   ·exact seq hg (gives _ _ (fun w => by simp [binOp, Op.shift, show ¬ q < 0 by omega]) h.2 (rv_int _ _)) rfl
   ·exact seq hg (gives _ _ (fun w => by simp [binOp, Op.shift, show ¬ q < 0 by omega]) h.2 (rv_int _ _)) rfl
   ·split at h
    ·rename_i hk
     subst hk
     exact seq hg (evIntBin_ok h) rfl
    ·exact h.elim
  ·obtain rfl := repV_str hx
   obtain rfl := repV_str hy
   exact seq (fun _ => eqGuard_not (by simp) rfl) (evStrBin_ok h) rfl
  ·rename_i p q
   obtain rfl := repV_bool hx
   obtain rfl := repV_bool hy
   have hg := fun w => eqGuard_not (P := C.P) (op := op) (t := t) (x := xo) (y := yo) (u := .bool p) (v := .bool q) (w := w) (by simp) rfl
   split at h
   ·rename_i htd
    have hu := Cfg.td_bool hc htd
    have : ∀ w, (Op.equal t (.bool p) (.bool q)).run C.P w = .ok (p == q) w := fun w => equal_run (fun d => by simp [Op.equalIn, run_underlying hu, Result.andThen])
    exact seq hg (gives _ _ (fun w => by rw [binOp_eq rfl]; simp [this, Result.andThen]) h (rv_bool _)) rfl
   ·rename_i htd
    have hu := Cfg.td_bool hc htd
    have : ∀ w, (Op.equal t (.bool p) (.bool q)).run C.P w = .ok (p == q) w := fun w => equal_run (fun d => by simp [Op.equalIn, run_underlying hu, Result.andThen])
    exact seq hg (gives _ _ (fun w => by rw [binOp_ne rfl]; simp [this, Result.andThen]) h (rv_bool _)) rfl
   ·exact h.elim
  ·rename_i xs ys
   obtain ⟨us, rfl, hxr⟩ := repV_agg hx
   obtain ⟨vs, rfl, hyr⟩ := repV_agg hy
   split at h
   ·rename_i r he hr
    obtain ⟨g1, g2⟩ := hc.eqs t _ he
    have := fun w => g2 ys us vs r w hr (scL_of (.inl hr) hxr) (scL_of (.inr hr) hyr)
    exact seq (fun _ => eqGuard_agg g1) (gives _ _ (fun w => by rw [binOp_eq rfl]; simp [this, Result.andThen]) h (rv_bool _)) rfl
   ·rename_i r he hr
    obtain ⟨g1, g2⟩ := hc.eqs t _ he
    have := fun w => g2 ys us vs r w hr (scL_of (.inl hr) hxr) (scL_of (.inr hr) hyr)
    exact seq (fun _ => eqGuard_agg g1) (gives _ _ (fun w => by rw [binOp_ne rfl]; simp [this, Result.andThen]) h (rv_bool _)) rfl
   ·exact h.elim
  ·exact h.elim
end Go.Ab
namespace Go.Ab
open Go
variable [DMode] {K : Codes} {C : Cfg K} {X : Nat -> Prop} {N : Nat} {env : List PV} {L : Heap K} {η : Eta} {w : World} {a : Act}
theorem notIface {t : TypeId} (hc : CfgOk C) (h : solidTd (C.td t) = true) : ∃ d, C.P.underlying t = some d /\ ∀ ms, d ≠ .interface ms := by
 unfold Cfg.td at h
 cases hi : C.ty t with
 | none => rw [hi] at h; simp [solidTd] at h
 | some i =>
  rw [hi] at h
  have := (hc.ty t i hi).desc
  cases htd : i.td <;> rw [htd] at this <;> simp only [TDok] at this
  case other => simp [htd, solidTd] at h
  case iface => simp [htd, solidTd] at h
  case struct fs => obtain ⟨f, h1, _⟩ := this; exact ⟨_, h1, by simp⟩
  case func => obtain ⟨a, b, c, h1⟩ := this; exact ⟨_, h1, by simp⟩
  all_goals exact ⟨_, this, by simp⟩
theorem evMakeIface_ok (hc : CfgOk C) {t : TypeId} {x : PV} {v : Value} {k : PV -> Prop} (hx : RepV (sig C X) L η w x v) (h : evMakeIface C t x k) : Gives (sig C X) L η w C.P (Instr.makeInterface t v) k := by
 unfold evMakeIface at h
 split at h
 ·rename_i hs
  ·obtain ⟨d, e1, e2⟩ := notIface hc hs
   have run : ∀ (v : Value) (w : World), (Instr.makeInterface t v).run C.P w = .ok (.iface t v) w := by
    intro v w
    simp only [Instr.makeInterface, Sem.run_bind, run_underlying e1, Result.andThen]
    cases d <;> first | rfl | exact absurd rfl (e2 _)
   split at h
   ·exact h.elim
   ·exact h.elim
   ·rename_i n
    obtain rfl := repV_int hx
    split at h
    ·rename_i ht
     exact gives _ _ (run _) h (repV_mk rfl rfl ⟨_, rfl, by rw [RepErr, ht]; rfl⟩)
    ·exact gives _ _ (run _) h (repV_mk rfl rfl ⟨_, rfl, rfl, rfl⟩)
   ·rename_i y hj ht _
    refine gives _ _ (run _) h (repV_mk rfl rfl ⟨_, rfl, ?_⟩)
    rcases hx with rfl | ⟨q1, q2⟩
    ·exact absurd rfl hj
    ·exact ⟨q1, q2⟩
 ·exact h.elim
theorem evLen_ok (hc : CfgOk C) (hh : HeapRel (sig C X) L η w) {t ty : TypeId} {x : PV} {v : Value} {k : PV -> Prop} (hx : RepV (sig C X) L η w x v) (h : evLen C t x L k) :
 Gives (sig C X) L η w C.P (Builtin.len_ #[t] ty #[v]) k := by
 unfold evLen at h
 split at h
 ·rename_i s ht
  obtain rfl := repV_str hx
  exact gives _ _ (fun w => by simp [Builtin.len_, run_underlying (Cfg.td_str hc ht), Result.andThen, goInt]) h (rv_int _ _)
 ·rename_i α enc l e ht
  obtain ⟨_, hr⟩ := repV_one hx (by simp) rfl
  obtain ⟨A, cap, hv, _⟩ := hr
  simp at hv; subst hv
  exact gives _ _ (fun w => by simp [Builtin.len_, run_underlying (Cfg.td_slice hc ht), Result.andThen, goInt]) h (rv_int _ _)
 ·rename_i o e ht
  split at h
  ·rename_i e' xs hL
   obtain ⟨_, hr⟩ := repV_one hx (by simp) rfl
   obtain ⟨_, _, hr⟩ := hr
   obtain ⟨A, cap, hv, _⟩ := hr e' xs hL
   simp at hv; subst hv
   exact gives _ _ (fun w => by simp [Builtin.len_, run_underlying (Cfg.td_slice hc ht), Result.andThen, goInt]) h (rv_int _ _)
  ·exact h.elim
 ·rename_i u e ht
  split at h
  ·rename_i hn
   obtain rfl := isNil_eq hn
   obtain ⟨_, hr⟩ := repV_one hx (by simp) rfl
   obtain ⟨hr, _⟩ := hr
   simp at hr; subst hr
   exact gives _ _ (fun w => by simp [Builtin.len_, run_underlying (Cfg.td_slice hc ht), Result.andThen, goInt]) h (rv_int _ _)
  ·exact h.elim
 ·rename_i fs e ht
  obtain ⟨_, hr⟩ := repV_one hx (by simp) rfl
  obtain ⟨b, cells, t', fr, hv, _⟩ := hr
  simp at hv; subst hv
  exact gives _ _ (fun w => by simp [Builtin.len_, run_underlying (Cfg.td_slice hc ht), Result.andThen, goInt]) h (rv_int _ _)
 ·exact h.elim
theorem evMinMax_ok (mx : Bool) (kd : IntKind) : ∀ (r : List PV) (p : Int) (vs : List Value) {k : PV -> Prop}, RepVs (sig C X) L η w r vs -> evMinMax mx kd p r k ->
 ∃ q, (∀ w1, (List.foldlM (if mx then Builtin.max2 else Builtin.min2) (.int kd p) vs : Sem Value).run C.P w1 = .ok (.int kd q) w1) /\ k (.int kd q)
 | [], p, vs, k, hr, h => by simp only [RepVs] at hr; subst hr; exact ⟨p, fun _ => by simp, h⟩
 | y :: r, p, vs, k, hr, h => by
  obtain ⟨v, vs, rfl, hy, hr⟩ := hr
  simp only [evMinMax] at h
  split at h
  ·rename_i kd' b
   split at h
   ·rename_i hk
    subst hk
    obtain rfl := repV_int hy
    obtain ⟨q, h1, h2⟩ := evMinMax_ok mx kd' r _ vs hr h
    refine ⟨q, fun w1 => ?_, h2⟩
    have h1 := h1 w1
    cases mx <;> simpa [List.foldlM_cons, Builtin.max2, Builtin.min2, Result.andThen, mmI] using h1
   ·exact h.elim
  ·exact h.elim
theorem evAssert_ok (hc : CfgOk C) {t xt : TypeId} {x : PV} {v : Value} {ok : Bool} {k : PV -> Prop} (hx : RepV (sig C X) L η w x v) (h : evAssert C x t ok k) : Gives (sig C X) L η w C.P (Instr.typeAssert v xt t ok) k := by
 unfold evAssert at h
 split at h
 ·rename_i i u y hs hi
  ·obtain ⟨d, e1, e2⟩ := notIface hc hs
   obtain ⟨_, hr⟩ := repV_one hx (by simp) rfl
   obtain ⟨v', hv, hva, hr⟩ := hr
   simp at hv; subst hv
   split at h
   ·rename_i hut
    subst hut
    have run : ∀ w, (Instr.typeAssert (.iface u v') xt u ok).run C.P w = .ok (if ok then .tuple #[v', .bool true] else v') w := by
     intro w
     simp only [Instr.typeAssert, Sem.run_bind, run_underlying e1, Result.andThen]
     cases d <;> first | (exact absurd rfl (e2 _)) | (cases ok <;> simp)
    split at h
    ·exact gives _ _ run h (repV_mk rfl rfl ⟨[v', .bool true], rfl, v', _, rfl, .inl hva, hr, .bool true, [], rfl, .inl rfl, rfl, rfl⟩)
    ·exact gives _ _ run h (.inr ⟨hva, hr⟩)
   ·rename_i hut
    split at h
    ·obtain ⟨inf, i1, i2, i3, z, i4, i5, i6⟩ := (hc.ty t i hi).info
     have run : ∀ w, (Instr.typeAssert (.iface u v') xt t true).run C.P w = .ok (.tuple #[z, .bool false]) w := by
      intro w
      simp only [Instr.typeAssert, Sem.run_bind, run_underlying e1, Result.andThen]
      cases d <;> first | (exact absurd rfl (e2 _)) | (simp [hut, run_zeroValue' i1 i4, Result.andThen])
     have hz : isAggV z = (zeroPV i).isAgg \/ zeroPV i = .junk := by
      unfold zeroPV
      split
      ·rename_i ha; left; rw [i5, ha]; rfl
      ·rename_i x ha hx
       left
       have := i6 (sig C X) L η w
       rw [hx] at this
       obtain ⟨v1, r1, _, q, _⟩ := this
       rw [i5, ha, q.1]
      ·exact .inr rfl
     have hzr : Rep (sig C X) L η w (zeroPV i) z.cells.toList := by
      have := i6 (sig C X) L η w
      unfold zeroPV
      split
      ·exact this
      ·rename_i x ha hx
       rw [hx] at this
       obtain ⟨v1, r1, q1, q, q3, q4⟩ := this
       simp only [Rep.go] at q4
       subst q4
       rw [q1]; exact q3
      ·exact trivial
     exact gives _ _ run h (repV_mk rfl rfl ⟨[z, .bool false], rfl, z, _, rfl, hz, hzr, .bool false, [], rfl, .inl rfl, rfl, rfl⟩)
    ·exact h.elim
 ·exact h.elim
end Go.Ab
namespace Go.Ab
open Go
variable [DMode] {K : Codes} {C : Cfg K} {X : Nat -> Prop} {N : Nat} {env : List PV} {L : Heap K} {η : Eta} {w : World} {a : Act}
theorem foldSet (off : Nat) : ∀ (vs : List Value) (k : Nat) (cells : Array Value), ((vs.zipIdx k).foldl (fun cs (p : Value × Nat) => cs.setIfInBounds (off + p.2) p.1) cells).toList = setV cells.toList (off + k) vs
 | [], k, cells => rfl
 | v :: vs, k, cells => by
  rw [List.zipIdx_cons, List.foldl_cons, foldSet off vs (k + 1)]
  simp [setV, Nat.add_assoc]
theorem fold_arr (off : Nat) (vs : Array Value) (cells : Array Value) : vs.zipIdx.foldl (fun cs (c, j) => cs.setIfInBounds (off + j) c) cells = ⟨setV cells.toList off vs.toList⟩ := by
 apply Array.ext'
 rw [<- Array.foldl_toList, Array.toList_zipIdx]
 exact foldSet off vs.toList 0 cells
def RepParts (G : Sig) (L : Heap K) (η : Eta) (w : World) : List (Nat × PV) -> List (Nat × Value) -> Prop
 | [], vs => vs = []
 | (i, x) :: xs, vs => ∃ v r, vs = (i, v) :: r /\ RepV G L η w x v /\ RepParts G L η w xs r
theorem fillCells_ok {G : Sig} {place place' : Nat -> Option (Nat × Nat)} (hp : ∀ i q, place i = some q -> place' i = some q) : ∀ (parts : List (Nat × PV)) (vs : List (Nat × Value)) (cs cs' : List PV) (cells : List Value),
 fillCells place cs parts = some cs' -> Rep.go G L η w cs cells -> RepParts G L η w parts vs -> ∃ cells', Instr.fill place' ⟨cells⟩ vs = some ⟨cells'⟩ /\ Rep.go G L η w cs' cells'
 | [], vs, cs, cs', cells, h, hr, hv => by
  simp [fillCells] at h; subst h
  simp only [RepParts] at hv; subst hv
  exact ⟨cells, by simp [Instr.fill], hr⟩
 | (i, x) :: parts, vs, cs, cs', cells, h, hr, hv => by
  obtain ⟨v, r, rfl, hx, hv⟩ := hv
  simp only [fillCells] at h
  split at h
  ·rename_i off sz hpl hs
   split at h
   ·rename_i hcond
    have hl := rep_cells_length hx hs
    have hlen := Rep.go_length hr
    obtain ⟨cells', h1, h2⟩ := fillCells_ok hp parts r _ cs' (setV cells off v.cells.toList) h (Rep.go_setCells _ _ _ _ _ (Rep.cells hx hs) hr) hv
    refine ⟨cells', ?_, h2⟩
    simp only [Instr.fill, hp i _ hpl]
    have : ¬ (v.cells.size ≠ sz || off + v.cells.size > (⟨cells⟩ : Array Value).size) = true := by
     simp [hl, hcond.1, hlen]; exact hcond.2
    rw [if_neg this, fold_arr]
    exact h1
   ·cases h
  ·cases h
theorem evBuild_ok (hc : CfgOk C) {t : TypeId} {parts : List (Nat × PV)} {vs : List (Nat × Value)} {k : PV -> Prop} (hv : RepParts (sig C X) L η w parts vs) (h : evBuild C t parts k) :
 Gives (sig C X) L η w C.P (Instr.build t ⟨vs⟩) k := by
 unfold evBuild at h
 split at h
 ·rename_i fs _ _ z _ _ hi
  obtain ⟨inf, i1, i2, i3, zv, i4, i5, i6⟩ := (hc.ty t _ hi).info
  obtain ⟨fields, hu, hm, hf⟩ := (hc.ty t _ hi).desc
  split at h
  ·rename_i cs hfill
   obtain ⟨cells', h1, h2⟩ := fillCells_ok (L := L) (η := η) (w := w) (G := sig C X) (place' := fun i => (fs.map fun p => (p.1, C.P.cellsOf p.2)).toArray[i]?) (by
    intro i q hq
    cases hfi : fs[i]? with
    | none => simp [hfi] at hq
    | some p =>
     obtain ⟨o, ft⟩ := p
     simp [hfi] at hq
     obtain ⟨j, hj, rfl⟩ := hq
     simp [hfi, (hc.ty ft j hj).cellsOf]) parts vs z cs zv.cells.toList hfill (i6 _ _ _ _) hv
   refine gives (.agg ⟨cells'⟩) _ (fun w => run_build w t ⟨vs⟩ ⟨cells'⟩ ?_) h (.inr ⟨rfl, h2⟩)
   simp only [Program.built, i1, hu, i4, hm]
   simpa using h1
  ·exact h.elim
 ·rename_i n e _ _ z _ _ hi
  obtain ⟨inf, i1, i2, i3, zv, i4, i5, i6⟩ := (hc.ty t _ hi).info
  have hu : C.P.underlying t = some (.array n e) := (hc.ty t _ hi).desc
  split at h
  ·rename_i ie hie
   obtain ⟨inf2, j1, j2, _⟩ := (hc.ty e ie hie).info
   split at h
   ·rename_i cs hfill
    obtain ⟨cells', h1, h2⟩ := fillCells_ok (L := L) (η := η) (w := w) (G := sig C X) (place' := fun i => some (i * inf2.size, inf2.size)) (by
     intro i q hq
     rw [j2]; exact hq) parts vs z cs zv.cells.toList hfill (i6 _ _ _ _) hv
    refine gives (.agg ⟨cells'⟩) _ (fun w => run_build w t ⟨vs⟩ ⟨cells'⟩ ?_) h (.inr ⟨rfl, h2⟩)
    simp only [Program.built, i1, hu, i4, j1]
    exact h1
   ·exact h.elim
  ·exact h.elim
 ·exact h.elim
theorem lay_rows {I : Ids} {M : Nat -> Prop} {s : Nat} (hs : 0 < s) {c : Cod} : ∀ (zs : List c.α) (vs : List Value), RepFs I M w (zs.map c.enc) vs -> (∀ v, v ∈ vs -> v.cells.size = s) ->
 ∀ (i : Nat) (x : c.α), zs[i]? = some x -> ∃ v : Value, vs[i]? = some v /\ v.cells.toList.length = s /\ RepF I M w (c.enc x) v.cells.toList
 | [], vs, _, _, i, x, h => by simp at h
 | z :: zs, vs, hr, hsz, i, x, h => by
  obtain ⟨v, r, rfl, ⟨h1, h2⟩, hr⟩ := hr
  cases i with
  | zero => simp at h; subst h; exact ⟨v, rfl, by simpa using hsz v List.mem_cons_self, h1⟩
  | succ i =>
   obtain ⟨u, u1, u2, u3⟩ := lay_rows hs zs r hr (fun v hv => hsz v (List.mem_cons_of_mem _ hv)) i x (by simpa using h)
   exact ⟨u, by simpa using u1, u2, u3⟩
theorem fill_consec {s : Nat} : ∀ (vs : List Value) (i : Nat) (cells : List Value), (∀ v, v ∈ vs -> v.cells.size = s) -> (i + vs.length) * s <= cells.length ->
 ∃ cells' : List Value, Instr.fill (fun i => some (i * s, s)) ⟨cells⟩ (vs.zipIdx i |>.map fun p => (p.2, p.1)) = some ⟨cells'⟩ /\ cells'.length = cells.length /\
  (∀ p, p < i * s -> cells'[p]? = cells[p]?) /\ ∀ (q : Nat) (v : Value), vs[q]? = some v -> ∀ (j : Nat) (u : Value), v.cells.toList[j]? = some u -> cells'[(i + q) * s + j]? = some u
 | [], i, cells, _, _ => ⟨cells, by simp [Instr.fill], rfl, fun _ _ => rfl, fun q v h => by simp at h⟩
 | v :: vs, i, cells, hsz, hlen => by
  have hv := hsz v List.mem_cons_self
  have hvl : v.cells.toList.length = s := by simpa using hv
  simp only [List.length_cons] at hlen
  have h0 : (i + 1) * s <= cells.length := Nat.le_trans (Nat.mul_le_mul_right s (by omega)) hlen
  rw [Nat.add_mul, Nat.one_mul] at h0
  obtain ⟨cells', h1, h2, h3, h4⟩ := fill_consec vs (i + 1) (setV cells (i * s) v.cells.toList) (fun v hv => hsz v (List.mem_cons_of_mem _ hv)) (by rw [setV_length]; rw [show i + 1 + vs.length = i + (vs.length + 1) by omega]; exact hlen)
  refine ⟨cells', ?_, by rw [h2, setV_length], ?_, ?_⟩
  ·simp only [List.zipIdx_cons, List.map_cons, Instr.fill]
   have : ¬ (v.cells.size ≠ s || i * s + v.cells.size > (⟨cells⟩ : Array Value).size) = true := by
    simp [hv]; exact h0
   rw [if_neg this, fold_arr]
   exact h1
  ·intro p hp
   rw [h3 p (by rw [Nat.add_mul]; omega), setV_get _ _ _ _ (by omega), if_neg (by omega)]
  ·intro q u hq j x hj
   cases q with
   | zero =>
    simp at hq; subst hq
    have hjl : j < s := by rw [<- hvl]; exact (List.getElem?_eq_some_iff.1 hj).1
    rw [Nat.add_zero, h3 _ (by rw [Nat.add_mul]; omega), setV_get _ _ _ _ (by omega), if_pos (by omega)]
    rw [show i * s + j - i * s = j by omega]; exact hj
   | succ q =>
    have := h4 q u (by simpa using hq) j x hj
    rw [show i + (q + 1) = i + 1 + q by omega]; exact this
theorem partsL_ok {G : Sig} : ∀ (parts : List (Nat × PV)) (i : Nat) (xs : List PV) (pv : List (Nat × Value)), partsL i parts = some xs -> RepParts G L η w parts pv ->
 ∃ vs : List Value, pv = (vs.zipIdx i).map (fun p => (p.2, p.1)) /\ RepVs G L η w xs vs /\ vs.length = xs.length
 | [], i, xs, pv, h, hr => by
  simp [partsL] at h; subst h
  simp only [RepParts] at hr; subst hr
  exact ⟨[], rfl, rfl, rfl⟩
 | (j, x) :: parts, i, xs, pv, h, hr => by
  simp only [partsL] at h
  split at h
  ·rename_i hij
   subst hij
   obtain ⟨xs', h1, rfl⟩ := Option.map_eq_some_iff.1 h
   obtain ⟨v, r, rfl, hx, hr⟩ := hr
   obtain ⟨vs, rfl, q1, q2⟩ := partsL_ok parts (i + 1) xs' r h1 hr
   exact ⟨v :: vs, by simp [List.zipIdx_cons], ⟨v, vs, rfl, hx, q1⟩, by simp [q2]⟩
  ·cases h
theorem repFs_length {I : Ids} {M : Nat -> Prop} : ∀ {xs : List PV} {vs : List Value}, RepFs I M w xs vs -> vs.length = xs.length
 | [], vs, h => by simp only [RepFs] at h; subst h; rfl
 | x :: xs, vs, h => by
  obtain ⟨v, r, rfl, _, h⟩ := h
  simp [repFs_length h]
theorem repFs_size {I : Ids} {M : Nat -> Prop} {e : TypeId} {s : Nat} (hs : ∀ y : (K e).α, ((K e).enc y).cells.length = s) : ∀ {zs : List (K e).α} {vs : List Value}, RepFs I M w (zs.map (K e).enc) vs -> ∀ v, v ∈ vs -> v.cells.size = s
 | [], vs, h, v, hv => by simp only [List.map_nil, RepFs] at h; subst h; simp at hv
 | z :: zs, vs, h, v, hv => by
  obtain ⟨u, r, rfl, ⟨h1, _⟩, h⟩ := h
  rcases List.mem_cons.1 hv with rfl | hv
  ·have := h1.length; rw [hs] at this; simpa using this
  ·exact repFs_size hs h v hv
theorem row_of_laid {G : Sig} {M : Nat -> Prop} {e : TypeId} {s : Nat} (h0 : 0 < s) (hs : ∀ y : (K e).α, ((K e).enc y).cells.length = s) {zs : List (K e).α} {vs : List Value} (hr : RepFs G.I M w (zs.map (K e).enc) vs)
 {cells : Array Value} (hlen : zs.length * s <= cells.size) (hl : ∀ (q : Nat) (v : Value), vs[q]? = some v -> ∀ (j : Nat) (u : Value), v.cells.toList[j]? = some u -> cells[q * s + j]? = some u) : RowRel G M w s (K e) zs cells := by
 refine ⟨h0, hlen, fun i x hi => ?_⟩
 obtain ⟨v, v1, v2, v3⟩ := lay_rows h0 zs vs hr (repFs_size hs hr) i x hi
 exact ⟨v.cells.toList, v2, v3, hl i v v1⟩
theorem evBuildSlice_ok (hc : CfgOk C) (hr : RelT C (sig C X) N env L η w a) {t : TypeId} {n : Nat} {parts : List (Nat × PV)} {pv : List (Nat × Value)} (hv : RepParts (sig C X) L η w parts pv) {k : K1 K}
 (h : evBuildSlice C t n parts env L k) : ∃ v w', (Instr.buildSlice t n ⟨pv⟩).run C.P w = .ok v w' /\ Res C X N L η w a [] k v w' := by
 unfold evBuildSlice at h
 split at h
 ·rename_i e _ _ _ _ _ ht
  have hu : C.P.underlying t = some (.slice e) := (hc.ty t _ ht).desc
  split at h
  ·rename_i ie xs he hcod hpl
   split at h
   ·rename_i ys hlend
    ·obtain ⟨hq, zs, hdec, hk⟩ := chk_iff h
     simp only [Bool.and_eq_true] at hq
     have hlen := Nat.eq_of_beq_eq_true hq.1.1
     have hmax := Nat.le_of_ble_eq_true hq.1.2
     have hpos : 0 < ie.size := Nat.le_of_ble_eq_true hq.2
     obtain ⟨vs, rfl, hvs, hvl⟩ := partsL_ok parts 0 xs pv hpl hv
     have hF := lendAll_ok hr.heap _ _ _ _ hlend hvs (gone_off hr.heap (xs.flatMap (reach L depth)))
     rw [<- hdec] at hF
     have hcs := hc.codsz e ie hcod he
     have hsz := (hc.ty e ie he).size w
     have hco := (hc.ty e ie he).cellsOf
     obtain ⟨inf, i1, i2, i3, zv, i4, i5, i6⟩ := (hc.ty e ie he).info
     have hzl : zs.length = n := by
      have := repFs_length hF; simp at this; omega
     have hinit : ∀ (z : Array Value), ((Array.range (n * ie.size)).map (fun i => z[i % z.size]!)).toList.length = n * ie.size := by intro z; simp
     obtain ⟨z0, hz0⟩ : ∃ z0 : Array Value, z0 = if n * ie.size = 0 then #[] else zv.cells := ⟨_, rfl⟩
     obtain ⟨cells', f1, f2, f3, f4⟩ := fill_consec (s := ie.size) vs 0 ((Array.range (n * ie.size)).map (fun i => z0[i % z0.size]!)).toList (repFs_size hcs hF) (by rw [hinit]; simp; rw [hvl, hlen]; exact Nat.le_refl _)
     rw [hinit] at f2
     have hgf := gone_fwd (L := L) (η := η) (w := w) (xs.flatMap (reach L depth))
     have hgh := gone_heap hr.heap (xs.flatMap (reach L depth))
     have hrow : RowRel (sig C X) (Mx (sig C X) (goneAll (xs.flatMap (reach L depth)) L) η) w ((sig C X).sz e) (K e) zs ⟨cells'⟩ := by
      show RowRel _ _ _ (C.P.cellsOf e) _ _ _
      rw [hco]
      refine row_of_laid hpos hcs hF (by simp [f2, hzl]) ?_
      intro q v hq j u hj
      have := f4 q v hq j u hj
      rw [Nat.zero_add] at this
      simpa using this
     obtain ⟨pf, ph⟩ := push_row hgh (More.alloc w (.cells ⟨cells'⟩ e)) e zs w.heap.size ⟨cells'⟩ (Nat.le_refl _) (heap_new w _) hrow
     refine ⟨.slice (some ⟨w.heap.size, 0, none⟩) n n, w.alloc (.cells ⟨cells'⟩ e), ?_, res_mk hr .alloc hk (hgf.trans0 pf) ph (repV_mk rfl rfl ⟨by simp, ⟨_, rfl, rfl⟩, ?_⟩)⟩
     ·have h24 : ¬ (n * ie.size > 2 ^ 24) := by
       have : (2 : Nat) ^ 24 = 16777216 := by decide
       omega
      have f1' : Instr.fill (fun i => some (i * ie.size, ie.size)) ((Array.range (n * ie.size)).map (fun i => z0[i % z0.size]!)) (vs.zipIdx.map fun p => (p.2, p.1)) = some ⟨cells'⟩ := f1
      simp only [Instr.buildSlice, Sem.run_bind, run_underlying hu, Result.andThen, hsz, h24, if_false]
      by_cases hz : n * ie.size = 0
      ·obtain rfl : z0 = #[] := by rw [hz0, if_pos hz]
       rw [if_pos hz]
       simp only [Sem.run_bind, Sem.run_pure, Result.andThen, f1', newRow]
       rfl
      ·obtain rfl : z0 = zv.cells := by rw [hz0, if_neg hz]
       rw [if_neg hz]
       simp only [Sem.run_bind, Sem.run_pure, run_zeroValue' i1 i4, Result.andThen, f1', newRow]
       rfl
     ·intro e' xs' hL
      simp at hL
      obtain ⟨rfl, hL⟩ := hL
      cases hL
      refine ⟨some ⟨w.heap.size, 0, none⟩, n, by rw [hzl], by omega, .inr ⟨w.heap.size, ⟨cells'⟩, e, (0, 0), upd_same _ _ _, rfl, heap_new w _, ?_⟩⟩
      show n * C.P.cellsOf e <= _
      rw [hco]; simp [f2]
   ·exact h.elim
  ·exact h.elim
 ·exact h.elim
theorem evBuildFns_ok (hc : CfgOk C) (hr : RelT C (sig C X) N env L η w a) {t : TypeId} {n : Nat} {parts : List (Nat × PV)} {pv : List (Nat × Value)} (hv : RepParts (sig C X) L η w parts pv) {k : K1 K}
 (h : evBuildFns C t n parts env L k) : ∃ v w', (Instr.buildSlice t n ⟨pv⟩).run C.P w = .ok v w' /\ Res C X N L η w a [] k v w' := by
 unfold evBuildFns at h
 split at h
 ·rename_i e _ _ _ _ _ ht
  have hu : C.P.underlying t = some (.slice e) := (hc.ty t _ ht).desc
  split at h
  ·rename_i ie xs he hpl
   obtain ⟨hq, hk⟩ := chk_iff h
   simp only [Bool.and_eq_true] at hq
   have hlen := Nat.eq_of_beq_eq_true hq.1.1.1.1
   have hmax := Nat.le_of_ble_eq_true hq.1.1.1.2
   have hs1 := Nat.eq_of_beq_eq_true hq.1.1.2
   have hpos := Nat.le_of_ble_eq_true hq.1.2
   have hall : ∀ x, x ∈ xs -> x.isAgg = false /\ x.stor = true := by
    intro x hx
    have := (List.all_eq_true.1 hq.2) x hx
    simpa using this
   obtain ⟨vs, rfl, hvs, hvl⟩ := partsL_ok parts 0 xs pv hpl hv
   have hsz := (hc.ty e ie he).size w
   obtain ⟨inf, i1, i2, i3, zv, i4, i5, i6⟩ := (hc.ty e ie he).info
   have hone : ∀ (xs : List PV) (vs : List Value), (∀ x, x ∈ xs -> x.isAgg = false /\ x.stor = true) -> RepVs (sig C X) L η w xs vs ->
    Rep.go (sig C X) L η w xs vs /\ ∀ v, v ∈ vs -> v.cells = #[v] := by
    intro xs
    induction xs with
    | nil => intro vs _ h; simp only [RepVs] at h; subst h; exact ⟨rfl, fun v hv => by cases hv⟩
    | cons x xs ih =>
     intro vs hx h
     obtain ⟨v, r, rfl, h1, h2⟩ := h
     obtain ⟨a1, a2⟩ := hx x List.mem_cons_self
     obtain ⟨g1, g2⟩ := ih r (fun y hy => hx y (List.mem_cons_of_mem _ hy)) h2
     have h3 := Rep.cells h1 a2
     have hxc : x.cells = [x] := by cases x <;> first | rfl | simp [PV.isAgg] at a1
     have hva : isAggV v = false := by
      rcases h1 with h1 | ⟨h1, _⟩
      ·subst h1; simp [PV.stor] at a2
      ·rw [h1, a1]
     have hvc := cells_one hva
     rw [hxc, hvc] at h3
     obtain ⟨v', r', e1, e2, e3, e4⟩ := h3
     simp only [Rep.go] at e4
     subst e4
     obtain rfl : v = v' := by simpa using e1
     refine ⟨⟨v, r, rfl, e2, e3, g1⟩, ?_⟩
     intro u hu
     rcases List.mem_cons.1 hu with rfl | hu
     ·first | exact hvc | (apply Array.ext'; exact hvc) | (apply Array.ext'; simpa using hvc)
     ·exact g2 u hu
   obtain ⟨hgo, hcells⟩ := hone xs vs hall hvs
   obtain ⟨z0, hz0⟩ : ∃ z0 : Array Value, z0 = zv.cells := ⟨_, rfl⟩
   obtain ⟨cells', f1, f2, f3, f4⟩ := fill_consec (s := ie.size) vs 0 ((Array.range (n * ie.size)).map (fun i => z0[i % z0.size]!)).toList (fun v hv => by rw [hcells v hv, hs1]; rfl) (by simp; rw [hvl, hlen]; exact Nat.le_refl _)
   have hinit : ((Array.range (n * ie.size)).map (fun i => z0[i % z0.size]!)).toList.length = n * ie.size := by simp
   rw [hinit] at f2
   have hvn : vs.length = n := by rw [hvl, hlen]
   have hcv : cells' = vs := by
    apply List.ext_getElem?
    intro i
    rcases Nat.lt_or_ge i vs.length with hi | hi
    ·have := f4 i vs[i] (List.getElem?_eq_getElem hi) 0 vs[i] (by rw [hcells _ (List.getElem_mem hi)]; rfl)
     rw [hs1] at this
     rw [List.getElem?_eq_getElem hi]
     simpa using this
    ·rw [List.getElem?_eq_none hi, List.getElem?_eq_none (by rw [f2, hs1]; omega)]
   subst hcv
   have m1 : More w (w.alloc (.cells ⟨cells'⟩ e)) := More.alloc w _
   have hfw := Fwd.more (L := L) (η := η) m1
   have hhw := hr.heap.more m1
   have hgo' : Rep.go (sig C X) L η (w.alloc (.cells ⟨cells'⟩ e)) xs cells' := by
    have hm := hfw.moves (C := sig C X) (fun b hb => (hr.heap.ext b hb).1)
    have := Rep.mono_go hm xs cells' hgo
    rw [butB_noBad, PV.ren_id_go] at this
    exact this
   have hnM : ¬ Mx (sig C X) L η w.heap.size := by
    rintro (hM | hX)
    ·have := hr.heap.lt hM; omega
    ·have := (hr.heap.ext _ hX).1; omega
   refine ⟨.slice (some ⟨w.heap.size, 0, none⟩) n n, w.alloc (.cells ⟨cells'⟩ e), ?_, res_mk hr .alloc hk hfw hhw (repV_mk rfl rfl ⟨w.heap.size, cells', e, (0, 0), by rw [hlen], hnM, heap_new w _, hgo'⟩)⟩
   have h24 : ¬ (n * ie.size > 2 ^ 24) := by
    have : (2 : Nat) ^ 24 = 16777216 := by decide
    rw [hs1]; omega
   have f1' : Instr.fill (fun i => some (i * ie.size, ie.size)) ((Array.range (n * ie.size)).map (fun i => z0[i % z0.size]!)) (cells'.zipIdx.map fun p => (p.2, p.1)) = some ⟨cells'⟩ := f1
   simp only [Instr.buildSlice, Sem.run_bind, run_underlying hu, Result.andThen, hsz, h24, if_false]
   have hz : ¬ n * ie.size = 0 := by rw [hs1]; omega
   obtain rfl : z0 = zv.cells := hz0
   rw [if_neg hz]
   simp only [Sem.run_bind, Sem.run_pure, run_zeroValue' i1 i4, Result.andThen, f1', newRow]
   rfl
  ·exact h.elim
 ·exact h.elim
end Go.Ab
namespace Go.Ab
open Go
variable [DMode] {K : Codes} {C : Cfg K} {X : Nat -> Prop} {N : Nat} {env : List PV} {L : Heap K} {η : Eta} {w : World} {a : Act}
theorem grow_fwd {w' : World} {bad : Nat -> Bool} (h : More w w') {o : Nat} {e : TypeId} {xs xs' : List (K e).α}
 (ho : L[o]? = some (.row e xs)) (hb : bad o = true) (nb : Option Nat) (hnb : ∀ b, nb = some b -> w.heap.size <= b \/ η o = some b) :
 Fwd L η w ((renL (butB bad) L).set o (.row e xs')) (upd η o nb) w' bad where
 os := h.os
 tape := h.tape
 output := h.output
 size := h.size
 keep := fun b hb _ => h.keep b hb
 muts := by
  rintro i ⟨p, y, h1, h2, h3⟩
  rcases set_get _ L o _ p y h1 with ⟨rfl, _, rfl⟩ | ⟨hne, z, h4, rfl⟩
  ·rw [upd_same] at h3
   rcases hnb i h3 with q | q
   ·exact .inr q
   ·exact .inl ⟨p, _, ho, rfl, q⟩
  ·rw [upd_ne _ _ hne] at h3
   exact .inl ⟨p, z, h4, by rw [<- renO_live]; exact h2, h3⟩
 len := by simp [renL_length]
 box := by
  intro p cs' hp hL
  rcases set_get _ L o _ p _ hL with ⟨rfl, _, hx⟩ | ⟨hne, z, h4, hx⟩
  ·cases hx
  ·cases z with
   | box cs => exact ⟨cs, h4, upd_ne _ _ hne⟩
   | row e xs => cases hx
   | mp _ _ _ => cases hx
   | gone => cases hx
 kind := by
  intro p e' xs' hp hL
  rcases set_get _ L o _ p _ hL with ⟨rfl, _, hx⟩ | ⟨_, z, h4, hx⟩
  ·cases hx; exact ⟨xs, ho⟩
  ·cases z with
   | row e xs => cases hx; exact ⟨_, h4⟩
   | box cs => cases hx
   | mp _ _ _ => cases hx
   | gone => cases hx
 row := by
  intro p e' xs' hp hbad hL
  rcases set_get _ L o _ p _ hL with ⟨rfl, _, hx⟩ | ⟨hne, z, h4, hx⟩
  ·rw [hbad] at hb; cases hb
  ·cases z with
   | row e xs => cases hx; exact ⟨_, h4, rfl, upd_ne _ _ hne, fun b cells t fr _ hb => ⟨cells, t, fr, h.blk hb, rfl⟩⟩
   | box cs => cases hx
   | mp _ _ _ => cases hx
   | gone => cases hx
 trk := by
  intro p b hp hb
  by_cases hpo : p = o
  ·subst hpo
   rw [upd_same] at hb
   rcases hnb b hb with q | q
   ·exact .inr q
   ·exact .inl q
  ·rw [upd_ne _ _ hpo] at hb; exact .inl hb
 mp := by
  intro p kd e' f' hp hL
  rcases set_get _ L o _ p _ hL with ⟨rfl, _, hx⟩ | ⟨hne, z, h4, hx⟩
  ·cases hx
  ·cases z with
   | mp kd e f => cases hx; exact ⟨_, h4, upd_ne _ _ hne⟩
   | box cs => cases hx
   | row _ _ => cases hx
   | gone => cases hx
theorem grow_heap {G : Sig} {w' : World} {bad : Nat -> Bool} (hh : HeapRel G L η w) (h : More w w') {o : Nat} {e : TypeId} {xs xs' : List (K e).α}
 (ho : L[o]? = some (.row e xs)) (hb : bad o = true) (nb : Option Nat) (hnb : ∀ b, nb = some b -> w.heap.size <= b \/ η o = some b)
 (hx : ObjRel G ((renL (butB bad) L).set o (.row e xs')) (upd η o nb) w' o (.row e xs')) : HeapRel G ((renL (butB bad) L).set o (.row e xs')) (upd η o nb) w' := by
 have hf := grow_fwd (xs' := xs') h ho hb nb hnb
 have hm := hf.moves (C := G) (fun b hb => (hh.ext b hb).1)
 refine ⟨?_, ?_, ?_, ?_⟩
 ·intro p y hL
  rcases set_get _ L o _ p y hL with ⟨rfl, _, rfl⟩ | ⟨hne, z, h4, rfl⟩
  ·exact hx
  ·cases hz : z.live with
   | false => cases z <;> first | exact trivial | cases hz
   | true =>
    exact (hh.obj p z h4).mono hm (upd_ne _ _ hne) (fun i hi => h.keep i ((hh.obj p z h4).lt hz hi))
 ·have key : ∀ (q : Nat) (z : AObj K) (i : Nat), ((renL (butB bad) L).set o (.row e xs'))[q]? = some z -> z.live = true -> upd η o nb q = some i -> q ≠ o -> ∃ z0 : AObj K, L[q]? = some z0 /\ z0.live = true /\ η q = some i := by
   intro q z i hq hz hi hne
   rcases set_get _ L o _ q z hq with ⟨rfl, _, rfl⟩ | ⟨_, z0, h7, rfl⟩
   ·exact absurd rfl hne
   ·exact ⟨z0, h7, by rw [<- renO_live]; exact hz, by rw [upd_ne _ _ hne] at hi; exact hi⟩
  have side : ∀ (q : Nat) (z : AObj K) (i : Nat), ((renL (butB bad) L).set o (.row e xs'))[q]? = some z -> z.live = true -> upd η o nb q = some i -> nb = some i -> q = o := by
   intro q z i hq hz hi hn
   by_cases hne : q = o
   ·exact hne
   ·obtain ⟨z0, g1, g2, g3⟩ := key q z i hq hz hi hne
    rcases hnb i hn with q' | q'
    ·have := (hh.obj q z0 g1).lt g2 g3; omega
    ·exact hh.inj q o z0 _ i g1 ho g2 rfl g3 q'
  intro p p' y y' i h1 h2 h3 h4 h5 h6
  by_cases hp : p = o
  ·have : nb = some i := by rw [hp, upd_same] at h5; exact h5
   rw [hp]; exact (side p' y' i h2 h4 h6 this).symm
  ·by_cases hp' : p' = o
   ·have : nb = some i := by rw [hp', upd_same] at h6; exact h6
    rw [hp']; exact side p y i h1 h3 h5 this
   ·obtain ⟨z, g1, g2, g3⟩ := key p y i h1 h3 h5 hp
    obtain ⟨z', g4, g5, g6⟩ := key p' y' i h2 h4 h6 hp'
    exact hh.inj p p' z z' i g1 g4 g2 g5 g3 g6
 ·intro i hi
  refine ⟨Nat.lt_of_lt_of_le (hh.ext i hi).1 h.size, fun q => ?_⟩
  rcases hf.muts i q with q | q
  ·exact (hh.ext i hi).2 q
  ·exact absurd (hh.ext i hi).1 (by omega)
 ·intro p hp
  have hlt := (List.getElem?_eq_some_iff.1 ho).1
  simp [renL_length] at hp
  rw [upd_ne _ _ (by omega)]
  exact hh.none p hp
def isO (o : Nat) : Nat -> Bool := fun p => p == o
theorem isO_self (o : Nat) : isO o o = true := by simp [isO]
theorem isO_row {o : Nat} {e : TypeId} {xs : List (K e).α} (ho : L[o]? = some (.row e xs)) : ∀ p, isO o p = true -> isRow L p = true := by
 intro p hp
 simp [isO] at hp; subst hp
 simp [isRow, ho]
theorem row_res {tl : List Nat} (hr : RelT C (sig C X) N env L η w a) {w' : World} {η' : Eta} {o : Nat} {e : TypeId} {xs xs' : List (K e).α} (ho : L[o]? = some (.row e xs)) (hkp : Kept η w w' tl)
 (hf : Fwd L η w ((renL (but o) L).set o (.row e xs')) η' w' (isO o)) (hh : HeapRel (sig C X) ((renL (but o) L).set o (.row e xs')) η' w') {v : Value}
 (hv : RepV (sig C X) ((renL (but o) L).set o (.row e xs')) η' w' (.own o) v) {k : K1 K} (h : k (.own o) (renE (but o) env) ((renL (but o) L).set o (.row e xs'))) :
 Res C X N L η w a tl k v w' :=
 ⟨.own o, _, _, η', h, hv, hr.step hf hh, ⟨isO o, hf, isO_row ho⟩, hkp⟩
def RepO (G : Sig) (L : Heap K) (η : Eta) (w : World) : Option PV -> Option Value -> Prop
 | none, v => v = none
 | some x, v => ∃ u, v = some u /\ RepV G L η w x u
theorem run_bound {G : Sig} {x : Option PV} {v : Option Value} (hx : RepO G L η w x v) {d n : Int} (h : bound x d = some n) {y : Nat} (h0 : 0 <= n) (h1 : n <= y) :
 (v = none /\ n = d) \/ ∃ u, v = some u /\ ∀ P code, (Instr.sliceBound u y code).run P w = .ok n.toNat w := by
 unfold bound at h
 split at h
 ·cases h; exact .inl ⟨hx, rfl⟩
 ·cases h
  obtain ⟨u, rfl, hu⟩ := hx
  obtain rfl := repV_int hu
  exact .inr ⟨_, rfl, fun P code => by simp [Instr.sliceBound, asIntOf, h0, h1, Result.andThen]⟩
 ·cases h
theorem run_bounds {G : Sig} {lo hi : Option PV} {lv hv : Option Value} (hlo : RepO G L η w lo lv) (hhi : RepO G L η w hi hv) {len cap : Nat} {l h : Int} (h1 : bound lo 0 = some l) (h2 : bound hi len = some h)
 (h0 : 0 <= l) (hlh : l <= h) (hcap : h <= cap) {P : Program} (b : Bool) : (Instr.sliceBounds b len cap lv hv none).run P w = .ok (l.toNat, h.toNat, cap) w := by
 rcases run_bound hhi h2 (y := cap) (by omega) hcap with ⟨rfl, rfl⟩ | ⟨u, rfl, hu⟩
 ·rcases run_bound hlo h1 (y := len) h0 (by omega) with ⟨rfl, rfl⟩ | ⟨u, rfl, hu⟩
  ·simp [Instr.sliceBounds, Result.andThen]
  ·simp [Instr.sliceBounds, Result.andThen, hu]
 ·rcases run_bound hlo h1 (y := h.toNat) h0 (by omega) with ⟨rfl, rfl⟩ | ⟨u', rfl, hu'⟩
  ·simp [Instr.sliceBounds, Result.andThen, hu]
  ·simp [Instr.sliceBounds, Result.andThen, hu, hu']
theorem run_bounds3 {G : Sig} {hi : Option PV} {hv : Option Value} {mx : PV} {mv : Option Value} (hhi : RepO G L η w hi hv) (hmx : RepO G L η w (some mx) mv) {kd : IntKind} (hm : mx = .int kd 0) {len cap : Nat} {b : Bool} (h2 : bound hi 1 = some 0) {P : Program} :
 (Instr.sliceBounds b len cap none hv mv).run P w = .ok (0, 0, 0) w := by
 subst hm
 obtain ⟨u, rfl, hu⟩ := hmx
 obtain rfl := repV_int hu
 rcases run_bound hhi h2 (y := 0) (by omega) (by omega) with ⟨_, q⟩ | ⟨u, rfl, hu⟩
 ·cases q
 ·have hs : ∀ code, (Instr.sliceBound (.int kd 0) cap code).run P w = .ok 0 w := by intro code; simp [Instr.sliceBound, asIntOf, Result.andThen]
  simp [Instr.sliceBounds, Result.andThen, hu, hs]
theorem td_und {t e : TypeId} (hc : CfgOk C) (h : C.td t = .slice e) : C.P.underlying t = some (.slice e) := by
 unfold Cfg.td at h
 split at h
 ·rename_i i hi; have := (hc.ty t i hi).desc; rw [h] at this; exact this
 ·cases h
theorem td_str {t : TypeId} (hc : CfgOk C) (h : C.td t = .str) : C.P.underlying t = some .string := by
 unfold Cfg.td at h
 split at h
 ·rename_i i hi; have := (hc.ty t i hi).desc; rw [h] at this; exact this
 ·cases h
theorem slice_sl (hc : CfgOk C) {t e : TypeId} {ie : TInfo} (hu : C.P.underlying t = some (.slice e)) (hie : C.ty e = some ie) {G : Sig} {α : Type} {enc : α -> PV} {xs : List α} {u : Value}
 (hx : RepV G L η w (.sl α enc xs) u) {G1 : Sig} {L1 : Heap K} {η1 : Eta} {lo hi : Option PV} {lv hv : Option Value} (hlo : RepO G1 L1 η1 w lo lv) (hhi : RepO G1 L1 η1 w hi hv) {l hh : Int}
 (h1 : bound lo 0 = some l) (h2 : bound hi xs.length = some hh) (hlen : ∀ y, y ∈ xs -> (enc y).cells.length = ie.size) (q1 : 0 <= l) (q2 : l <= hh) (q3 : hh <= xs.length) :
 ∃ v, (Instr.sliceAt t u lv hv none).run C.P w = .ok v w /\ RepV G L η w (.sl α enc ((xs.take hh.toNat).drop l.toNat)) v := by
 obtain ⟨_, hq⟩ := repV_one hx (by simp) rfl
 obtain ⟨A, cap, hA, hcap, hq⟩ := hq
 simp at hA; subst hA
 refine ⟨.slice (if cap = l.toNat then A else A.map (·.add (l.toNat * ie.size))) (hh.toNat - l.toNat) (cap - l.toNat), ?_, repV_mk rfl rfl ?_⟩
 ·have hsz := (hc.ty e ie hie).size w
  have hb := run_bounds hlo hhi h1 h2 q1 q2 (cap := cap) (by omega) (P := C.P) true
  simp [Instr.sliceAt, Instr.slice, run_underlying hu, Result.andThen, hb, hsz]
 ·have hl : ((xs.take hh.toNat).drop l.toNat).length = hh.toNat - l.toNat := by simp; omega
  refine ⟨_, _, by rw [hl], by rw [hl]; omega, ?_⟩
  by_cases hz : hh.toNat - l.toNat = 0
  ·left; exact List.eq_nil_of_length_eq_zero (by rw [hl]; exact hz)
  ·right
   rcases hq with rfl | ⟨b, off, s, cells, ty, fr, rfl, hs, hM, hb, hel⟩
   ·simp at q3; omega
   ·have hss : s = ie.size := by
     have h0 : 0 < xs.length := by omega
     obtain ⟨cs, c1, c2, _⟩ := hel 0 xs[0] (List.getElem?_eq_getElem h0)
     rw [<- c1, c2.length, hlen _ (List.getElem_mem h0)]
    subst hss
    refine ⟨b, off + l.toNat * ie.size, ie.size, cells, ty, fr, ?_, hs, hM, hb, ?_⟩
    ·rw [if_neg (by omega)]; simp [add_plain']
    ·intro i y hi
     rw [List.getElem?_drop, List.getElem?_take] at hi
     split at hi
     ·obtain ⟨cs, c1, c2, c3⟩ := hel _ _ hi
      refine ⟨cs, c1, c2, fun j v hj => ?_⟩
      have := c3 j v hj
      rw [Nat.add_mul] at this
      rw [show off + l.toNat * ie.size + i * ie.size + j = off + (l.toNat * ie.size + i * ie.size) + j by omega]
      exact this
     ·cases hi
theorem frz_rep (hr : HeapRel (sig C X) L η w) {o : Nat} {e : TypeId} {xs : List (K e).α} (hL : L[o]? = some (.row e xs)) {u : Value} (hx : RepV (sig C X) L η w (.own o) u) :
 RepV (sig C X) (goneAll [o] L) η w (.sl (K e).α (K e).enc xs) u := by
 obtain ⟨ha, hq⟩ := repV_one hx (by simp) rfl
 have hs : solid C L 1 (.own o) = some (.sl (K e).α (K e).enc xs) := by simp [solid, hL]
 exact repV_mk rfl ha ((solid_ok hr 1).1 (.own o) [u] _ hs hq (gone_off hr [o]))
theorem frz_rel (hr : RelT C (sig C X) N env L η w a) {o : Nat} {e : TypeId} {xs : List (K e).α} (hL : L[o]? = some (.row e xs)) :
 RelT C (sig C X) N (frzE o (.sl (K e).α (K e).enc xs) env) (goneAll [o] L) η w a := by
 have h0 := hr.step0 (gone_fwd [o]) (gone_heap hr.heap [o])
 refine ⟨h0.heap, by rw [frzE, List.length_map]; exact hr.elen, hr.size, hr.defers, ?_, h0.glob⟩
 intro t x hx
 rw [frzE, List.getElem?_map] at hx
 obtain ⟨y, hy, rfl⟩ := Option.map_eq_some_iff.1 hx
 cases y with
 | own p =>
  show RepV _ _ _ _ (match Nat.beq p o with | true => _ | false => .own p) _
  cases hp : Nat.beq p o with
  | false => exact h0.tmp t _ hy
  | true =>
   have : p = o := Nat.eq_of_beq_eq_true hp
   subst this
   exact frz_rep hr.heap hL (hr.tmp t _ hy)
 | _ => exact h0.tmp t _ hy
theorem evSlice_ok (hc : CfgOk C) (hr : RelT C (sig C X) N env L η w a) {t : TypeId} {x : PV} {u : Value} {lo hi mx : Option PV} {lv hv mv : Option Value} (hx : RepV (sig C X) L η w x u)
 (hlo : RepO (sig C X) L η w lo lv) (hhi : RepO (sig C X) L η w hi hv) (hmx : RepO (sig C X) L η w mx mv) {k : K1 K} (h : evSlice C t x lo hi mx env L k) :
 ∃ v w', (Instr.sliceAt t u lv hv mv).run C.P w = .ok v w' /\ Res C X N L η w a [] k v w' := by
 unfold evSlice at h
 split at h
 ·rename_i htd
  have hu := td_str hc htd
  split at h
  ·rename_i s
   obtain rfl := repV_str hx
   obtain rfl : mv = none := hmx
   split at h
   ·rename_i l hh h1 h2
    obtain ⟨⟨q1, q2, q3⟩, hk⟩ := h
    refine ⟨.string (s.extract l.toNat hh.toNat), w, ?_, res_mk hr .same hk (Fwd.refl _ _ _ _) hr.heap (rv_str _)⟩
    have := run_bounds hlo hhi h1 h2 q1 q2 q3 (P := C.P) false
    simp [Instr.sliceAt, Instr.slice, run_underlying hu, Result.andThen, this]
   ·exact h.elim
  ·exact h.elim
 ·rename_i e htd
  have hu := td_und hc htd
  split at h
  ·rename_i ie hie
   have hsz := (hc.ty e ie hie).size w
   split at h
   ·obtain rfl : mv = none := hmx
    split at h
    ·rename_i α enc xs
     split at h
     ·rename_i l hh h1 h2
      obtain ⟨hlen, ⟨q1, q2, q3⟩, hk⟩ := h
      obtain ⟨_, hq⟩ := repV_one hx (by simp) rfl
      obtain ⟨A, cap, hA, hcap, hq⟩ := hq
      simp at hA; subst hA
      have hb := run_bounds hlo hhi h1 h2 q1 q2 (cap := cap) (by omega) (P := C.P) true
      refine ⟨.slice (if cap = l.toNat then A else A.map (·.add (l.toNat * ie.size))) (hh.toNat - l.toNat) (cap - l.toNat), w, ?_, res_mk hr .same hk (Fwd.refl _ _ _ _) hr.heap (repV_mk rfl rfl ?_)⟩
      ·simp [Instr.sliceAt, Instr.slice, run_underlying hu, Result.andThen, hb, hsz]
      ·have hl : ((xs.take hh.toNat).drop l.toNat).length = hh.toNat - l.toNat := by simp; omega
       refine ⟨_, _, by rw [hl], by rw [hl]; omega, ?_⟩
       by_cases hz : hh.toNat - l.toNat = 0
       ·left; exact List.eq_nil_of_length_eq_zero (by rw [hl]; exact hz)
       ·right
        rcases hq with rfl | ⟨b, off, s, cells, ty, fr, rfl, hs, hM, hb, hel⟩
        ·simp at q3; omega
        ·have hss : s = ie.size := by
          have h0 : 0 < xs.length := by omega
          obtain ⟨cs, c1, c2, _⟩ := hel 0 xs[0] (List.getElem?_eq_getElem h0)
          rw [<- c1, c2.length, hlen _ (List.getElem_mem h0)]
         subst hss
         refine ⟨b, off + l.toNat * ie.size, ie.size, cells, ty, fr, ?_, hs, hM, hb, ?_⟩
         ·rw [if_neg (by omega)]; simp [add_plain']
         ·intro i y hi
          rw [List.getElem?_drop, List.getElem?_take] at hi
          split at hi
          ·obtain ⟨cs, c1, c2, c3⟩ := hel _ _ hi
           refine ⟨cs, c1, c2, fun j v hj => ?_⟩
           have := c3 j v hj
           rw [Nat.add_mul] at this
           rw [show off + l.toNat * ie.size + i * ie.size + j = off + (l.toNat * ie.size + i * ie.size) + j by omega]
           exact this
          ·cases hi
     ·exact h.elim
    ·rename_i o
     split at h
     ·rename_i e' xs _ hh hL
      obtain ⟨⟨q1, q2⟩, hk⟩ := h
      obtain ⟨_, hq⟩ := repV_one hx (by simp) rfl
      obtain ⟨hlt, _, hq⟩ := hq
      obtain ⟨A, cap, hA, hcap, hq2⟩ := hq e' xs hL
      simp at hA; subst hA
      obtain rfl : lv = none := hlo
      have hb := run_bounds (len := xs.length) (lo := none) (l := 0) rfl hhi rfl (show bound (some (.int _ hh)) _ = some hh from rfl) (Int.le_refl _) q1 (cap := cap) (by omega) (P := C.P) true
      have hl : (xs.take hh.toNat).length = hh.toNat := by simp; omega
      have hA0 : A.map (fun a => a.add (0 * ie.size)) = A := by
       cases A with
       | none => rfl
       | some a => simp [Addr.add]
      refine ⟨.slice A hh.toNat cap, w, ?_, ?_⟩
      ·simp only [Instr.sliceAt, Instr.slice, Sem.run_bind, run_underlying hu, Result.andThen, hb, hsz, Sem.run_pure, Int.toNat_zero, Nat.sub_zero, hA0, ite_self]
      ·have hf : Fwd L η w ((renL (but o) L).set o (.row e' (xs.take hh.toNat))) (upd η o (η o)) w (isO o) := grow_fwd (More.refl w) hL (isO_self o) (η o) (fun b hb => .inr hb)
       have hobj : ObjRel (sig C X) ((renL (but o) L).set o (.row e' (xs.take hh.toNat))) (upd η o (η o)) w o (.row e' (xs.take hh.toNat)) := by
        rcases hr.heap.obj o _ hL with ⟨g1, g2⟩ | ⟨b, cells, fr0, hfr0, g1, g2, g3⟩
        ·left; subst g1; exact ⟨by simp, by rw [upd_same]; exact g2⟩
        ·right
         obtain ⟨g3, g4, g5⟩ := g3.fwd hf hr.heap
         refine ⟨b, cells, fr0, hfr0, by rw [upd_same]; exact g1, g2, g3, Nat.le_trans (Nat.mul_le_mul_right _ (by rw [hl]; omega)) g4, ?_⟩
         intro i x hi
         rw [List.getElem?_take] at hi
         split at hi
         ·exact g5 i x hi
         ·cases hi
       refine row_res hr hL .same hf (grow_heap hr.heap (More.refl w) hL (isO_self o) (η o) (fun b hb => .inr hb) hobj) (repV_mk rfl rfl ⟨by simp [renL_length]; exact hlt, ⟨_, rfl, rfl⟩, ?_⟩) hk
       intro e2 xs2 hL2
       rw [List.getElem?_set_self (by simp [renL_length]; exact hlt)] at hL2
       cases hL2
       refine ⟨A, cap, by rw [hl], by rw [hl]; omega, ?_⟩
       rw [upd_same]; exact hq2
     ·rename_i e2 xs y hL
      split at h
      ·rename_i l hh h1 h2
       obtain ⟨hlen, ⟨q1, q2, q3⟩, hk⟩ := h
       obtain ⟨v, hv1, hv2⟩ := slice_sl hc hu hie (frz_rep hr.heap hL hx) hlo hhi h1 h2 hlen q1 q2 q3
       split at hk
       ·exact ⟨v, w, hv1, _, _, _, η, hk, hv2, frz_rel hr hL, ⟨noBad, gone_fwd [o], fun o h => by cases h⟩, .same⟩
       ·exact ⟨v, w, hv1, res_mk hr .same hk (Fwd.refl _ _ _ _) hr.heap (.inl rfl)⟩
      ·exact h.elim
     ·exact h.elim
    ·exact h.elim
   ·rename_i kd m
    split at h
    ·rename_i hh hb2 hcod
     obtain rfl : lv = none := hlo
     have hmk : ∀ A len cap, u = .slice A len cap -> m = 0 -> hh = 0 -> k (.own L.length) env (L ++ [.row e []]) -> ∃ v w', (Instr.sliceAt t u none hv mv).run C.P w = .ok v w' /\ Res C X N L η w a [] k v w' := by
      intro A len cap hA hm0 hh0 hk
      subst hA hm0 hh0
      obtain ⟨pf, ph⟩ := push_nil hr.heap e
      have hb := run_bounds3 (len := len) (cap := cap) (b := true) hhi hmx rfl hb2 (P := C.P)
      refine ⟨.slice A 0 0, w, ?_, res_mk hr .same hk pf ph (repV_mk rfl rfl ⟨by simp, ⟨_, rfl, rfl⟩, ?_⟩)⟩
      ·simp [Instr.sliceAt, Instr.slice, run_underlying hu, Result.andThen, hb, hsz]
      ·intro e2 xs2 hL2
       simp at hL2
       obtain ⟨rfl, hL2⟩ := hL2
       cases hL2
       exact ⟨A, 0, rfl, Nat.le_refl _, .inl rfl⟩
     split at h
     ·obtain ⟨⟨rfl, rfl⟩, hk⟩ := h
      obtain ⟨_, hq⟩ := repV_one hx (by simp) rfl
      obtain ⟨A, cap, hA, _, _⟩ := hq
      simp at hA
      exact hmk _ _ _ hA rfl rfl hk
     ·rename_i o
      split at h
      ·rename_i e' xs hL
       obtain ⟨⟨rfl, rfl⟩, hk⟩ := h
       obtain ⟨_, hq⟩ := repV_one hx (by simp) rfl
       obtain ⟨hlt, _, hq⟩ := hq
       obtain ⟨A, cap, hA, _, _⟩ := hq e' xs hL
       simp at hA
       exact hmk _ _ _ hA rfl rfl hk
      ·exact h.elim
     ·exact h.elim
    ·exact h.elim
   ·exact h.elim
  ·exact h.elim
 ·exact h.elim
end Go.Ab
namespace Go.Ab
open Go
variable [DMode] {K : Codes} {C : Cfg K} {X : Nat -> Prop} {N : Nat} {env : List PV} {L : Heap K} {η : Eta} {w : World} {a : Act}
theorem RepF.go_one {I : Ids} {M : Nat -> Prop} : ∀ {xs : List PV} {l : List Value}, RepF.go I M w xs l -> ∀ v, v ∈ l -> v.oneCell' = true
 | [], l, h, v, hv => by simp only [RepF.go] at h; subst h; simp at hv
 | x :: xs, l, h, v, hv => by
  obtain ⟨u, r, rfl, h0, _, h⟩ := h
  rcases List.mem_cons.1 hv with rfl | hv
  ·exact h0.2
  ·exact RepF.go_one h v hv
theorem RepF.ones {I : Ids} {M : Nat -> Prop} {x : PV} {l : List Value} (h : RepF I M w x l) : ∀ v, v ∈ l -> v.oneCell' = true := by
 rcases h.cells with h1 | ⟨ha, h1⟩
 ·exact RepF.go_one h1
 ·intro v hv
  match l, h1 with
  | [u], _ =>
   simp at hv; subst hv
   exact h.one ha
structure News (I : Ids) (M : Nat -> Prop) (w : World) (s : Nat) (c : Cod) (ys : List c.α) (news : List Value) : Prop where
 len : news.length = ys.length * s
 one : ∀ v, v ∈ news -> v.oneCell' = true
 el : ∀ (i : Nat) (x : c.α), ys[i]? = some x -> ∃ cs : List Value, cs.length = s /\ RepF I M w (c.enc x) cs /\ ∀ (j : Nat) (v : Value), cs[j]? = some v -> news[i * s + j]? = some v
theorem news_nil {I : Ids} {M : Nat -> Prop} {s : Nat} {c : Cod} : News I M w s c [] [] := ⟨by simp, by simp, by simp⟩
theorem news_of {I : Ids} {M : Nat -> Prop} {s : Nat} (hs : 0 < s) {c : Cod} {ys : List c.α} {off : Nat} {cells : Array Value}
 (h : ∀ (i : Nat) (x : c.α), ys[i]? = some x -> ∃ cs : List Value, cs.length = s /\ RepF I M w (c.enc x) cs /\ ∀ (j : Nat) (v : Value), cs[j]? = some v -> cells[off + i * s + j]? = some v) :
 ∃ news, News I M w s c ys news /\ ∀ (j : Nat) (v : Value), news[j]? = some v -> cells[off + j]? = some v := by
 have hin : ∀ p, p < ys.length * s -> ∃ v, cells[off + p]? = some v /\ v.oneCell' = true := by
  intro p hp
  have h1 : p / s < ys.length := Nat.div_lt_of_lt_mul (by rw [Nat.mul_comm]; exact hp)
  obtain ⟨cs, c1, c2, c3⟩ := h (p / s) _ (List.getElem?_eq_getElem h1)
  have h2 : p % s < cs.length := by rw [c1]; exact Nat.mod_lt _ hs
  have := c3 (p % s) _ (List.getElem?_eq_getElem h2)
  refine ⟨_, ?_, c2.ones _ (List.getElem_mem h2)⟩
  rw [<- this]; congr 1
  have := Nat.div_add_mod p s
  rw [Nat.mul_comm] at this; omega
 have hsz : ys.length = 0 \/ off + ys.length * s <= cells.size := by
  rcases Nat.eq_zero_or_pos ys.length with h0 | h0
  ·exact .inl h0
  ·right
   have hpos : 0 < ys.length * s := Nat.mul_pos h0 hs
   obtain ⟨v, hv, _⟩ := hin (ys.length * s - 1) (by omega)
   have := (Array.getElem?_eq_some_iff.1 hv).1
   omega
 have hget : ∀ p, ((cells.toList.drop off).take (ys.length * s))[p]? = if p < ys.length * s then cells[off + p]? else none := by
  intro p
  rw [List.getElem?_take, List.getElem?_drop, Array.getElem?_toList]
 refine ⟨(cells.toList.drop off).take (ys.length * s), ⟨?_, ?_, ?_⟩, ?_⟩
 ·rcases hsz with h0 | h0
  ·simp [h0]
  ·simp; omega
 ·intro v hv
  obtain ⟨p, hp⟩ := List.getElem?_of_mem hv
  rw [hget] at hp
  split at hp
  ·rename_i hlt
   obtain ⟨u, hu, h1⟩ := hin p hlt
   rw [hu] at hp; cases hp; exact h1
  ·cases hp
 ·intro i x hi
  obtain ⟨cs, c1, c2, c3⟩ := h i x hi
  refine ⟨cs, c1, c2, fun j v hj => ?_⟩
  have hj' : j < s := by rw [<- c1]; exact (List.getElem?_eq_some_iff.1 hj).1
  have hi' := (List.getElem?_eq_some_iff.1 hi).1
  have : (i + 1) * s <= ys.length * s := Nat.mul_le_mul_right _ hi'
  rw [Nat.add_mul] at this
  rw [hget, if_pos (by omega), <- Nat.add_assoc]
  exact c3 j v hj
 ·intro j v hj
  rw [hget] at hj
  split at hj
  ·exact hj
  ·cases hj
theorem first_none {P : Program} {w1 : World} (s len cap : Nat) (A : Option Addr) : (Builtin.firstCells s 0 (.slice A len cap)).run P w1 = .ok ⟨[]⟩ w1 := by
 cases A with
 | none => simp [Builtin.firstCells]
 | some a => exact run_firstCells_some w1 s 0 a len cap [] (by simp) (by simp)
theorem first_blk {P : Program} {w1 : World} {b off s n len cap : Nat} {cells : Array Value} {t : TypeId} {fr : Nat × Nat} (hb : w1.heap[b]? = some (.cells cells t fr)) {news : List Value} (hl : news.length = n * s)
 (h : ∀ (j : Nat) (v : Value), news[j]? = some v -> cells[off + j]? = some v) : (Builtin.firstCells s n (.slice (some ⟨b, off, none⟩) len cap)).run P w1 = .ok ⟨news⟩ w1 := by
 refine run_firstCells_some w1 s n _ len cap news hl fun j v hj => ?_
 rw [add_plain', cell_of_blk hb]
 exact h j v hj
theorem evSrc_ok (hc : CfgOk C) (hh : HeapRel (sig C X) L η w) {e : TypeId} {ie : TInfo} (hie : C.ty e = some ie) (hcod : C.cod e = true) (hs : 0 < ie.size) {x : PV} {v : Value} (hx : RepV (sig C X) L η w x v)
 {k : List (K e).α -> Prop} (h : evSrc e x L k) : ∃ ys news, k ys /\ (∀ w1 : World, (Builtin.lenOf v).run C.P w1 = .ok ys.length w1) /\
  (∀ w1 : World, w1.heap = w.heap -> (Builtin.firstCells ie.size ys.length v).run C.P w1 = .ok ⟨news⟩ w1) /\ News (sig C X).I (Mx (sig C X) L η) w ie.size (K e) ys news := by
 unfold evSrc at h
 split at h
 ·rename_i o
  split at h
  ·rename_i e2 xs hL
   split at h
   ·rename_i he
    subst he
    obtain ⟨_, hq⟩ := repV_one hx (by simp) rfl
    obtain ⟨hlt, _, hq⟩ := hq
    obtain ⟨A, cap, hA, hcap, hq2⟩ := hq e2 xs hL
    simp at hA; subst hA
    rcases hh.obj o _ hL with ⟨g1, g2⟩ | ⟨b, cells, fr0, hfr0, g1, g2, g3, g4, g5⟩
    ·subst g1
     exact ⟨[], [], h, fun w1 => by simp [Builtin.lenOf], fun w1 _ => first_none _ _ _ _, news_nil⟩
    ·have hco := (hc.ty e2 ie hie).cellsOf
     have hsz : (sig C X).sz e2 = ie.size := hco
     rw [hsz] at g3 g4 g5
     obtain ⟨news, n1, n2⟩ := news_of (w := w) (off := 0) hs (ys := xs) (cells := cells) (fun i x hi => by
      obtain ⟨cs, c1, c2, c3⟩ := g5 i x hi
      exact ⟨cs, c1, c2, fun j v hj => by rw [Nat.zero_add]; exact c3 j v hj⟩)
     refine ⟨xs, news, h, fun w1 => by simp [Builtin.lenOf], fun w1 hw => ?_, n1⟩
     rcases hq2 with h0 | ⟨b', cells', t', fr', q1, q2, q3, _⟩
     ·have : xs = [] := List.eq_nil_of_length_eq_zero (by omega)
      subst this
      have : news = [] := List.eq_nil_of_length_eq_zero (by rw [n1.len]; simp)
      subst this
      exact first_none _ _ _ _
     ·rw [g1] at q1; cases q1
      subst q2
      exact first_blk (by rw [hw]; exact g2) n1.len n2
   ·exact h.elim
  ·exact h.elim
 ·rename_i α enc l
  obtain ⟨ys, hys, hk⟩ := h
  have hlen : ys.length = l.length := by simpa using congrArg List.length hys
  obtain ⟨_, hq⟩ := repV_one hx (by simp) rfl
  obtain ⟨A, cap, hA, hcap, hq⟩ := hq
  simp at hA; subst hA
  rcases hq with rfl | ⟨b, off, s, cells, ty, fr, rfl, hs', hM, hb, hel⟩
  ·have : ys = [] := List.eq_nil_of_length_eq_zero (by simpa using hlen)
   subst this
   exact ⟨[], [], hk, fun w1 => by simp [Builtin.lenOf], fun w1 _ => first_none _ _ _ _, news_nil⟩
  ·by_cases hne : ys = []
   ·subst hne
    have : l = [] := List.eq_nil_of_length_eq_zero (by simpa using hlen.symm)
    subst this
    exact ⟨[], [], hk, fun w1 => by simp [Builtin.lenOf], fun w1 _ => first_none _ _ _ _, news_nil⟩
   have hel' : ∀ (i : Nat) (y : (K e).α), ys[i]? = some y -> ∃ cs : List Value, cs.length = s /\ RepF (sig C X).I (Mx (sig C X) L η) w ((K e).enc y) cs /\ ∀ (j : Nat) (v : Value), cs[j]? = some v -> cells[off + i * s + j]? = some v := by
    intro i y hi
    have h1 : (ys.map (K e).enc)[i]? = some ((K e).enc y) := by simp [hi]
    rw [hys, List.getElem?_map] at h1
    obtain ⟨z, hz, hzz⟩ := Option.map_eq_some_iff.1 h1
    rw [<- hzz]
    exact hel i z hz
   have hss : s = ie.size := by
    have h0 : 0 < ys.length := List.length_pos_iff.2 hne
    obtain ⟨cs, c1, c2, _⟩ := hel' 0 ys[0] (List.getElem?_eq_getElem h0)
    rw [<- c1, c2.length, hc.codsz e ie hcod hie]
   subst hss
   obtain ⟨news, n1, n2⟩ := news_of (w := w) (off := off) hs (ys := ys) (cells := cells) hel'
   refine ⟨ys, news, hk, fun w1 => by simp [Builtin.lenOf, hlen], fun w1 hw => ?_, n1⟩
   exact first_blk (by rw [hw]; exact hb) n1.len n2
 ·rename_i s
  obtain ⟨ys, hys, hk⟩ := h
  obtain rfl := repV_str hx
  have hlen : ys.length = s.size := by simpa [bytesPV] using congrArg List.length hys
  have hone : ∀ y, y ∈ ys -> ie.size = 1 := by
   intro y hy
   have h1 : (K e).enc y ∈ ys.map (K e).enc := List.mem_map_of_mem hy
   rw [hys] at h1
   simp only [bytesPV, List.mem_map] at h1
   obtain ⟨b, _, hb⟩ := h1
   rw [<- hc.codsz e ie hcod hie y, <- hb]; rfl
  have hsz : ys = [] \/ ie.size = 1 := by
   cases ys with
   | nil => exact .inl rfl
   | cons y _ => exact .inr (hone y List.mem_cons_self)
  refine ⟨ys, s.data.toList.map (fun b => .int .u8 b.toNat), hk, fun w1 => by simp [Builtin.lenOf, hlen], fun w1 hw => ?_, ⟨?_, ?_, ?_⟩⟩
  ·rw [hlen]
   have : s.extract 0 s.size = s := by simp
   simp [Builtin.firstCells, this]
   apply Array.ext'; simp
  ·rcases hsz with rfl | h1
   ·have : s.data.size = 0 := hlen.symm
    simp [this]
   ·rw [h1, hlen]; simp
  ·intro v hv
   obtain ⟨b, _, rfl⟩ := List.mem_map.1 hv
   rfl
  ·intro i y hi
   have h1 := hone y (List.mem_of_getElem? hi)
   have h2 : (ys.map (K e).enc)[i]? = some ((K e).enc y) := by simp [hi]
   rw [hys, bytesPV, List.getElem?_map] at h2
   obtain ⟨b, hb, hbb⟩ := Option.map_eq_some_iff.1 h2
   rw [<- hbb, h1]
   refine ⟨[.int .u8 b.toNat], rfl, rfl, fun j v hj => ?_⟩
   cases j with
   | zero => simp at hj; subst hj; rw [Nat.mul_one, Nat.add_zero, List.getElem?_map, hb]; rfl
   | succ j => simp at hj
 ·rename_i u
  split at h
  ·rename_i hn
   obtain rfl := isNil_eq hn
   obtain ⟨ha, hq⟩ := repV_one hx (by simp) rfl
   obtain ⟨hq, _⟩ := hq
   simp at hq; subst hq
   exact ⟨[], [], h, fun w1 => by simp [Builtin.lenOf], fun w1 _ => first_none _ _ _ _, news_nil⟩
  ·exact h.elim
 ·exact h.elim
theorem notInt_und {t : TypeId} (hc : CfgOk C) (h : notIntTd (C.td t) = true) : C.P.underlying t = some .string \/ ∃ e, C.P.underlying t = some (.slice e) := by
 cases htd : C.td t <;> rw [htd] at h <;> simp [notIntTd] at h
 ·exact .inl (td_str hc htd)
 ·exact .inr ⟨_, td_und hc htd⟩
theorem run_append_fits {P : Program} {t t2 ty e : TypeId} {i : TypeInfo} (ht : P.underlying t = some (.slice e)) (h2 : P.underlying t2 = some .string \/ ∃ e, P.underlying t2 = some (.slice e)) (hi : P.info? e = some i)
 {A : Option Addr} {sLen cap n : Nat} {v : Value} {news : List Value} (hl : ∀ w1 : World, (Builtin.lenOf v).run P w1 = .ok n w1) (hf : (Builtin.firstCells i.size n v).run P w = .ok ⟨news⟩ w) (hroom : sLen + n <= cap)
 {w' : World} (hst : ∀ a, A = some a -> (storeCells (a.add (sLen * i.size)) news).run P w = .ok () w') (hno : A = none -> w' = w) :
 (Builtin.append_ #[t, t2] ty #[.slice A sLen cap, v]).run P w = .ok (.slice A (sLen + n) cap) w' := by
 cases A with
 | none =>
  obtain rfl := hno rfl
  rcases h2 with h2 | ⟨e2, h2⟩ <;> simp [Builtin.append_, run_underlying ht, run_underlying h2, run_sizeOf' hi, hl, hroom, hf, Result.andThen]
 | some a =>
  have := hst a rfl
  rcases h2 with h2 | ⟨e2, h2⟩ <;> simp [Builtin.append_, run_underlying ht, run_underlying h2, run_sizeOf' hi, hl, hroom, hf, Result.andThen, this]
theorem run_append_grows {P : Program} {t t2 ty e : TypeId} {i : TypeInfo} {z : Value} (ht : P.underlying t = some (.slice e)) (h2 : P.underlying t2 = some .string \/ ∃ e, P.underlying t2 = some (.slice e)) (hi : P.info? e = some i) (hz : i.zero = some z)
 {A : Option Addr} {sLen cap n : Nat} {v : Value} {olds news : List Value} (hl : ∀ w1 : World, (Builtin.lenOf v).run P w1 = .ok n w1) (hf : (Builtin.firstCells i.size n v).run P w.drew = .ok ⟨news⟩ w.drew)
 (ho : (Builtin.firstCells i.size sLen (.slice A sLen cap)).run P w.drew = .ok ⟨olds⟩ w.drew) (hg : cap < sLen + n) (h63 : ((sLen + n : Nat) : Int) <= 9223372036854775807) (hfit : Builtin.nextslicecap (sLen + n) cap * i.bytes <= 281474976710656) :
 (Builtin.append_ #[t, t2] ty #[.slice A sLen cap, v]).run P w = .ok (.slice (some ⟨w.heap.size, 0, none⟩) (sLen + n) (grownCap w (sLen + n) cap e))
  (w.drew.alloc (.cells (⟨olds⟩ ++ ⟨news⟩ ++ Builtin.zeroCells z.cells (grownCap w (sLen + n) cap e - (sLen + n))) e)) := by
 have hn : ¬ (sLen + n <= cap) := by omega
 have h63' : ¬ (9223372036854775807 < ((sLen : Int) + (n : Int))) := by omega
 have h48' : ¬ (281474976710656 < Builtin.nextslicecap (sLen + n) cap * i.bytes) := by omega
 rcases h2 with h2 | ⟨e2, h2⟩ <;> simp [Builtin.append_, run_underlying ht, run_underlying h2, sizeOf, typeInfo, zeroValue, hi, hz, hl, hn, h63', h48', Question.forced, hf, ho, newRow, grownCap] <;> congr 2 <;> apply Array.ext' <;> simp
theorem RowRel.append {G : Sig} {M : Nat -> Prop} {s : Nat} {c : Cod} {xs ys : List c.α} {cells cells' : Array Value} {news : List Value} (hs : 0 < s)
 (hx : ∀ (i : Nat) (x : c.α), xs[i]? = some x -> ∃ cs : List Value, cs.length = s /\ RepF G.I M w (c.enc x) cs /\ ∀ (j : Nat) (v : Value), cs[j]? = some v -> cells[i * s + j]? = some v) (hn : News G.I M w s c ys news)
 (hsz : (xs.length + ys.length) * s <= cells'.size) (hold : ∀ p, p < xs.length * s -> cells'[p]? = cells[p]?) (hnew : ∀ (p : Nat) (v : Value), news[p]? = some v -> cells'[xs.length * s + p]? = some v) :
 RowRel G M w s c (xs ++ ys) cells' := by
 refine ⟨hs, by simpa using hsz, fun i x hi => ?_⟩
 by_cases h : i < xs.length
 ·rw [List.getElem?_append_left h] at hi
  obtain ⟨cs, c1, c2, c3⟩ := hx i x hi
  refine ⟨cs, c1, c2, fun j v hj => ?_⟩
  have hj' : j < s := by rw [<- c1]; exact (List.getElem?_eq_some_iff.1 hj).1
  have : (i + 1) * s <= xs.length * s := Nat.mul_le_mul_right _ h
  rw [Nat.add_mul] at this
  rw [hold _ (by omega)]
  exact c3 j v hj
 ·rw [List.getElem?_append_right (by omega)] at hi
  obtain ⟨cs, c1, c2, c3⟩ := hn.el _ x hi
  refine ⟨cs, c1, c2, fun j v hj => ?_⟩
  have := hnew _ v (c3 j v hj)
  rw [Nat.sub_mul, <- Nat.add_assoc] at this
  rw [show i * s + j = xs.length * s + (i * s - xs.length * s) + j from ?_]
  ·exact this
  ·have : xs.length * s <= i * s := Nat.mul_le_mul_right _ (by omega)
   omega
theorem evAppend_ok (hc : CfgOk C) (hr : RelT C (sig C X) N env L η w a) {t t2 ty : TypeId} {s x : PV} {u v : Value} (hs : RepV (sig C X) L η w s u) (hx : RepV (sig C X) L η w x v) {k : K1 K} (h : evAppend C t t2 s x env L k) :
 ∃ r w', (Builtin.append_ #[t, t2] ty #[u, v]).run C.P w = .ok r w' /\ Res C X N L η w a (tlOf s) k r w' := by
 unfold evAppend at h
 split at h
 ·rename_i e htd hni
  have ht := td_und hc htd
  have h2 := notInt_und hc hni
  split at h
  ·rename_i ie hie hcod
   obtain ⟨hq, h⟩ := chk_iff h
   simp only [Bool.and_eq_true] at hq
   have hpos : 0 < ie.size := Nat.le_of_ble_eq_true hq.1
   have hby : 1 <= ie.bytes := Nat.le_of_ble_eq_true hq.2
   have hco : (sig C X).sz e = ie.size := (hc.ty e ie hie).cellsOf
   obtain ⟨inf, i1, i2, i3, z, i4, i5, i6⟩ := (hc.ty e ie hie).info
   have hzl : z.cells.size = ie.size := by
    have := Rep.go_length (i6 (sig C X) L η w)
    rw [(hc.ty e ie hie).zlen] at this
    simpa using this
   obtain ⟨ys, news, hk, hlen, hfirst, hnews⟩ := evSrc_ok hc hr.heap hie hcod hpos hx h
   clear h
   rw [<- i2] at hfirst
   have bound : ∀ m : Nat, m * ie.bytes <= 140737488355328 -> (m : Int) <= 9223372036854775807 /\ m * inf.bytes <= 140737488355328 := by
    intro m hm
    have := Nat.mul_le_mul_left m hby
    exact ⟨by omega, by rw [i3]; exact hm⟩
   have hzc : ∀ n, (Builtin.zeroCells z.cells n).size = n * ie.size := fun n => by rw [size_zeroCells, hzl]
   split at hk
   ·rename_i o
    split at hk
    ·rename_i e2 xs hL
     split at hk
     ·rename_i he
      subst he
      obtain ⟨hbytes, hk⟩ := hk
      obtain ⟨b63, bby⟩ := bound _ hbytes
      obtain ⟨_, hq⟩ := repV_one hs (by simp) rfl
      obtain ⟨hlt, _, hq⟩ := hq
      obtain ⟨A, cap, hA, hcap, hq2⟩ := hq e2 xs hL
      clear hq
      simp at hA; subst hA
      have hset : ((renL (but o) L).set o (.row e2 (xs ++ ys)))[o]? = some (.row e2 (xs ++ ys)) := List.getElem?_set_self (by simp [renL_length]; exact hlt)
      by_cases hroom : xs.length + ys.length <= cap
      ·rcases hq2 with h0 | ⟨b, cells, t', fr', q1, q2, q3, q4⟩
       ·-- no block
        have hx0 : xs = [] := List.eq_nil_of_length_eq_zero (by omega)
        have hy0 : ys = [] := List.eq_nil_of_length_eq_zero (by omega)
        subst hx0 hy0
        have hn0 : news = [] := List.eq_nil_of_length_eq_zero (by rw [hnews.len]; simp)
        subst hn0
        refine ⟨_, _, run_append_fits (w' := w) ht h2 i1 hlen (hfirst w rfl) hroom (fun a _ => by simp [storeCells]) (fun _ => rfl), ?_⟩
        have hf : Fwd L η w ((renL (but o) L).set o (.row e2 ([] ++ []))) (upd η o (η o)) w (isO o) := grow_fwd (More.refl w) hL (isO_self o) (η o) (fun b hb => .inr hb)
        have hobj : ObjRel (sig C X) ((renL (but o) L).set o (.row e2 ([] ++ []))) (upd η o (η o)) w o (.row e2 ([] ++ [])) := by
         rcases hr.heap.obj o _ hL with ⟨g1, g2⟩ | ⟨b, cells, fr0, hfr0, g1, g2, g3⟩
         ·left; exact ⟨by simp, by rw [upd_same]; exact g2⟩
         ·right; exact ⟨b, cells, fr0, hfr0, by rw [upd_same]; exact g1, g2, g3.fwd hf hr.heap⟩
        refine row_res hr hL .same hf (grow_heap hr.heap (More.refl w) hL (isO_self o) (η o) (fun b hb => .inr hb) hobj) (repV_mk rfl rfl ⟨by simp [renL_length]; exact hlt, ⟨_, rfl, rfl⟩, ?_⟩) hk
        intro e3 xs3 hL3
        rw [hset] at hL3
        cases hL3
        exact ⟨A, cap, by simp, by simp, .inl h0⟩
       ·subst q2
        rcases hr.heap.obj o _ hL with ⟨g1, g2⟩ | ⟨b', cells', fr0, hfr0, g1, g2, g3, g4, g5⟩
        ·rw [g2] at q1; cases q1
        rw [q1] at g1; cases g1
        rw [q3] at g2; cases g2
        rw [hco] at q4 g4 g5
        have hfits : (xs.length + ys.length) * ie.size <= cells.size := Nat.le_trans (Nat.mul_le_mul_right _ hroom) q4
        have hfits' := hfits
        rw [Nat.add_mul, <- hnews.len] at hfits'
        obtain ⟨w', e1, e2'⟩ := run_storeCellsF (P := C.P) b (xs.length * ie.size) e2 fr' news 0 w cells.toList (by simpa using q3) (hfr0.size (by simp)) (by simpa using hfits') hnews.one
        simp only [Nat.add_zero] at e2'
        refine ⟨_, _, run_append_fits (w' := w') ht h2 i1 hlen (hfirst w rfl) hroom (fun a ha => by cases ha; rw [add_plain', Nat.zero_add, i2]; exact e1) (fun h => by cases h), ?_⟩
        have hf := set_fwd (bad := isO o) (x' := .row e2 (xs ++ ys)) e2' hL rfl q1 ⟨rfl, .inl (isO_self o)⟩
        have hrow : RowRel (sig C X) (Mx (sig C X) L η) w ((sig C X).sz e2) (K e2) (xs ++ ys) ⟨setV cells.toList (xs.length * ie.size) news⟩ := by
         rw [hco]
         refine RowRel.append hpos g5 hnews (by simpa [setV_length] using hfits) ?_ ?_
         ·intro p hp
          rw [List.getElem?_toArray, setV_get _ _ _ _ (by simpa using hfits'), if_neg (by omega), Array.getElem?_toList]
         ·intro p v hp
          have hpl := (List.getElem?_eq_some_iff.1 hp).1
          rw [List.getElem?_toArray, setV_get _ _ _ _ (by simpa using hfits'), if_pos (by omega), Nat.add_sub_cancel_left]
          exact hp
        have hobj : ObjRel (sig C X) ((renL (butB (isO o)) L).set o (.row e2 (xs ++ ys))) η w' o (.row e2 (xs ++ ys)) := .inr ⟨b, _, fr', hfr0.size (by simp [setV_length]), q1, e2'.now, hrow.fwd hf hr.heap⟩
        refine row_res hr hL (fun i _ hi => e2'.keep i fun e => hi o (by simp [tlOf]) (e ▸ q1)) hf (set_heap hr.heap e2' hL rfl q1 ⟨rfl, .inl (isO_self o)⟩ hobj) (repV_mk rfl rfl ⟨by simp [renL_length]; exact hlt, ⟨_, rfl, rfl⟩, ?_⟩) hk
        intro e3 xs3 hL3
        rw [hset] at hL3
        cases hL3
        exact ⟨_, cap, by simp, by simpa using hroom, .inr ⟨b, _, e2, fr', q1, rfl, e2'.now, by rw [hco]; simpa [setV_length] using q4⟩⟩
      ·-- a new block
       have hgr : cap < xs.length + ys.length := by omega
       obtain ⟨olds, n1, n2⟩ : ∃ olds, News (sig C X).I (Mx (sig C X) L η) w ie.size (K e2) xs olds /\ (Builtin.firstCells inf.size xs.length (.slice A xs.length cap)).run C.P w.drew = .ok ⟨olds⟩ w.drew := by
        rcases hr.heap.obj o _ hL with ⟨g1, g2⟩ | ⟨b', cells', fr0, hfr0, g1, g2, g3, g4, g5⟩
        ·subst g1; exact ⟨[], news_nil, first_none _ _ _ _⟩
        ·rw [hco] at g4 g5
         obtain ⟨olds, n1, n2⟩ := news_of (w := w) (off := 0) hpos (ys := xs) (cells := cells') (fun i x hi => by
          obtain ⟨cs, c1, c2, c3⟩ := g5 i x hi
          exact ⟨cs, c1, c2, fun j v hj => by rw [Nat.zero_add]; exact c3 j v hj⟩)
         refine ⟨olds, n1, ?_⟩
         rcases hq2 with h0 | ⟨b, cells, t', fr', q1, q2, q3, _⟩
         ·have : xs = [] := List.eq_nil_of_length_eq_zero (by omega)
          subst this
          have : olds = [] := List.eq_nil_of_length_eq_zero (by rw [n1.len]; simp)
          subst this
          exact first_none _ _ _ _
         ·rw [g1] at q1; cases q1
          subst q2
          rw [i2]
          exact first_blk (by exact g2) n1.len n2
       refine ⟨_, _, run_append_grows ht h2 i1 i4 hlen (hfirst w.drew rfl) n2 hgr b63 (growslice_fits hgr bby), ?_⟩
       have hmore : More w (w.drew.alloc (.cells (⟨olds⟩ ++ ⟨news⟩ ++ Builtin.zeroCells z.cells (grownCap w (xs.length + ys.length) cap e2 - (xs.length + ys.length))) e2)) :=
        (More.of_heap (w := w) (w' := w.drew) rfl rfl ⟨rfl, fun _ => Nat.le_succ _⟩ rfl).trans (More.alloc _ _)
       have hf := grow_fwd (η := η) (xs' := xs ++ ys) hmore hL (isO_self o) (some w.heap.size) (fun b hb => by cases hb; exact .inl (Nat.le_refl _))
       have hcap2 := grownCap_ge w (xs.length + ys.length) cap e2
       have hcsz : (⟨olds⟩ ++ ⟨news⟩ ++ Builtin.zeroCells z.cells (grownCap w (xs.length + ys.length) cap e2 - (xs.length + ys.length)) : Array Value).size = grownCap w (xs.length + ys.length) cap e2 * ie.size := by
        simp only [Array.size_append, List.size_toArray, hzc, n1.len, hnews.len, <- Nat.add_mul]
        congr 1; omega
       have hrow : RowRel (sig C X) (Mx (sig C X) L η) w ((sig C X).sz e2) (K e2) (xs ++ ys) (⟨olds⟩ ++ ⟨news⟩ ++ Builtin.zeroCells z.cells (grownCap w (xs.length + ys.length) cap e2 - (xs.length + ys.length))) := by
        rw [hco]
        have hol := n1.len
        refine RowRel.append (cells := ⟨olds⟩) hpos ?_ hnews (by rw [hcsz]; exact Nat.mul_le_mul_right _ hcap2) ?_ ?_
        ·intro i x hi
         obtain ⟨cs, c1, c2, c3⟩ := n1.el i x hi
         exact ⟨cs, c1, c2, fun j v hj => by rw [List.getElem?_toArray]; exact c3 j v hj⟩
        ·intro p hp
         rw [Array.append_assoc, Array.getElem?_append_left (by simpa [hol] using hp)]
        ·intro p v hp
         have hpl := (List.getElem?_eq_some_iff.1 hp).1
         rw [Array.append_assoc, Array.getElem?_append_right (by simp [hol]), Array.getElem?_append_left (by simp [hol]; exact hpl)]
         simp [hol, hp]
       have hnewb : (w.drew.alloc (.cells (⟨olds⟩ ++ ⟨news⟩ ++ Builtin.zeroCells z.cells (grownCap w (xs.length + ys.length) cap e2 - (xs.length + ys.length))) e2)).heap[w.heap.size]? = some (.cells (⟨olds⟩ ++ ⟨news⟩ ++ Builtin.zeroCells z.cells (grownCap w (xs.length + ys.length) cap e2 - (xs.length + ys.length))) e2 (0, 0)) := heap_new w.drew _
       have hobj : ObjRel (sig C X) ((renL (butB (isO o)) L).set o (.row e2 (xs ++ ys))) (upd η o (some w.heap.size)) (w.drew.alloc (.cells (⟨olds⟩ ++ ⟨news⟩ ++ Builtin.zeroCells z.cells (grownCap w (xs.length + ys.length) cap e2 - (xs.length + ys.length))) e2)) o (.row e2 (xs ++ ys)) :=
        .inr ⟨w.heap.size, _, (0, 0), FreeR.zero _, upd_same _ _ _, hnewb, hrow.fwd hf hr.heap⟩
       refine row_res hr hL (.more hmore) hf (grow_heap hr.heap hmore hL (isO_self o) (some w.heap.size) (fun b hb => by cases hb; exact .inl (Nat.le_refl _)) hobj) (repV_mk rfl rfl ⟨by simp [renL_length]; exact hlt, ⟨_, rfl, rfl⟩, ?_⟩) hk
       intro e3 xs3 hL3
       rw [hset] at hL3
       cases hL3
       exact ⟨some ⟨w.heap.size, 0, none⟩, grownCap w (xs.length + ys.length) cap e2, by simp, by simpa using hcap2, .inr ⟨w.heap.size, _, e2, (0, 0), upd_same _ _ _, rfl, hnewb, by rw [hco, hcsz]; exact Nat.le_refl _⟩⟩
     ·exact hk.elim
    ·exact hk.elim
   ·rename_i vv
    split at hk
    ·rename_i hn
     obtain rfl := isNil_eq hn
     obtain ⟨ha, hq⟩ := repV_one hs (by simp) rfl
     obtain ⟨hq, _⟩ := hq
     simp at hq; subst hq
     obtain ⟨hbytes, hk⟩ := hk
     obtain ⟨b63, bby⟩ := bound _ hbytes
     by_cases h0 : ys = []
     ·subst h0
      have hn0 : news = [] := List.eq_nil_of_length_eq_zero (by rw [hnews.len]; simp)
      subst hn0
      obtain ⟨pf, ph⟩ := push_nil hr.heap e
      refine ⟨_, _, run_append_fits (w' := w) ht h2 i1 hlen (hfirst w rfl) (by simp) (fun a _ => by simp [storeCells]) (fun _ => rfl), res_mk hr .same hk pf ph (repV_mk rfl rfl ⟨by simp, ⟨_, rfl, rfl⟩, ?_⟩)⟩
      intro e3 xs3 hL3
      simp at hL3
      obtain ⟨rfl, hL3⟩ := hL3
      cases hL3
      exact ⟨none, 0, rfl, Nat.le_refl _, .inl rfl⟩
     ·have hgr : 0 < 0 + ys.length := by rw [Nat.zero_add]; exact List.length_pos_iff.2 h0
      refine ⟨_, _, run_append_grows ht h2 i1 i4 hlen (hfirst w.drew rfl) (first_none _ _ _ _) hgr (by rw [Nat.zero_add]; exact b63) (growslice_fits hgr (by rw [Nat.zero_add]; exact bby)), ?_⟩
      have hcap2 := grownCap_ge w (0 + ys.length) 0 e
      generalize grownCap w (0 + ys.length) 0 e = gc at hcap2 ⊢
      have hmore : More w (w.drew.alloc (.cells (⟨[]⟩ ++ ⟨news⟩ ++ Builtin.zeroCells z.cells (gc - (0 + ys.length))) e)) :=
       (More.of_heap (w := w) (w' := w.drew) rfl rfl ⟨rfl, fun _ => Nat.le_succ _⟩ rfl).trans (More.alloc _ _)
      have hcsz : (⟨[]⟩ ++ ⟨news⟩ ++ Builtin.zeroCells z.cells (gc - (0 + ys.length)) : Array Value).size = gc * ie.size := by
       simp only [Array.size_append, List.size_toArray, hzc, hnews.len, List.length_nil]
       rw [Nat.zero_add (ys.length * ie.size), <- Nat.add_mul]
       congr 1; omega
      have hrow : RowRel (sig C X) (Mx (sig C X) L η) w ((sig C X).sz e) (K e) ([] ++ ys) (⟨[]⟩ ++ ⟨news⟩ ++ Builtin.zeroCells z.cells (gc - (0 + ys.length))) := by
       rw [hco]
       refine RowRel.append (cells := ⟨[]⟩) hpos (by simp) hnews (by rw [hcsz]; exact Nat.mul_le_mul_right _ hcap2) (by simp) ?_
       intro p v hp
       have hpl := (List.getElem?_eq_some_iff.1 hp).1
       rw [Array.append_assoc, Array.getElem?_append_right (by simp), Array.getElem?_append_left (by simp; exact hpl)]
       simpa using hp
      have hnewb : (w.drew.alloc (.cells (⟨[]⟩ ++ ⟨news⟩ ++ Builtin.zeroCells z.cells (gc - (0 + ys.length))) e)).heap[w.heap.size]? = some (.cells (⟨[]⟩ ++ ⟨news⟩ ++ Builtin.zeroCells z.cells (gc - (0 + ys.length))) e (0, 0)) := heap_new w.drew _
      obtain ⟨pf, ph⟩ := push_row hr.heap hmore e ys w.heap.size _ (Nat.le_refl _) hnewb hrow
      refine res_mk hr (.more hmore) hk pf ph (repV_mk rfl rfl ⟨by simp, ⟨_, rfl, rfl⟩, ?_⟩)
      intro e3 xs3 hL3
      simp at hL3
      obtain ⟨rfl, hL3⟩ := hL3
      cases hL3
      exact ⟨some ⟨w.heap.size, 0, none⟩, gc, by simp, by simpa using hcap2, .inr ⟨w.heap.size, _, e, (0, 0), upd_same _ _ _, rfl, hnewb, by rw [hco, hcsz]; exact Nat.le_refl _⟩⟩
    ·exact hk.elim
   ·exact hk.elim
  ·exact h.elim
 ·exact h.elim
end Go.Ab
namespace Go.Ab
open Go
variable [DMode] {K : Codes} {C : Cfg K} {X : Nat -> Prop} {N : Nat} {env : List PV} {L : Heap K} {η : Eta} {w : World} {a : Act}
theorem isU8_int {y : PV} (h : isU8 y = true) : ∃ n, y = .int .u8 n := by
 unfold isU8 at h
 split at h
 ·exact ⟨_, rfl⟩
 ·cases h
theorem strPV_eq : ∀ (ns : List Int) (s : ByteArray), (ns.map (PV.int .u8)).foldl (fun r x => r.push (UInt8.ofNat (pvNat x))) s = ns.foldl (fun r n => r.push (UInt8.ofNat n.toNat)) s
 | [], _ => rfl
 | _ :: ns, s => by simp only [List.map_cons, List.foldl_cons]; exact strPV_eq ns _
theorem bytes_run {P : Program} {α : Type} {enc : α -> PV} {ys : List α} {I : Ids} {M : Nat -> Prop} {b off len cap : Nat} {cells : Array Value} {t : TypeId} {fr : Nat × Nat} (hb : w.heap[b]? = some (.cells cells t fr)) (hl : len = ys.length)
 (hu : ∀ y, y ∈ ys -> isU8 (enc y) = true)
 (h : ∀ (i : Nat) (x : α), ys[i]? = some x -> ∃ cs : List Value, cs.length = 1 /\ RepF I M w (enc x) cs /\ ∀ (j : Nat) (v : Value), cs[j]? = some v -> cells[off + i * 1 + j]? = some v) :
 (Conv.bytesToString (.slice (some ⟨b, off, none⟩) len cap)).run P w = .ok (.string (strPV (ys.map enc))) w := by
 have hns : ∃ ns : List Int, ys.map enc = ns.map (PV.int .u8) := by
  clear h hl
  induction ys with
  | nil => exact ⟨[], rfl⟩
  | cons y ys ih =>
   obtain ⟨n, hn⟩ := isU8_int (hu y List.mem_cons_self)
   obtain ⟨ns, hns⟩ := ih (fun y hy => hu y (List.mem_cons_of_mem _ hy))
   exact ⟨n :: ns, by simp [hn, hns]⟩
 obtain ⟨ns, hns⟩ := hns
 have hlen : ys.length = ns.length := by simpa using congrArg List.length hns
 rw [hns, strPV, strPV_eq]
 refine run_bytesToString w _ len cap ns ?_
 have := run_loadCells_list (P := P) w ⟨b, off, none⟩ (ns.map (Value.int .u8)) (by
  intro j v hj
  rw [add_plain', cell_of_blk hb]
  rw [List.getElem?_map] at hj
  obtain ⟨n, hn, rfl⟩ := Option.map_eq_some_iff.1 hj
  have hy : (ys.map enc)[j]? = some (.int .u8 n) := by rw [hns]; simp [hn]
  rw [List.getElem?_map] at hy
  obtain ⟨y, hy, hyn⟩ := Option.map_eq_some_iff.1 hy
  obtain ⟨cs, c1, c2, c3⟩ := h j y hy
  rw [hyn] at c2
  simp only [RepF] at c2
  subst c2
  have := c3 0 _ rfl
  rwa [Nat.mul_one, Nat.add_zero] at this)
 rw [hl, hlen]
 simpa using this
theorem bytes_nil {P : Program} {A : Option Addr} {cap : Nat} : (Conv.bytesToString (.slice A 0 cap)).run P w = .ok (.string (strPV [])) w := by
 cases A with
 | none => simp [Conv.bytesToString]; rfl
 | some a =>
  exact run_bytesToString w a 0 cap [] (run_loadCells_list (P := P) w a [] (by simp))
theorem td_int {t : TypeId} {k : IntKind} (hc : CfgOk C) (h : C.td t = .int k) : C.P.underlying t = some (.int k) := by
 unfold Cfg.td at h
 split at h
 ·rename_i i hi; have := (hc.ty t i hi).desc; rw [h] at this; exact this
 ·cases h
theorem evConvert_ok (hc : CfgOk C) (hr : RelT C (sig C X) N env L η w a) {s d : TypeId} {x : PV} {u : Value} (hx : RepV (sig C X) L η w x u) {k : K1 K} (h : evConvert C s d x env L k) :
 ∃ v w', (convert s d u).run C.P w = .ok v w' /\ Res C X N L η w a [] k v w' := by
 unfold evConvert at h
 split at h
 ·rename_i ks kd _ n hs hd
  obtain rfl := repV_int hx
  refine ⟨_, w, ?_, res_mk hr .same h (Fwd.refl _ _ _ _) hr.heap (rv_int _ _)⟩
  simp [convert, run_underlying (td_int hc hs), run_underlying (td_int hc hd), Conv.intToInt, Result.andThen]
 ·rename_i n hs hd
  obtain rfl := repV_str hx
  refine ⟨_, w, ?_, res_mk hr .same h (Fwd.refl _ _ _ _) hr.heap (rv_str _)⟩
  simp [convert, run_underlying (td_str hc hs), run_underlying (td_str hc hd), Result.andThen]
 ·rename_i e α enc l hs hd
  split at h
  ·rename_i he
   obtain ⟨hu, hk⟩ := h
   obtain ⟨_, hq⟩ := repV_one hx (by simp) rfl
   obtain ⟨A, cap, hA, hcap, hq⟩ := hq
   simp at hA; subst hA
   refine ⟨.string (strPV (l.map enc)), w, ?_, res_mk hr .same hk (Fwd.refl _ _ _ _) hr.heap (rv_str _)⟩
   rw [run_convert_bytes_string w s d e A l.length cap (td_und hc hs) (td_int hc he) (td_str hc hd)]
   rcases hq with rfl | ⟨b, off, z, cells, ty, fr, rfl, hs', hM, hb, hel⟩
   ·exact bytes_nil
   ·by_cases hne : l = []
    ·subst hne; exact bytes_nil
    ·have hz : z = 1 := by
      have h0 : 0 < l.length := List.length_pos_iff.2 hne
      obtain ⟨cs, c1, c2, _⟩ := hel 0 l[0] (List.getElem?_eq_getElem h0)
      obtain ⟨n, hn⟩ := isU8_int (hu _ (List.getElem_mem h0))
      rw [<- c1, c2.length, hn]; rfl
     subst hz
     exact bytes_run (enc := enc) hb rfl hu hel
  ·exact h.elim
 ·rename_i e o hs hd
  split at h
  ·rename_i e' xs he hL
   obtain ⟨hee, hu, hk⟩ := chk_iff h
   have hee := Nat.eq_of_beq_eq_true hee
   subst hee
   obtain ⟨_, hq⟩ := repV_one hx (by simp) rfl
   obtain ⟨hlt, _, hq⟩ := hq
   obtain ⟨A, cap, hA, hcap, hq2⟩ := hq e' xs hL
   simp at hA; subst hA
   refine ⟨.string (strPV (xs.map (K e').enc)), w, ?_, res_mk hr .same hk (Fwd.refl _ _ _ _) hr.heap (rv_str _)⟩
   rw [run_convert_bytes_string w s d e' A xs.length cap (td_und hc hs) (td_int hc he) (td_str hc hd)]
   by_cases hne : xs = []
   ·subst hne; exact bytes_nil
   ·rcases hr.heap.obj o _ hL with ⟨g1, g2⟩ | ⟨b, cells, fr0, hfr0, g1, g2, g3, g4, g5⟩
    ·exact absurd g1 hne
    ·have h0 : 0 < xs.length := List.length_pos_iff.2 hne
     rcases hq2 with h00 | ⟨b', cells', t', fr', q1, q2, q3, _⟩
     ·omega
     ·rw [g1] at q1; cases q1
      subst q2
      have hz : (sig C X).sz e' = 1 := by
       obtain ⟨cs, c1, c2, _⟩ := g5 0 xs[0] (List.getElem?_eq_getElem h0)
       obtain ⟨n, hn⟩ := isU8_int (hu _ (List.getElem_mem h0))
       rw [<- c1, c2.length, hn]; rfl
      rw [hz] at g5
      exact bytes_run (off := 0) (enc := (K e').enc) g2 rfl hu (fun i x hi => by
       obtain ⟨cs, c1, c2, c3⟩ := g5 i x hi
       exact ⟨cs, c1, c2, fun j v hj => by rw [Nat.zero_add]; exact c3 j v hj⟩)
  ·exact h.elim
 ·rename_i e t hs hd
  obtain rfl := repV_str hx
  split at h
  ·rename_i ie he hie hcod
   obtain ⟨hq, zs, hdec, hk⟩ := chk_iff h
   have hi1 := Nat.eq_of_beq_eq_true hq
   have hco := (hc.ty e ie hie).cellsOf
   have hzl : zs.length = t.size := by
    have := congrArg List.length hdec
    simpa using this
   have hcap := grownCap_ge w t.size 0 e
   have hsize : (Lib.bytesCells w e t).size = grownCap w t.size 0 e := by
    unfold Lib.bytesCells
    simp; omega
   have hnew := Lib.bytesWorld_at_new w e t
   have hmore : More w (Lib.bytesWorld w e t) := by
    have hb := Lib.bytesWorld_below w e t
    exact ⟨hb.os, ⟨hb.tape, fun _ => Nat.le_succ _⟩, hb.output, hb.size, fun b hlt => hb.block b hlt⟩
   have hrow : RowRel (sig C X) (Mx (sig C X) L η) w ((sig C X).sz e) (K e) zs (Lib.bytesCells w e t) := by
    show RowRel _ _ _ (C.P.cellsOf e) _ _ _
    rw [hco, hi1]
    refine ⟨by omega, by rw [hsize, hzl]; omega, fun i x hi => ?_⟩
    have hlt : i < t.data.toList.length := by
     have := (List.getElem?_eq_some_iff.1 hi).1
     have h2 : t.data.toList.length = t.size := by simp
     omega
    have henc : (K e).enc x = .int .u8 (t.data.toList[i]).toNat := by
     have h1 : (zs.map (K e).enc)[i]? = some ((K e).enc x) := by rw [List.getElem?_map, hi]; rfl
     rw [hdec, List.getElem?_map, List.getElem?_eq_getElem hlt] at h1
     exact (Option.some.inj h1).symm
    refine ⟨[.int .u8 (t.data.toList[i]).toNat], rfl, by rw [henc]; rfl, ?_⟩
    intro j v hj
    have hj0 : j = 0 := by
     have := (List.getElem?_eq_some_iff.1 hj).1
     simpa using this
    subst hj0
    obtain rfl := Option.some.inj hj
    have hlt2 : i < (t.data.map fun b => Value.int .u8 b.toNat).size := by simpa using hlt
    unfold Lib.bytesCells
    rw [Nat.mul_one, Nat.add_zero, Array.getElem?_append_left hlt2]
    rw [Array.getElem?_map]
    have : t.data[i]? = some (t.data.toList[i]) := by
     rw [<- Array.getElem?_toList, List.getElem?_eq_getElem hlt]
    rw [this]; rfl
   obtain ⟨pf, ph⟩ := push_rowF hr.heap hmore e zs w.heap.size _ (Nat.le_refl _) (fr := ((Lib.bytesCells w e t).size, (Lib.bytesCells w e t).size + 1)) (fun i hi => by omega) hnew hrow
   refine ⟨_, _, Lib.run_convert_string_bytes w s d e t (td_str hc hs) (td_und hc hd) (td_int hc he), res_mk hr (.more hmore) hk pf ph (repV_mk rfl rfl ⟨by simp, ⟨_, rfl, rfl⟩, ?_⟩)⟩
   intro e3 xs3 hL3
   simp at hL3
   obtain ⟨rfl, hL3⟩ := hL3
   cases hL3
   exact ⟨some ⟨w.heap.size, 0, none⟩, grownCap w t.size 0 e, by rw [hzl], by omega, .inr ⟨w.heap.size, _, e, _, upd_same _ _ _, rfl, hnew, by show _ * C.P.cellsOf e <= _; rw [hco, hi1, hsize]; omega⟩⟩
  ·exact h.elim
 ·exact h.elim
theorem ofConst1_ok {G : Sig} {v : Value} (h : v.oneCell' = true) : Rep G L η w (ofConst1 v) [v] := by
 cases v <;> first | exact rfl | exact ⟨rfl, h⟩ | exact ⟨_, rfl, rfl⟩ | simp [Value.oneCell'] at h
theorem ofConst_go {G : Sig} : ∀ (cs : List Value), (∀ v, v ∈ cs -> v.oneCell' = true) -> Rep.go G L η w (cs.map ofConst1) cs
 | [], _ => rfl
 | v :: cs, h => by
  have h1 := h v List.mem_cons_self
  refine ⟨v, cs, rfl, ⟨?_, h1⟩, ofConst1_ok h1, ofConst_go cs (fun v hv => h v (List.mem_cons_of_mem _ hv))⟩
  cases v <;> first | rfl | simp [Value.oneCell'] at h1
theorem ofConst1_agg (v : Value) : (ofConst1 v).isAgg = false := by cases v <;> rfl
theorem ofConst_ok {G : Sig} {v : Value} (h : constOk v = true) : RepV G L η w (ofConst v) v := by
 have key : ∀ v : Value, isAggV v = false -> v.oneCell' = true -> ofConst v = ofConst1 v -> RepV G L η w (ofConst v) v := by
  intro v h1 h2 h3
  rw [h3]
  exact repV_mk (ofConst1_agg v) h1 (ofConst1_ok h2)
 cases v with
 | agg cs =>
  right
  refine ⟨rfl, ofConst_go cs.toList ?_⟩
  intro v hv
  simp only [constOk, List.all_eq_true] at h
  exact h v hv
 | tuple _ => simp [constOk] at h
 | _ => exact key _ rfl h rfl
theorem rep_glob (hr : RelT C (sig C X) N env L η w a) {g : Nat} {x : PV} (h : C.glob g = some x) : RepV (sig C X) L η w (.el x 0) (.pointer (some ⟨g, 0, none⟩)) :=
 repV_mk rfl rfl (hr.glob g x h).1
theorem evX_ok (hr : RelT C (sig C X) N env L η w a) (x : Operand) : RepV (sig C X) L η w (evX C env x) (a.eval x) := by
 cases x with
 | tmp t =>
  simp only [evX, Act.eval, List.getD_eq_getElem?_getD]
  cases h : env[t]? with
  | none => exact .inl rfl
  | some y => exact hr.tmp t y h
 | const v =>
  simp only [evX, Act.eval]
  split
  ·rename_i h; exact ofConst_ok h
  ·exact .inl rfl
 | global g =>
  simp only [evX, Act.eval]
  split
  ·rename_i x h; exact rep_glob hr h
  ·exact .inl rfl
 | func f =>
  exact repV_mk rfl rfl ⟨[], [], rfl, rfl, rfl⟩
theorem evMove_ok (hc : CfgOk C) (hr : RelT C (sig C X) N env L η w a) {x : Operand} {t : TypeId} {k : K1 K} (h : evMove C x t env L k) : Res C X N L η w a [] k (a.eval x) w := by
 have gen : ∀ x, k (evX C env x) env L -> Res C X N L η w a [] k (a.eval x) w := fun x h => res_mk hr .same h (Fwd.refl _ _ _ _) hr.heap (evX_ok hr x)
 cases x with
 | const v =>
  simp only [evMove] at h
  split at h
  ·rename_i e _ _ _ _ _ hn ht
   simp only [evNil] at h
   split at h
   ·obtain rfl := isNil_eq hn
    obtain ⟨pf, ph⟩ := push_nil hr.heap e
    exact res_mk hr .same h pf ph (repV_mk rfl rfl (rep_own_nil (e := e) (by simp)))
   ·exact h.elim
  ·exact h.elim
  ·exact gen _ h
 | tmp t => exact gen _ h
 | global g => exact gen _ h
 | func f => exact gen _ h
def noNil (u : Value) : Prop := (∃ a, u = .pointer (some a)) \/ (∃ g x y, u = .func (.func g) x y) \/ ∃ t v, u = .iface t v
theorem evNilCheck_ok {x : PV} {u : Value} (hx : RepV (sig C X) L η w x u) {k : PV -> Prop} (h : evNilCheck x L k) : k x /\ noNil u := by
 unfold evNilCheck at h
 split at h
 ·split at h
  ·rename_i o off _ cs hL
   refine ⟨h, .inl ?_⟩
   obtain ⟨_, hq⟩ := repV_one hx (by simp) rfl
   obtain ⟨_, _, hq⟩ := hq
   obtain ⟨b, _, hv⟩ := hq cs hL
   simp at hv
   exact ⟨_, hv⟩
  ·exact h.elim
 ·refine ⟨h, .inl ?_⟩
  obtain ⟨_, hq⟩ := repV_one hx (by simp) rfl
  obtain ⟨b, base, cells, t, fr, cs, hv, _⟩ := hq
  simp at hv
  exact ⟨_, hv⟩
 ·refine ⟨h, .inr (.inl ?_)⟩
  obtain ⟨_, hq⟩ := repV_one hx (by simp) rfl
  obtain ⟨fs, cs, hv, _⟩ := hq
  simp at hv
  exact ⟨_, _, _, hv⟩
 ·refine ⟨h, .inr (.inr ?_)⟩
  obtain ⟨_, hq⟩ := repV_one hx (by simp) rfl
  obtain ⟨v, hv, _⟩ := hq
  simp at hv
  exact ⟨_, _, hv⟩
 ·exact h.elim
end Go.Ab
namespace Go.Ab
open Go
variable [DMode] {K : Codes} {C : Cfg K} {X : Nat -> Prop} {N : Nat} {env : List PV} {L : Heap K} {η : Eta} {w : World} {a : Act}
def ret (R : Value -> World -> Prop) : Ending -> World -> Prop
 | .returned v, w => R v w
 | _, _ => False
def Runs (P : Program) (s : Sem Next) (w : World) (R : Value -> World -> Prop) : Prop :=
 (∃ g args, s.run P w = .ok (.enter g args) w /\ Calls P g args w (ret R)) \/ ∃ v w', s.run P w = .ok (.value v) w' /\ R v w'
theorem Runs.mono {P : Program} {s : Sem Next} {R R' : Value -> World -> Prop} (h : Runs P s w R) (hr : ∀ v w', R v w' -> R' v w') : Runs P s w R' := by
 rcases h with ⟨g, args, h1, h2⟩ | ⟨v, w', h1, h2⟩
 ·exact .inl ⟨g, args, h1, h2.mono fun e w' he => by cases e <;> first | exact hr _ _ he | exact he⟩
 ·exact .inr ⟨v, w', h1, hr _ _ h2⟩
theorem Runs.of_eq {P : Program} {s s' : Sem Next} {R : Value -> World -> Prop} (h : s'.run P w = s.run P w) (hr : Runs P s w R) : Runs P s' w R := by
 rcases hr with ⟨g, args, h1, h2⟩ | ⟨v, w', h1, h2⟩
 ·exact .inl ⟨g, args, h.trans h1, h2⟩
 ·exact .inr ⟨v, w', h.trans h1, h2⟩
def GlobOk (C : Cfg K) (M : Nat -> Prop) (w : World) : Prop := ∀ g x, C.glob g = some x -> GlobAt C.I M w g x
def noEta : Eta := fun _ => none
def PureRes (C : Cfg K) (Z : Nat -> Prop) (w : World) (Φ : List PV -> Prop) (v : Value) (w' : World) : Prop :=
 ∃ rs, Φ rs /\ RepV (sig C Z) ([] : Heap K) noEta w' (retPV rs) v /\ More w w'
def FunS (C : Cfg K) (g : FuncId) (F : SpecS) : Prop := ∀ (Z : Nat -> Prop) (ys : List PV) (Φ : List PV -> Prop), F ys Φ -> ∀ (w : World) (vs : List Value),
 (∀ b, Z b -> b < w.heap.size) -> GlobOk C Z w -> RepFs C.I Z w ys vs -> Runs C.P (callFunc g ⟨vs⟩) w (PureRes C Z w Φ)
def FunI (C : Cfg K) (name : String) (F : SpecS) : Prop := ∀ (Z : Nat -> Prop) (e : Err) (ys : List PV) (Φ : List PV -> Prop), F (.err e :: ys) Φ -> ∀ (w : World) (v : Value) (vs : List Value),
 (∀ b, Z b -> b < w.heap.size) -> GlobOk C Z w -> RepErr C.I Z w e v -> RepFs C.I Z w ys vs -> Runs C.P (callMethod v name ⟨vs⟩) w (PureRes C Z w Φ)
def GenRes (C : Cfg K) (X : Nat -> Prop) (ys : List PV) (L : Heap K) (η : Eta) (w : World) (Φ : List PV -> Heap K -> List Nat -> Prop) (v : Value) (w' : World) : Prop :=
 ∃ rs L' η' bad, Φ rs L' bad /\ RepV (sig C X) L' η' w' (retPV rs) v /\ HeapRel (sig C X) L' η' w' /\ Fwd L η w L' η' w' (fun o => bad.contains o) /\ (∀ o, bad.contains o = true -> isRow L o = true) /\ Kept η w w' (roots L ys)
def FunG (C : Cfg K) (g : FuncId) (F : Spec K) : Prop := ∀ (X : Nat -> Prop) (ys : List PV) (L : Heap K) (Φ : List PV -> Heap K -> List Nat -> Prop), F ys L Φ -> ∀ (η : Eta) (w : World) (vs : List Value),
 HeapRel (sig C X) L η w -> GlobOk C (Mx (sig C X) L η) w -> RepVs (sig C X) L η w ys vs -> Runs C.P (callFunc g ⟨vs⟩) w (GenRes C X ys L η w Φ)
structure EnvOk (C : Cfg K) : Prop where
 cfg : CfgOk C
 gs : ∀ g F, C.Γs g = some F -> FunS C g F
 g : ∀ g F, C.Γ g = some F -> FunG C g F
 gi : ∀ n F, C.Γi n = some F -> FunI C n F
mutual
theorem rep_nil {Z : Nat -> Prop} (hZ : ∀ b, ¬ Z b -> ¬ Mx (sig C X) L η b) : ∀ (x : PV) (l : List Value), Rep (sig C Z) ([] : Heap K) noEta w x l -> Rep (sig C X) L η w x l
 | .junk, _, _ => trivial
 | .bool _, _, h => h
 | .int _ _, _, h => h
 | .str _, _, h => h
 | .raw _, _, h => h
 | .sl _ _ _, l, h => RepF.mono (fun b o hb ho => ⟨hZ b fun hz => hb (.inr hz), ho⟩) _ _ h
 | .el _ _, l, h => RepF.mono (fun b o hb ho => ⟨hZ b fun hz => hb (.inr hz), ho⟩) _ _ h
 | .err _, l, h => RepF.mono (fun b o hb ho => ⟨hZ b fun hz => hb (.inr hz), ho⟩) _ _ h
 | .agg cs, l, h => rep_nil_go hZ cs l h
 | .tup cs, l, h => by
  obtain ⟨vs, rfl, h⟩ := h
  exact ⟨vs, rfl, rep_nil_goT hZ cs vs h⟩
 | .iface t x, l, h => by
  obtain ⟨v, rfl, ha, h⟩ := h
  exact ⟨v, rfl, ha, rep_nil hZ x _ h⟩
 | .fn f a b, l, h => by
  obtain ⟨fs, cs, rfl, h1, h2⟩ := h
  exact ⟨fs, cs, rfl, rep_nil_go hZ a fs h1, rep_nil_go hZ b cs h2⟩
 | .own o, _, h => absurd h.1 (by simp)
 | .ptr o _, _, h => absurd h.1 (by simp)
 | .oel o _ _, _, h => absurd h.1 (by simp)
 | .fsl fs, l, h => by
  obtain ⟨b, cells, t, fr, rfl, hM, hb, h⟩ := h
  exact ⟨b, cells, t, fr, rfl, hZ b fun hz => hM (.inr hz), hb, rep_nil_go hZ fs cells h⟩
 | .fel x, l, h => by
  obtain ⟨b, off, cells, t, fr, v, rfl, hM, hb, hc, ho, h⟩ := h
  exact ⟨b, off, cells, t, fr, v, rfl, hZ b fun hz => hM (.inr hz), hb, hc, ho, rep_nil hZ x _ h⟩
theorem rep_nil_go {Z : Nat -> Prop} (hZ : ∀ b, ¬ Z b -> ¬ Mx (sig C X) L η b) : ∀ (xs : List PV) (l : List Value), Rep.go (sig C Z) ([] : Heap K) noEta w xs l -> Rep.go (sig C X) L η w xs l
 | [], _, h => h
 | x :: xs, l, h => by
  obtain ⟨v, r, rfl, h0, h1, h2⟩ := h
  exact ⟨v, r, rfl, h0, rep_nil hZ x _ h1, rep_nil_go hZ xs r h2⟩
theorem rep_nil_goT {Z : Nat -> Prop} (hZ : ∀ b, ¬ Z b -> ¬ Mx (sig C X) L η b) : ∀ (xs : List PV) (l : List Value), Rep.goT (sig C Z) ([] : Heap K) noEta w xs l -> Rep.goT (sig C X) L η w xs l
 | [], _, h => h
 | x :: xs, l, h => by
  obtain ⟨v, r, rfl, h0, h1, h2⟩ := h
  exact ⟨v, r, rfl, h0, rep_nil hZ x _ h1, rep_nil_goT hZ xs r h2⟩
end
theorem repV_nil {Z : Nat -> Prop} (hZ : ∀ b, ¬ Z b -> ¬ Mx (sig C X) L η b) {x : PV} {v : Value} (h : RepV (sig C Z) ([] : Heap K) noEta w x v) : RepV (sig C X) L η w x v := by
 rcases h with h | ⟨h1, h2⟩
 ·exact .inl h
 ·exact .inr ⟨h1, rep_nil hZ x _ h2⟩
section
variable {G G' : Sig} {L' : Heap K} {η' : Eta} {w' : World}
mutual
theorem rep_flat (hI : G.I = G'.I) : ∀ (x : PV) (l : List Value), x.flat = true -> Rep G L η w x l -> Rep G' L' η' w' x l
 | .bool _, _, _, h => h
 | .int _ _, _, _, h => h
 | .str _, _, _, h => h
 | .agg cs, l, hf, h => rep_flat_go hI cs l hf h
 | .junk, _, hf, _ | .err _, _, hf, _ | .raw _, _, hf, _ | .sl _ _ _, _, hf, _ | .el _ _, _, hf, _ | .tup _, _, hf, _ | .iface _ _, _, hf, _ | .fn _ _ _, _, hf, _ | .own _, _, hf, _ | .ptr _ _, _, hf, _ | .oel _ _ _, _, hf, _ | .fsl _, _, hf, _ | .fel _, _, hf, _ => by simp [PV.flat] at hf
theorem rep_flat_go (hI : G.I = G'.I) : ∀ (xs : List PV) (l : List Value), PV.flat.go xs = true -> Rep.go G L η w xs l -> Rep.go G' L' η' w' xs l
 | [], _, _, h => h
 | x :: xs, l, hf, h => by
  simp only [PV.flat.go, Bool.and_eq_true] at hf
  obtain ⟨v, r, rfl, h0, h1, h2⟩ := h
  exact ⟨v, r, rfl, h0, rep_flat hI x _ hf.1 h1, rep_flat_go hI xs r hf.2 h2⟩
end
theorem rep_flat_goT (hI : G.I = G'.I) : ∀ (xs : List PV) (l : List Value), PV.flat.go xs = true -> Rep.goT G L η w xs l -> Rep.goT G' L' η' w' xs l
 | [], _, _, h => h
 | x :: xs, l, hf, h => by
  simp only [PV.flat.go, Bool.and_eq_true] at hf
  obtain ⟨v, r, rfl, h0, h1, h2⟩ := h
  exact ⟨v, r, rfl, h0, rep_flat hI x _ hf.1 h1, rep_flat_goT hI xs r hf.2 h2⟩
theorem repV_flat (hI : G.I = G'.I) {rs : List PV} (hf : PV.flat.go rs = true) {v : Value} (h : RepV G L η w (retPV rs) v) : RepV G' L' η' w' (retPV rs) v := by
 have tup : RepV G L η w (.tup rs) v -> RepV G' L' η' w' (.tup rs) v := by
  rintro (h | ⟨h1, h2⟩)
  ·cases h
  ·obtain ⟨vs, hv, h2⟩ := h2
   exact .inr ⟨h1, vs, hv, rep_flat_goT hI rs vs hf h2⟩
 match rs, hf, h, tup with
 | [], _, h, tup => exact tup h
 | [r], hf, h, _ =>
  simp only [PV.flat.go, Bool.and_true] at hf
  rcases h with h | ⟨h1, h2⟩
  ·rw [show retPV [r] = r from rfl] at h; subst h; simp [PV.flat] at hf
  ·exact .inr ⟨h1, rep_flat hI r _ hf h2⟩
 | _ :: _ :: _, _, h, tup => exact tup h
end
theorem pure_res (hr : RelT C (sig C X) N env L η w a) {ids : List Nat} {tl : List Nat} {k : K1 K} {v : Value} {w' : World}
 (h : PureRes C (Mx (sig C X) (goneAll ids L) η) w (fun rs => cond (ids.isEmpty || PV.flat.go rs) (k (retPV rs) env L) (k (retPV rs) env (goneAll ids L))) v w') : Res C X N L η w a tl k v w' := by
 obtain ⟨rs, hΦ, hv, hm⟩ := h
 cases hq : (ids.isEmpty || PV.flat.go rs) with
 | true =>
  rw [hq] at hΦ
  refine ⟨retPV rs, env, L, η, hΦ, ?_, hr.more hm, ⟨noBad, Fwd.more hm, fun o h => by cases h⟩, .more hm⟩
  rw [Bool.or_eq_true] at hq
  rcases hq with hq | hq
  ·have : ids = [] := List.isEmpty_iff.1 hq
   subst this
   exact repV_nil (fun b hb => hb) hv
  ·exact repV_flat (G := sig C (Mx (sig C X) (goneAll ids L) η)) (G' := sig C X) rfl hq hv
 | false =>
  rw [hq] at hΦ
  exact res_mk hr (.more hm) hΦ ((gone_fwd (w := w) ids).trans0 (Fwd.more hm)) ((gone_heap hr.heap ids).more hm) (repV_nil (fun b hb => hb) hv)
theorem lendG_ok (hh : HeapRel (sig C X) L η w) (J : List Nat) : ∀ (ts : List TypeId) (xs ys : List PV) (ids : List Nat) (vs : List Value), lendG C L ts xs = some (ys, ids) -> RepVs (sig C X) L η w xs vs ->
 Off (sig C X) L η ids (Mx (sig C X) (goneAll J L) η) -> RepVs (sig C X) (goneAll J L) η w ys vs
 | ts, [], ys, ids, vs, h, hx, _ => by
  simp [lendG] at h; obtain ⟨rfl, rfl⟩ := h; exact hx
 | ts, x :: xs, ys, ids, vs, h, hx, ho => by
  simp only [lendG] at h
  split at h
  ·rename_i ys' ids' h1
   obtain ⟨v, r, rfl, hv, hr⟩ := hx
   split at h
   ·cases h
    exact ⟨v, r, rfl, (gone_fwd J).repV hh hv, lendG_ok hh J ts.tail xs ys' _ r h1 hr ho⟩
   ·split at h
    ·rename_i y hy
     cases h
     obtain ⟨q1, q2⟩ := lend_ok hh hy hv ho.left
     exact ⟨v, r, rfl, .inr ⟨q2, Rep.ofF _ _ q1⟩, lendG_ok hh J ts.tail xs ys' _ r h1 hr ho.right⟩
    ·cases h
  ·cases h
theorem glob_gone (hr : RelT C (sig C X) N env L η w a) (J : List Nat) : GlobOk C (Mx (sig C X) (goneAll J L) η) w :=
 fun g x hg => GlobAt.mono ((gone_fwd (w := w) (η := η) J).moves (C := sig C X) fun b hb => (hr.heap.ext b hb).1).froz (hr.glob g x hg)
theorem gone_lt {G : Sig} (hh : HeapRel G L η w) (J : List Nat) : ∀ b, Mx G (goneAll J L) η b -> b < w.heap.size := by
 intro b hb
 rcases hb with hb | hb
 ·exact (gone_heap hh J).lt hb
 ·exact (hh.ext b hb).1
theorem evCallF_ok (he : EnvOk C) (hr : RelT C (sig C X) N env L η w a) {g : FuncId} {ts : List TypeId} {xs : List PV} {vs : List Value} (hx : RepVs (sig C X) L η w xs vs) {k : K1 K} (h : evCallF C g ts xs env L k) :
 Runs C.P (callFunc g ⟨vs⟩) w (Res C X N L η w a (touchF C g ts xs L) k) := by
 unfold evCallF at h
 split at h
 ·rename_i F hF
  split at h
  ·rename_i ys hl
   have hF' := lendAll_ok hr.heap ts xs ys vs hl hx (gone_off hr.heap (xs.flatMap (reach L depth)))
   exact (he.gs g F hF _ ys _ h w vs (gone_lt hr.heap _) (glob_gone hr _) hF').mono fun v w' hv => pure_res hr hv
  ·exact h.elim
 ·rename_i hn
  split at h
  ·rename_i F hF
   split at h
   ·rename_i ys ids hl
    have hv := lendG_ok hr.heap ids ts xs ys ids vs hl hx (gone_off hr.heap ids)
    refine (he.g g F hF X ys _ _ h η w vs (gone_heap hr.heap ids) (glob_gone hr ids) hv).mono fun v w' hv => ?_
    obtain ⟨rs, L', η', bad, hk, hv, hh, hf, hb, hkp⟩ := hv
    have hf' : Fwd L η w L' η' w' (fun o => bad.contains o) := (gone_fwd (w := w) (η := η) ids).trans hf (fun o _ h => ⟨rfl, h⟩)
    refine ⟨retPV rs, _, L', η', hk, hv, hr.step hf' hh, ⟨_, hf', fun o ho => ?_⟩, by simp only [touchF, hn, hl]; exact hkp⟩
    have := hb o ho
    unfold isRow at this ⊢
    split at this
    ·rename_i e xs hx
     rcases gone_get ids L o _ hx with h | ⟨h, _⟩
     ·cases h
     ·rw [h]
    ·cases this
   ·exact h.elim
  ·exact h.elim
theorem evXs (hr : RelT C (sig C X) N env L η w a) : ∀ (xs : List Operand), RepVs (sig C X) L η w (xs.map (evX C env)) (xs.map a.eval)
 | [] => rfl
 | x :: xs => ⟨_, _, rfl, evX_ok hr x, evXs hr xs⟩
theorem repVs_of_go {G : Sig} : ∀ {xs : List PV} {l : List Value}, Rep.go G L η w xs l -> RepVs G L η w xs l
 | [], _, h => h
 | x :: xs, l, h => by
  obtain ⟨v, r, rfl, h0, h1, h2⟩ := h
  exact ⟨v, r, rfl, repV_mk h0.1 (notAgg_of_one h0.2) h1, repVs_of_go h2⟩
theorem repVs_append {G : Sig} : ∀ {xs ys : List PV} {l m : List Value}, RepVs G L η w xs l -> RepVs G L η w ys m -> RepVs G L η w (xs ++ ys) (l ++ m)
 | [], _, l, m, h, h' => by simp only [RepVs] at h; subst h; exact h'
 | x :: xs, ys, l, m, h, h' => by
  obtain ⟨v, r, rfl, h1, h2⟩ := h
  exact ⟨v, r ++ m, rfl, h1, repVs_append h2 h'⟩
def callSem (ρ : Operand -> Value) (c : Call) (ty : TypeId) : Sem Next := do let d <- resolve ρ c ty; invoke d.target d.args
theorem runs_value {P : Program} {s : Sem Value} {t : Sem Next} {R : Value -> World -> Prop} (ht : t.run P w = (do pure (Next.value (<- s)) : Sem Next).run P w) (h : ∃ v w', s.run P w = .ok v w' /\ R v w') : Runs P t w R := by
 obtain ⟨v, w', h1, h2⟩ := h
 refine .inr ⟨v, w', ?_, h2⟩
 rw [ht]
 simp [h1, Result.andThen]
theorem evSpecial_ok (he : EnvOk C) (hr : RelT C (sig C X) N env L η w a) {b : Builtin} {c : Call} (hc : c.callee = .builtin b) {ty : TypeId} {k : K1 K} (h : evSpecial C b c.argTypes.toList (c.args.toList.map (evX C env)) env L k) :
 Runs C.P (callSem a.eval c ty) w (Res C X N L η w a (touchB b (c.args.toList.map (evX C env))) k) := by
 have hx := evXs hr c.args.toList
 obtain ⟨cs, hcs⟩ : ∃ cs, (callSem a.eval c ty).run C.P w = (builtin b c.argTypes ty cs (c.args.map a.eval)).run C.P w :=
  by
   refine ⟨?_, ?_⟩
   rotate_left
   ·simp only [callSem, resolve, hc, Sem.run_bind, Sem.run_pure, Result.andThen, invoke]
    rfl
 have hargs : (c.args.map a.eval) = ⟨c.args.toList.map a.eval⟩ := by
  apply Array.ext'; simp
 refine Runs.of_eq hcs ?_
 rw [hargs]
 generalize c.args.toList.map a.eval = vs at hx
 generalize c.args.toList.map (evX C env) = xs at hx h ⊢
 have hts : c.argTypes = ⟨c.argTypes.toList⟩ := rfl
 rw [hts]
 generalize c.argTypes.toList = ts at h
 unfold evSpecial at h
 split at h
 ·rename_i t x
  obtain ⟨v, r, rfl, hv, hr'⟩ := hx
  simp only [RepVs] at hr'; subst hr'
  exact runs_value rfl (res_same hr (evLen_ok he.cfg hr.heap hv h))
 ·rename_i t t2 s x
  obtain ⟨u, r, rfl, hu, v, r', rfl, hv, hr'⟩ := hx
  simp only [RepVs] at hr'; subst hr'
  exact runs_value rfl (evAppend_ok he.cfg hr hu hv h)
 ·rename_i kd p r
  obtain ⟨v, vs, rfl, hv, hvs⟩ := hx
  obtain rfl := repV_int hv
  obtain ⟨q, h1, h2⟩ := evMinMax_ok true kd r p vs hvs h
  exact runs_value rfl ⟨_, w, by simpa [Builtin.max_] using h1 w, res_mk hr .same h2 (Fwd.refl _ _ _ _) hr.heap (rv_int _ _)⟩
 ·rename_i kd p r
  obtain ⟨v, vs, rfl, hv, hvs⟩ := hx
  obtain rfl := repV_int hv
  obtain ⟨q, h1, h2⟩ := evMinMax_ok false kd r p vs hvs h
  exact runs_value rfl ⟨_, w, by simpa [Builtin.min_] using h1 w, res_mk hr .same h2 (Fwd.refl _ _ _ _) hr.heap (rv_int _ _)⟩
 ·exact h.elim
theorem evCall_ok (he : EnvOk C) (hr : RelT C (sig C X) N env L η w a) {c : Call} {ty : TypeId} {k : K1 K} (h : evCall C c env L k) : Runs C.P (callSem a.eval c ty) w (Res C X N L η w a (touchCall C c env L) k) := by
 have hargs : (c.args.map a.eval) = ⟨c.args.toList.map a.eval⟩ := by
  apply Array.ext'; simp
 have hx := evXs hr c.args.toList
 unfold evCall at h
 split at h
 ·rename_i b hc
  simp only [touchCall, hc]
  exact evSpecial_ok he hr hc h
 ·rename_i f hc
  have hf := evX_ok hr f
  split at h
  ·rename_i g first cap hfe
   rw [hfe] at hf
   obtain ⟨_, hq⟩ := repV_one hf (by simp) rfl
   obtain ⟨fs, cs, hv, h1, h2⟩ := hq
   simp at hv
   have hcs : (callSem a.eval c ty).run C.P w = (callFunc g ⟨fs ++ c.args.toList.map a.eval ++ cs⟩).run C.P w := by
    simp only [callSem, resolve, hc, hv, Deferred.ofValue, Sem.run_bind, Sem.run_pure, Result.andThen, invoke, hargs]
    congr 2
    apply Array.ext'; simp
   refine Runs.of_eq hcs ?_
   have hvs := repVs_append (repVs_append (repVs_of_go h1) hx) (repVs_of_go h2)
   split at h
   ·simp only [Rep.go] at h1 h2
    subst h1 h2
    simp only [touchCall, hc, hfe]
    simp only [List.nil_append, List.append_nil] at hvs ⊢
    exact evCallF_ok he hr hx h
   ·rename_i hnn
    have htc : touchCall C c env L = touchF C g (first.map (fun _ => 0) ++ c.argTypes.toList) (first ++ c.args.toList.map (evX C env) ++ cap) L := by
     simp only [touchCall, hc, hfe]
    rw [htc]
    exact evCallF_ok he hr hvs h
  ·exact h.elim
 ·rename_i r name hc
  have hf := evX_ok hr r
  have hcs : ∀ v, a.eval r = v -> (callSem a.eval c ty).run C.P w = (callMethod v name ⟨c.args.toList.map a.eval⟩).run C.P w := by
   intro v hv
   simp only [callSem, resolve, hc, hv, Sem.run_bind, Sem.run_pure, Result.andThen, invoke, hargs]
   simp
   rw [List.take_of_length_le (by simp)]
  split at h
  ·rename_i e hfe
   rw [hfe] at hf
   obtain ⟨_, hq⟩ := repV_one hf (by simp) rfl
   obtain ⟨v, hv, hq⟩ := hq
   simp at hv
   split at h
   ·rename_i F hF
    split at h
    ·rename_i ys hl
     have hF' := lendAll_ok hr.heap _ _ ys _ hl hx (gone_off hr.heap ((c.args.toList.map (evX C env)).flatMap (reach L depth)))
     have hq' : RepErr C.I (Mx (sig C X) (goneAll ((c.args.toList.map (evX C env)).flatMap (reach L depth)) L) η) w e v :=
      RepErr.mono (fun b o hb ho => ⟨fun q => hb (by
       rcases q with ⟨o, x, g1, g2, g3⟩ | q
       ·rcases gone_get _ L o x g1 with g | ⟨g, _⟩
        ·subst g; cases g2
        ·exact .inl ⟨o, x, g, g2, g3⟩
       ·exact .inr q), ho⟩) e v hq
     refine Runs.of_eq (hcs v hv) ?_
     exact (he.gi name F hF _ e ys _ h w v _ (gone_lt hr.heap _) (glob_gone hr _) hq' hF').mono fun v w' hv => pure_res hr hv
    ·exact h.elim
   ·exact h.elim
  ·rename_i t x hfe
   rw [hfe] at hf
   obtain ⟨_, hq⟩ := repV_one hf (by simp) rfl
   obtain ⟨v, hv, ha, hq⟩ := hq
   simp at hv
   split at h
   ·rename_i g hm
    have hcm : (callMethod (.iface t v) name ⟨c.args.toList.map a.eval⟩).run C.P w = (callFunc g ⟨v :: c.args.toList.map a.eval⟩).run C.P w := by
     have := he.cfg.meth t name g hm v w
     simp [callMethod, Result.andThen]
     rw [this]
    refine Runs.of_eq ((hcs _ hv).trans hcm) ?_
    simp only [touchCall, hc, hfe, hm]
    exact evCallF_ok he hr (show RepVs (sig C X) L η w (x :: _) (v :: _) from ⟨v, _, rfl, .inr ⟨ha, hq⟩, hx⟩) h
   ·exact h.elim
  ·exact h.elim
end Go.Ab
