import Derived.Test.YtiemgkjmifpfcaaDoorAb9
set_option linter.unusedVariables false
set_option linter.unusedSimpArgs false
namespace Go.Ab
open Go
variable {K : Codes} {C : Cfg K} {X : Nat → Prop} {N : Nat} {env : List PV} {L : Heap K} {η : Eta} {w : World} {a : Act}

theorem equal_run {P : Program} {t : TypeId} {x y : Value} {r : Bool} (h : ∀ d, (Op.equalIn (d + 1) t x y).run P w = .ok r w) : (Op.equal t x y).run P w = .ok r w := h 9999

theorem eqGuard_const {P : Program} {op : BinOp} {t : TypeId} {x : Operand} {c u v : Value} (h : isAggV v = false) : (eqGuard op t x (.const c) u v).run P w = .ok () w := by
  cases op <;> first
    | rfl
    | (unfold eqGuard
       simp only [Bool.not_true, Bool.false_eq_true, if_false, Sem.run_bind, Sem.run_pure, Result.andThen]
       split
       · simp
       · simp [isAggV] at h
       · simp)
theorem eqGuard_not {P : Program} {op : BinOp} {t : TypeId} {x y : Operand} {u v : Value} (h : u ≠ .nilIface) (h2 : isAggV u = false) : (eqGuard op t x y u v).run P w = .ok () w := by
  cases op <;> first
    | rfl
    | (unfold eqGuard
       simp only [Bool.not_true, Bool.false_eq_true, if_false, Sem.run_bind, Sem.run_pure, Result.andThen]
       split
       · simp at h
       · simp [isAggV] at h2
       · simp)
theorem eqGuard_agg {P : Program} {op : BinOp} {t : TypeId} {x y : Operand} {u v : Array Value} (h : P.eqGuardType P.depth t = false) : (eqGuard op t x y (.agg u) (.agg v)).run P w = .ok () w := by
  cases op <;> first
    | rfl
    | (unfold eqGuard
       simp [h, Result.andThen])

/-- '==' and '!=' of what is no number and no string. -/
def noNum : Value → Bool
  | .int _ _ | .float _ _ | .complex _ _ _ | .string _ => false
  | _ => true
theorem binOp_eq {t : TypeId} {u c : Value} (h : noNum c = true) : binOp .eql t u c = (do pure (.bool (← Op.equal t u c))) := by
  cases u <;> cases c <;> first | rfl | (simp [noNum] at h)
theorem binOp_ne {t : TypeId} {u c : Value} (h : noNum c = true) : binOp .neq t u c = (do pure (.bool (!(← Op.equal t u c)))) := by
  cases u <;> cases c <;> first | rfl | (simp [noNum] at h)

theorem evIsNil_ok (hc : CfgOk C) (hh : HeapRel (sig C X) L η w) {t : TypeId} {x : PV} {u c : Value} {k : Bool → Prop} (hx : RepV (sig C X) L η w x u) (hn : nilFor (C.td t) c = true) (h : evIsNil (C.td t) x L k) :
    ∃ b, k b ∧ (∀ w1, (Op.equal t u c).run C.P w1 = .ok b w1) ∧ isAggV c = false ∧ noNum c = true := by
  cases htd : C.td t <;> rw [htd] at hn h <;> cases c <;> simp [nilFor] at hn
  case ptr.pointer e p =>
    cases p <;> simp [nilFor] at hn
    have hu := Cfg.td_ptr hc htd
    cases x <;> simp only [evIsNil] at h
    case ptr o off =>
      split at h
      · rename_i cs hL
        obtain ⟨_, hr⟩ := repV_one hx (by simp) rfl
        obtain ⟨_, _, hr⟩ := hr
        obtain ⟨b, e1, e2⟩ := hr cs hL
        clear hr
        simp at e2; subst e2
        exact ⟨false, h, fun w => equal_run (fun d => by simp [Op.equalIn, run_underlying hu, Result.andThen]), rfl, rfl⟩
      · exact h.elim
    case el y off =>
      obtain ⟨_, hr⟩ := repV_one hx (by simp) rfl
      obtain ⟨_, _, _, _, _, _, e2, _⟩ := hr
      simp at e2; subst e2
      exact ⟨false, h, fun w => equal_run (fun d => by simp [Op.equalIn, run_underlying hu, Result.andThen]), rfl, rfl⟩
    case raw v =>
      obtain ⟨_, hr⟩ := repV_one hx (by simp) rfl
      obtain ⟨hr, _⟩ := hr
      simp at hr; subst hr
      cases u with
      | pointer p =>
        cases p with
        | none => exact ⟨true, h, fun w => equal_run (fun d => by simp [Op.equalIn, run_underlying hu, Result.andThen]), rfl, rfl⟩
        | some _ => exact h.elim
      | _ => exact h.elim
  case iface.nilIface =>
    obtain ⟨ms, hu⟩ := Cfg.td_iface hc htd
    cases x <;> simp only [evIsNil] at h
    case err e =>
      obtain ⟨_, hr⟩ := repV_one hx (by simp) rfl
      obtain ⟨v, hv, hr⟩ := hr
      simp at hv; subst hv
      cases e with
      | nil => simp only [RepErr] at hr; subst hr; exact ⟨true, h, fun w => equal_run (fun d => by simp [Op.equalIn, run_underlying hu, Result.andThen]), rfl, rfl⟩
      | cls _ => simp only [RepErr] at hr; subst hr; exact ⟨false, h, fun w => equal_run (fun d => by simp [Op.equalIn, run_underlying hu, Result.andThen]), rfl, rfl⟩
      | sec _ _ => obtain ⟨_, _, _, _, rfl, _⟩ := hr; exact ⟨false, h, fun w => equal_run (fun d => by simp [Op.equalIn, run_underlying hu, Result.andThen]), rfl, rfl⟩
      | plc _ _ => obtain ⟨_, _, _, _, rfl, _⟩ := hr; exact ⟨false, h, fun w => equal_run (fun d => by simp [Op.equalIn, run_underlying hu, Result.andThen]), rfl, rfl⟩
    case iface t' y =>
      obtain ⟨_, hr⟩ := repV_one hx (by simp) rfl
      obtain ⟨v, hv, _, hr⟩ := hr
      simp at hv; subst hv
      exact ⟨false, h, fun w => equal_run (fun d => by simp [Op.equalIn, run_underlying hu, Result.andThen]), rfl, rfl⟩
  case func.nilFunc =>
    obtain ⟨_, _, _, hu⟩ := Cfg.td_func hc htd
    cases x <;> simp only [evIsNil] at h
    case fn f p q =>
      obtain ⟨_, hr⟩ := repV_one hx (by simp) rfl
      obtain ⟨_, _, hv, _⟩ := hr
      simp at hv; subst hv
      exact ⟨false, h, fun w => equal_run (fun d => by simp [Op.equalIn, run_underlying hu, Result.andThen]), rfl, rfl⟩
  case slice.slice e A n cap =>
    cases A <;> cases n <;> cases cap <;> simp [nilFor] at hn
    have hu := Cfg.td_slice hc htd
    have run : ∀ A n cap w1, (Op.equal t (.slice A n cap) (.slice none 0 0)).run C.P w1 = .ok A.isNone w1 := by
      intro A n cap w1
      cases A <;> exact equal_run (fun d => by simp [Op.equalIn, run_underlying hu, Result.andThen])
    cases x <;> simp only [evIsNil] at h
    case sl α enc l =>
      obtain ⟨_, hr⟩ := repV_one hx (by simp) rfl
      obtain ⟨A, cap, hv, hcap, hr⟩ := hr
      simp at hv; subst hv
      refine ⟨A.isNone, h _ ?_, run _ _ _, rfl, rfl⟩
      intro hl
      rcases hr with hr | ⟨b, off, s, cells, t', fr, rfl, _⟩
      · exact absurd hr hl
      · rfl
    case own o =>
      split at h
      · rename_i e' l hL
        obtain ⟨_, hr⟩ := repV_one hx (by simp) rfl
        obtain ⟨_, _, hr⟩ := hr
        obtain ⟨A, cap, hv, hcap, hq⟩ := hr e' l hL
        clear hr
        simp at hv; subst hv
        refine ⟨A.isNone, h _ ?_, run _ _ _, rfl, rfl⟩
        intro hl
        rcases hq with hq | ⟨b, cells, t', fr, _, rfl, _⟩
        · cases l with
          | nil => exact absurd rfl hl
          | cons _ _ => simp at hcap; omega
        · rfl
      · exact h.elim

def isSc : PV → Bool | .int _ _ | .bool _ | .str _ => true | _ => false
theorem eqCells_tail {x y : PV} {xs ys : List PV} {r : Bool} (h : eqCells (x :: xs) (y :: ys) = some r) : isSc x = true ∧ isSc y = true ∧ ∃ r', eqCells xs ys = some r' := by
  cases x <;> cases y <;> simp only [eqCells] at h
  case int.int =>
    split at h
    · obtain ⟨r', h, _⟩ := Option.map_eq_some_iff.1 h; exact ⟨rfl, rfl, r', h⟩
    · cases h
  case bool.bool => obtain ⟨r', h, _⟩ := Option.map_eq_some_iff.1 h; exact ⟨rfl, rfl, r', h⟩
  case str.str => obtain ⟨r', h, _⟩ := Option.map_eq_some_iff.1 h; exact ⟨rfl, rfl, r', h⟩
  all_goals cases h
theorem sc_of {G : Sig} {x : PV} {v : Value} (h : isSc x = true) (hx : Rep G L η w x [v]) : Sc x v := by
  cases x <;> simp [isSc] at h <;> simp only [Rep] at hx <;> simp at hx <;> exact hx
theorem scL_of {G : Sig} : ∀ {xs : List PV} {us : List Value} {ys : List PV} {r : Bool}, (eqCells xs ys = some r ∨ eqCells ys xs = some r) → Rep.go G L η w xs us → ScL xs us
  | [], us, ys, r, h, hr => hr
  | x :: xs, us, ys, r, h, hr => by
    obtain ⟨v, rest, rfl, ha, hx, hr⟩ := hr
    cases ys with
    | nil => rcases h with h | h <;> cases x <;> simp [eqCells] at h
    | cons y ys =>
      rcases h with h | h
      · obtain ⟨h1, _, r', h3⟩ := eqCells_tail h
        exact ⟨v, rest, rfl, sc_of h1 hx, scL_of (.inl h3) hr⟩
      · obtain ⟨_, h2, r', h3⟩ := eqCells_tail h
        exact ⟨v, rest, rfl, sc_of h2 hx, scL_of (.inr h3) hr⟩

theorem evBin_ok (hc : CfgOk C) (hh : HeapRel (sig C X) L η w) {op : BinOp} {t : TypeId} {xo yo : Operand} {x y : PV} {u v : Value} {k : PV → Prop} (hx : RepV (sig C X) L η w x u) (hy : RepV (sig C X) L η w y v)
    (hyo : ∀ c, yo = .const c → v = c) (h : evBin C op t yo x y L k) : Gives (sig C X) L η w C.P (do eqGuard op t xo yo u v; binOp op t u v) k := by
  have seq : ∀ {s : Sem Value}, (∀ w, (eqGuard op t xo yo u v).run C.P w = .ok () w) → Gives (sig C X) L η w C.P s k → s = binOp op t u v → Gives (sig C X) L η w C.P (do eqGuard op t xo yo u v; binOp op t u v) k := by
    rintro s h1 ⟨r, z, h2, h3, h4⟩ rfl
    exact ⟨r, z, fun w => by simp only [Sem.run_bind, h1, Result.andThen]; exact h2 w, h3, h4⟩
  unfold evBin at h
  split at h
  · rename_i hn
    cases yo with
    | const c =>
      obtain rfl := hyo c rfl
      simp only [isNilConst] at hn
      split at h
      · obtain ⟨b, h1, h2, h3, h4⟩ := evIsNil_ok hc hh hx hn h
        refine seq (fun _ => eqGuard_const h3) ?_ (binOp_eq h4).symm
        exact gives _ _ (fun w => by simp [h2, Result.andThen]) h1 (rv_bool b)
      · obtain ⟨b, h1, h2, h3, h4⟩ := evIsNil_ok hc hh hx hn h
        refine seq (fun _ => eqGuard_const h3) ?_ (binOp_ne h4).symm
        exact gives _ _ (fun w => by simp [h2, Result.andThen]) h1 (rv_bool _)
      · exact h.elim
    | _ => simp [isNilConst] at hn
  · split at h
    · rename_i kd p kd' q
      obtain rfl := repV_int hx
      obtain rfl := repV_int hy
      have hg := fun w => eqGuard_not (P := C.P) (op := op) (t := t) (x := xo) (y := yo) (u := .int kd p) (v := .int kd' q) (w := w) (by simp) rfl
      split at h
      · exact seq hg (gives _ _ (fun w => by simp [binOp, Op.shift, show ¬ q < 0 by omega]) h.2 (rv_int _ _)) rfl
      · exact seq hg (gives _ _ (fun w => by simp [binOp, Op.shift, show ¬ q < 0 by omega]) h.2 (rv_int _ _)) rfl
      · split at h
        · rename_i hk
          subst hk
          exact seq hg (evIntBin_ok h) rfl
        · exact h.elim
    · obtain rfl := repV_str hx
      obtain rfl := repV_str hy
      exact seq (fun _ => eqGuard_not (by simp) rfl) (evStrBin_ok h) rfl
    · rename_i p q
      obtain rfl := repV_bool hx
      obtain rfl := repV_bool hy
      have hg := fun w => eqGuard_not (P := C.P) (op := op) (t := t) (x := xo) (y := yo) (u := .bool p) (v := .bool q) (w := w) (by simp) rfl
      split at h
      · rename_i htd
        have hu := Cfg.td_bool hc htd
        have : ∀ w, (Op.equal t (.bool p) (.bool q)).run C.P w = .ok (p == q) w := fun w => equal_run (fun d => by simp [Op.equalIn, run_underlying hu, Result.andThen])
        exact seq hg (gives _ _ (fun w => by rw [binOp_eq rfl]; simp [this, Result.andThen]) h (rv_bool _)) rfl
      · rename_i htd
        have hu := Cfg.td_bool hc htd
        have : ∀ w, (Op.equal t (.bool p) (.bool q)).run C.P w = .ok (p == q) w := fun w => equal_run (fun d => by simp [Op.equalIn, run_underlying hu, Result.andThen])
        exact seq hg (gives _ _ (fun w => by rw [binOp_ne rfl]; simp [this, Result.andThen]) h (rv_bool _)) rfl
      · exact h.elim
    · rename_i xs ys
      obtain ⟨us, rfl, hxr⟩ := repV_agg hx
      obtain ⟨vs, rfl, hyr⟩ := repV_agg hy
      split at h
      · rename_i r he hr
        obtain ⟨g1, g2⟩ := hc.eqs t _ he
        have := fun w => g2 ys us vs r w hr (scL_of (.inl hr) hxr) (scL_of (.inr hr) hyr)
        exact seq (fun _ => eqGuard_agg g1) (gives _ _ (fun w => by rw [binOp_eq rfl]; simp [this, Result.andThen]) h (rv_bool _)) rfl
      · rename_i r he hr
        obtain ⟨g1, g2⟩ := hc.eqs t _ he
        have := fun w => g2 ys us vs r w hr (scL_of (.inl hr) hxr) (scL_of (.inr hr) hyr)
        exact seq (fun _ => eqGuard_agg g1) (gives _ _ (fun w => by rw [binOp_ne rfl]; simp [this, Result.andThen]) h (rv_bool _)) rfl
      · exact h.elim
    · exact h.elim
end Go.Ab
