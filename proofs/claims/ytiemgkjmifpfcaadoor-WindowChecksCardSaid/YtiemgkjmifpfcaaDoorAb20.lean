import Derived.Test.YtiemgkjmifpfcaaDoorAb19
set_option linter.unusedVariables false
set_option linter.unusedSimpArgs false
namespace Go.Ab
open Go
variable {K : Codes} {C : Cfg K} {X : Nat → Prop} {N : Nat} {env : List PV} {L : Heap K} {η : Eta} {w : World} {a : Act}

/-- What a call leaves. -/
def Fin (C : Cfg K) (X : Nat → Prop) (L0 : Heap K) (η0 : Eta) (w0 : World) (k : List PV → Heap K → Prop) (v : Value) (w' : World) : Prop :=
  ∃ rs L' η', k rs L' ∧ RepV (sig C X) L' η' w' (retPV rs) v ∧ HeapRel (sig C X) L' η' w' ∧ FwdR L0 η0 w0 L' η' w'

def resSem (a : Act) : ResultVar → Sem Value
  | .tmp t => pure (a.tmps.getD t undef)
  | .cell p t => do loadVar t (← asAddr (a.tmps.getD p undef))

theorem evRes_ok (hc : CfgOk C) (hr : RelT C (sig C X) N env L η w a) : ∀ (res : List ResultVar) (k : List PV → Prop), evRes C env L res k →
    ∃ xs vs, (res.mapM (resSem a)).run C.P w = .ok vs w ∧ RepVs (sig C X) L η w xs vs ∧ k xs
  | [], k, h => ⟨[], [], by simp, rfl, h⟩
  | .tmp t :: r, k, h => by
    simp only [evRes] at h
    split at h
    · rename_i x hx
      obtain ⟨xs, vs, h1, h2, h3⟩ := evRes_ok hc hr r _ h
      exact ⟨x :: xs, _ :: vs, by simp [resSem, h1, Result.andThen], ⟨_, _, rfl, hr.tmp t x hx, h2⟩, h3⟩
    · exact h.elim
  | .cell p t :: r, k, h => by
    simp only [evRes] at h
    split at h
    · rename_i x hx
      obtain ⟨u, y, b, h1, h2, h3, h4, h5⟩ := evLoad_ok hc hr.heap (hr.tmp p x hx) h
      obtain ⟨xs, vs, g1, g2, g3⟩ := evRes_ok hc hr r _ h2
      refine ⟨y :: xs, u :: vs, ?_, ⟨_, _, rfl, h3, g2⟩, g3⟩
      have hl := h1 w rfl
      have hv : ∃ A, a.tmps.getD p undef = .pointer (some A) := by
        have hp := hr.tmp p x hx
        unfold LoadBlk at h5
        split at h5
        · obtain ⟨_, hq⟩ := repV_one hp (by simp) rfl
          obtain ⟨_, _, hq⟩ := hq
          obtain ⟨⟨cs, hL⟩, _⟩ := h5
          obtain ⟨b', _, hv⟩ := hq cs hL
          simp only [List.cons.injEq, and_true] at hv
          exact ⟨_, hv⟩
        · obtain ⟨_, hq⟩ := repV_one hp (by simp) rfl
          obtain ⟨_, _, hq⟩ := hq
          obtain ⟨⟨e, xs, hL⟩, _⟩ := h5
          obtain ⟨_, _, b', _, hv⟩ := hq e xs hL
          simp only [List.cons.injEq, and_true] at hv
          exact ⟨_, hv⟩
        · obtain ⟨_, hq⟩ := repV_one hp (by simp) rfl
          obtain ⟨b', _, _, _, _, _, hv, _⟩ := hq
          simp only [List.cons.injEq, and_true] at hv
          exact ⟨_, hv⟩
        · exact h5.elim
      obtain ⟨A, hv⟩ := hv
      rw [hv] at hl
      simp only [Instr.loadAt, Instr.sureAddr, Sem.run_bind, Sem.run_pure, Result.andThen] at hl
      simp [resSem, hv, asAddr, hl, g1, Result.andThen]
    · exact h.elim

theorem solidRes_ok (hh : HeapRel (sig C X) L η w) (J : List Nat) : ∀ (xs ys : List PV) (ids : List Nat) (vs : List Value), solidRes C L xs = some (ys, ids) → RepVs (sig C X) L η w xs vs →
    Off (sig C X) L η ids (Mx (sig C X) (goneAll J L) η) → RepVs (sig C X) (goneAll J L) η w ys vs
  | [], ys, ids, vs, h, hx, _ => by
    simp [solidRes] at h; obtain ⟨rfl, rfl⟩ := h; exact hx
  | x :: xs, ys, ids, vs, h, hx, ho => by
    simp only [solidRes] at h
    split at h
    · rename_i ys' ids' h1
      obtain ⟨v, r, rfl, hv, hr⟩ := hx
      split at h
      · rename_i t y
        split at h
        · rename_i z hz
          cases h
          refine ⟨v, r, rfl, ?_, solidRes_ok hh J xs ys' _ r h1 hr ho.right⟩
          obtain ⟨q1, q2⟩ := repV_one hv (by simp) rfl
          have hF := (solid_ok hh depth).1 _ _ _ hz q2 ho.left
          exact repV_mk (by rw [solid_agg _ _ _ hz]; rfl) q1 (Rep.ofF _ _ hF)
        · cases h
      · cases h
        exact ⟨v, r, rfl, (gone_fwd J).repV hh hv, solidRes_ok hh J xs ys' _ r h1 hr ho⟩
    · cases h

theorem goT_of {G : Sig} : ∀ {xs : List PV} {vs : List Value}, RepVs G L η w xs vs → Rep.goT G L η w xs vs
  | [], _, h => h
  | x :: xs, vs, h => by
    obtain ⟨v, r, rfl, h1, h2⟩ := h
    refine ⟨v, r, rfl, ?_, ?_, goT_of h2⟩
    · rcases h1 with h1 | h1
      · exact .inr h1
      · exact .inl h1.1
    · rcases h1 with rfl | h1
      · exact trivial
      · exact h1.2

theorem repV_ret {G : Sig} {xs : List PV} {vs : List Value} (h : RepVs G L η w xs vs) : RepV G L η w (retPV xs) (if h : (⟨vs⟩ : Array Value).size = 1 then (⟨vs⟩ : Array Value)[0] else .tuple ⟨vs⟩) := by
  match xs, vs, h with
  | [], vs, h =>
    simp only [RepVs] at h; subst h
    exact .inr ⟨rfl, [], rfl, rfl⟩
  | [x], vs, h =>
    obtain ⟨v, r, rfl, h1, h2⟩ := h
    simp only [RepVs] at h2; subst h2
    exact h1
  | x :: y :: xs, vs, h =>
    have hg := goT_of h
    obtain ⟨v, r, rfl, h1, u, r', rfl, h2, h3⟩ := h
    exact .inr ⟨rfl, _, rfl, hg⟩

theorem fin_ok (hc : CfgOk C) {f : Fun} {fn : Func} (hres : fn.results = ⟨f.res⟩) {L0 : Heap K} {η0 : Eta} {w0 : World} (hm : L0.length = f.m) {k : List PV → Heap K → Prop} (h : evFin C f env L k) (hr : RelT C (sig C X) N env L η w a) (hf : FwdR L0 η0 w0 L η w) :
    a.defers = [] ∧ ∃ v, (results fn a.tmps).run C.P w = .ok v w ∧ ret (Fin C X L0 η0 w0 k) (.returned v) w := by
  refine ⟨hr.defers, ?_⟩
  obtain ⟨xs, vs, h1, h2, h3⟩ := evRes_ok hc hr _ _ h
  split at h3
  · rename_i ys ids hs
    rw [← hm] at h3
    have hv := solidRes_ok hr.heap ids xs ys ids vs hs h2 (gone_off hr.heap ids)
    obtain ⟨ys', L', η', q1, q2, q3, q4⟩ := canon_res (gone_heap hr.heap ids) hv (hf.step ⟨noBad, gone_fwd ids, fun o h => by cases h⟩) h3
    refine ⟨_, ?_, ys', L', η', q1, repV_ret q2, q3, q4⟩
    have : results fn a.tmps = (do
        let vs ← fn.results.mapM (resSem a)
        pure (if h : vs.size = 1 then vs[0] else .tuple vs)) := rfl
    rw [this, hres, Array.mapM_eq_mapM_toList]
    simp only [Sem.run_bind, Sem.run_map, h1, Result.andThen, Sem.run_pure]
  · exact h3.elim

/-- At a place in a body, all is well from here on. -/
def AT (C : Cfg K) (X : Nat → Prop) (N : Nat) (fn : Func) (L0 : Heap K) (η0 : Eta) (w0 : World) (k : List PV → Heap K → Prop) (todo : List AItem) (env : List PV) (L : Heap K) : Prop :=
  ∀ η w a, RelT C (sig C X) N env L η w a → FwdR L0 η0 w0 L η w → postT C.P (bodyPost C.P fn (ret (Fin C X L0 η0 w0 k))) todo .normal a w

theorem post_panic {fn : Func} {R : Value → World → Prop} : ∀ c a w, ¬ bodyPost C.P fn (ret R) (.panic c) a w := fun _ _ _ h => h.2.elim
theorem postT_goto {P : Program} {fn : Func} {R : Value → World → Prop} : ∀ (r : List AItem) (l : Nat) (a : Act) (w : World), ¬ postT P (bodyPost P fn (ret R)) r (.goto l) a w
  | [], _, _, _ => fun h => h
  | .code _ :: r, l, a, w => postT_goto r l a w
  | .endB _ :: r, l, a, w => postT_goto r l a w
theorem postT_out {P : Program} {fn : Func} {R : Value → World → Prop} : ∀ (r : List AItem) (a : Act) (w : World), ¬ postT P (bodyPost P fn (ret R)) r .outgrown a w
  | [], _, _ => fun h => h
  | .code _ :: r, a, w => postT_out r a w
  | .endB _ :: r, a, w => postT_out r a w

theorem cond_rel (hr : RelT C (sig C X) N env L η w a) {x : Operand} {t : Bool} (hx : evX C env x = .bool t) : a.eval x = .bool t ∧ condE x env t = env := by
  have h := evX_ok hr x
  rw [hx] at h
  refine ⟨repV_bool h, ?_⟩
  cases x with
  | tmp d =>
    simp only [evX, List.getD_eq_getElem?_getD] at hx
    simp only [condE]
    cases hd : env[d]? with
    | none => rw [hd] at hx; cases hx
    | some y => rw [hd] at hx; simp at hx; subst hx; exact set_same hd
  | _ => rfl

theorem evT_ok (he : EnvOk C) (hmix : C.P.follows .mixedOrders = true) {f : Fun} {fn : Func} (hres : fn.results = ⟨f.res⟩) {L0 : Heap K} {η0 : Eta} {w0 : World} (hm : L0.length = f.m) {k : List PV → Heap K → Prop} :
    ∀ (n : Nat) (force : Bool) (todo : List AItem) (env : List PV) (L : Heap K), evT C f (AT C X N fn L0 η0 w0 k) k n force todo env L → AT C X N fn L0 η0 w0 k todo env L
  | 0, _, _, _, _, h => h.elim
  | n + 1, force, todo, env, L, h => by
    have ih := fun force todo env L => evT_ok he hmix hres (η0 := η0) (w0 := w0) hm (k := k) n force todo env L
    have cut : ∀ (id : Option Nat) (todo : List AItem), evCut f id todo env L (AT C X N fn L0 η0 w0 k) → AT C X N fn L0 η0 w0 k todo env L := by
      intro id todo h η w a hr hf
      unfold evCut at h
      rw [← hm] at h
      split at h
      · obtain ⟨env', L', η', h1, h2, h3⟩ := canon_env (mask_rel hr _) hf h
        exact h1 η' w a h2 h3
      · obtain ⟨env', L', η', h1, h2, h3⟩ := canon_env hr hf h
        exact h1 η' w a h2 h3
    have fin : ∀ η w a, evFin C f env L k → RelT C (sig C X) N env L η w a → FwdR L0 η0 w0 L η w → bodyPost C.P fn (ret (Fin C X L0 η0 w0 k)) .ret a w := fun η w a h hr hf => fin_ok he.cfg hres hm h hr hf
    unfold evT at h
    split at h
    · exact fun η w a hr hf => fin η w a h hr hf
    · exact fun η w a hr hf => ih _ _ _ _ h η w a hr hf
    · rename_i c r
      intro η w a hr hf
      show c.wp C.P (postT C.P (bodyPost C.P fn (ret (Fin C X L0 η0 w0 k))) r) a w
      split at h
      · exact wp_skip (ih _ _ _ _ h η w a hr hf)
      · exact wp_seq (ih _ _ _ _ h η w a hr hf)
      · rename_i x p q
        split at h
        · rename_i t hx
          obtain ⟨hv, hce⟩ := cond_rel hr hx
          refine wp_cond_split hv ?_ ?_
          · intro ht; subst ht
            rw [hce] at h
            exact ih _ _ _ _ h η w a hr hf
          · intro ht; subst ht
            rw [hce] at h
            exact ih _ _ _ _ h η w a hr hf
        · exact h.elim
      · exact wp_block (ih _ _ _ _ h η w a hr hf)
      · split at h
        · exact wp_loop_once (postT_goto r) (postT_out r) (ih _ _ _ _ h η w a hr hf)
        · exact cut _ _ h η w a hr hf
      · split at h
        · rename_i r' hex
          exact wp_exit (postT_exit r r' a w hex (ih _ _ _ _ h η w a hr hf))
        · exact h.elim
      · exact wp_ret (postT_ret r a w (fin η w a h hr hf))
      · split at h
        · exact cut _ _ h η w a hr hf
        · exact evRegion_ok (L0 := L0) (η0 := η0) (w0 := w0) he hmix (postT_panic post_panic r) (fun env' L' η' w' a' h' hr' hf' => ih _ _ _ _ h' η' w' a' hr' hf') h hr hf
      · exact h.elim

/-- A function, from a heap of its own. -/
def FunF (C : Cfg K) (g : FuncId) (m : Nat) (F : List PV → Heap K → (List PV → Heap K → Prop) → Prop) : Prop :=
  ∀ (X : Nat → Prop) (ys : List PV) (L0 : Heap K) (k : List PV → Heap K → Prop), L0.length = m → F ys L0 k → ∀ (η : Eta) (w : World) (vs : List Value),
    HeapRel (sig C X) L0 η w → GlobOk C (Mx (sig C X) L0 η) w → RepVs (sig C X) L0 η w ys vs → Runs C.P (callFunc g ⟨vs⟩) w (Fin C X L0 η w k)

structure FnOk (P : Program) (g : FuncId) (fn : Func) (code : Code) : Prop where
  isfn : P.funcs[g]? = some fn
  body : fn.body = some code
  name : (fn.name == "runtime.NumGoroutine") = false

theorem FnOk.call {P : Program} {g : FuncId} {fn : Func} {code : Code} (h : FnOk P g fn code) (args : Array Value) (w : World) : (callFunc g args).run P w = .ok (.enter g args) w := by
  have hn : ¬ fn.name = "runtime.NumGoroutine" := by
    have := h.name
    simpa using this
  simp [callFunc, h.isfn, hn, h.body, Result.andThen]

def startEnv (N : Nat) (ys : List PV) : List PV := ys ++ List.replicate (N - ys.length) .junk

theorem repVs_get {G : Sig} : ∀ {xs : List PV} {vs : List Value} {t : Nat} {x : PV}, RepVs G L η w xs vs → xs[t]? = some x → ∃ v, vs[t]? = some v ∧ RepV G L η w x v
  | [], _, _, _, _, h => by simp at h
  | y :: xs, vs, 0, x, hr, h => by
    obtain ⟨v, r, rfl, h1, h2⟩ := hr
    simp at h; subst h
    exact ⟨v, rfl, h1⟩
  | y :: xs, vs, t + 1, x, hr, h => by
    obtain ⟨v, r, rfl, h1, h2⟩ := hr
    simpa using repVs_get h2 (by simpa using h)
theorem repVs_length {G : Sig} : ∀ {xs : List PV} {vs : List Value}, RepVs G L η w xs vs → vs.length = xs.length
  | [], _, h => by simp only [RepVs] at h; subst h; rfl
  | y :: xs, vs, hr => by
    obtain ⟨v, r, rfl, h1, h2⟩ := hr
    simp [repVs_length h2]

theorem fun_ok {g : FuncId} {fn : Func} {code : Code} (hfn : FnOk C.P g fn code) (hN : fn.ntmps = N) {m : Nat} {F : List PV → Heap K → (List PV → Heap K → Prop) → Prop}
    (hAT : ∀ (X : Nat → Prop) (L0 : Heap K) (η0 : Eta) (w0 : World) (k : List PV → Heap K → Prop) (ys : List PV), L0.length = m → F ys L0 k → ys.length ≤ N ∧ AT C X N fn L0 η0 w0 k [.code code] (startEnv N ys) L0) : FunF C g m F := by
  intro X ys L0 k hL hF η w vs hh hg hv
  refine .inl ⟨g, ⟨vs⟩, hfn.call _ _, ?_⟩
  obtain ⟨hle, hat⟩ := hAT X L0 η w k ys hL hF
  have hlen := repVs_length hv
  refine calls_of_wp hfn.isfn hfn.body ?_
  refine hat η w _ ⟨hh, by simp [startEnv]; omega, by simp [hN, hlen]; omega, rfl, ?_, hg⟩ (FwdR.refl _ _ _)
  intro t x hx
  simp only [startEnv] at hx
  by_cases ht : t < ys.length
  · rw [List.getElem?_append_left ht] at hx
    obtain ⟨v, h1, h2⟩ := repVs_get hv hx
    rw [Array.getD_eq_getD_getElem?, Array.getElem?_append_left (by simp [hlen, ht])]
    simp [h1]
    exact h2
  · rw [List.getElem?_append_right (by omega), List.getElem?_replicate] at hx
    split at hx
    · cases hx; exact .inl rfl
    · cases hx

def MonoS (F : SpecS) : Prop := ∀ ys Φ Ψ, (∀ rs, Φ rs → Ψ rs) → F ys Φ → F ys Ψ

/-- A function that only reads. -/
theorem pure_fun {g : FuncId} {F : SpecS} (hmono : MonoS F) (h : FunF C g 0 fun ys L k => L = [] ∧ F ys fun rs => k rs []) : FunS C g F := by
  intro Z ys Φ hF w vs hZ hg hv
  have hh : HeapRel (sig C Z) ([] : Heap K) noEta w :=
    ⟨fun o x h => by simp at h, fun o o' x x' b h => by simp at h, fun b hb => ⟨hZ b hb, fun ⟨o, x, h, _⟩ => by simp at h⟩, fun _ _ => rfl⟩
  have hMx : ∀ b, ¬ Z b → ¬ Mx (sig C Z) ([] : Heap K) noEta b := by
    rintro b hb (⟨o, x, h, _⟩ | h)
    · simp at h
    · exact hb h
  have hvs : ∀ {xs : List PV} {us : List Value}, RepFs C.I Z w xs us → RepVs (sig C Z) ([] : Heap K) noEta w xs us := by
    intro xs
    induction xs with
    | nil => intro us h; exact h
    | cons x xs ih =>
      intro us h
      obtain ⟨v, r, rfl, ⟨h1, h2⟩, h3⟩ := h
      exact ⟨v, r, rfl, .inr ⟨h2, Rep.ofF _ _ (RepF.mono (fun b o hb ho => ⟨hMx b hb, ho⟩) _ _ h1)⟩, ih h3⟩
  refine (h Z ys [] (fun rs L' => L' = [] ∧ Φ rs) rfl ⟨rfl, hmono _ _ _ (fun rs h => ⟨rfl, h⟩) hF⟩ noEta w vs hh (fun g x hx => RepF.mono (fun b o hb ho => ⟨hMx b hb, ho⟩) _ _ (hg g x hx)) (hvs hv)).mono ?_
  rintro v w' ⟨rs, L', η', ⟨rfl, hΦ⟩, h1, h2, h3⟩
  have hm : Moves (sig C Z) ([] : Heap K) η' w' ([] : Heap K) noEta w' some :=
    ⟨fun b o hb ho => ⟨fun q => hb (q.imp (fun ⟨o, x, h, _⟩ => by simp at h) id), ho⟩, fun _ _ h => by simp at h, fun _ _ _ h => by simp at h, fun _ _ _ _ h => by simp at h, rfl, rfl⟩
  have := RepV.mono hm h1
  rw [PV.ren_id] at this
  exact ⟨rs, hΦ, this, ⟨h3.os, h3.tape, h3.output, h3.size, fun b hb => h3.keep b hb fun ⟨o, x, h, _⟩ => by simp at h⟩⟩
end Go.Ab
