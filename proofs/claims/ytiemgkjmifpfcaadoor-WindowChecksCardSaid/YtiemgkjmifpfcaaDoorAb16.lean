import Derived.Test.YtiemgkjmifpfcaaDoorAb15
import Derived.Calls
set_option linter.unusedVariables false
set_option linter.unusedSimpArgs false
namespace Go.Ab
open Go
variable {K : Codes} {C : Cfg K} {X : Nat → Prop} {N : Nat} {env : List PV} {L : Heap K} {η : Eta} {w : World} {a : Act}

def ret (R : Value → World → Prop) : Ending → World → Prop
  | .returned v, w => R v w
  | _, _ => False

/-- A call, once its operands are known. -/
def Runs (P : Program) (s : Sem Next) (w : World) (R : Value → World → Prop) : Prop :=
  (∃ g args, s.run P w = .ok (.enter g args) w ∧ Calls P g args w (ret R)) ∨ ∃ v w', s.run P w = .ok (.value v) w' ∧ R v w'

theorem Runs.mono {P : Program} {s : Sem Next} {R R' : Value → World → Prop} (h : Runs P s w R) (hr : ∀ v w', R v w' → R' v w') : Runs P s w R' := by
  rcases h with ⟨g, args, h1, h2⟩ | ⟨v, w', h1, h2⟩
  · exact .inl ⟨g, args, h1, h2.mono fun e w' he => by cases e <;> first | exact hr _ _ he | exact he⟩
  · exact .inr ⟨v, w', h1, hr _ _ h2⟩

theorem Runs.of_eq {P : Program} {s s' : Sem Next} {R : Value → World → Prop} (h : s'.run P w = s.run P w) (hr : Runs P s w R) : Runs P s' w R := by
  rcases hr with ⟨g, args, h1, h2⟩ | ⟨v, w', h1, h2⟩
  · exact .inl ⟨g, args, h.trans h1, h2⟩
  · exact .inr ⟨v, w', h.trans h1, h2⟩

def GlobOk (C : Cfg K) (M : Nat → Prop) (w : World) : Prop := ∀ g x, C.glob g = some x → RepF C.I M w (.el x 0) [.pointer (some ⟨g, 0, none⟩)]

def noEta : Eta := fun _ => none

/-- What a call of a function that only reads leaves. -/
def PureRes (C : Cfg K) (Z : Nat → Prop) (w : World) (Φ : List PV → Prop) (v : Value) (w' : World) : Prop :=
  ∃ rs, Φ rs ∧ RepV (sig C Z) ([] : Heap K) noEta w' (retPV rs) v ∧ More w w'

def FunS (C : Cfg K) (g : FuncId) (F : SpecS) : Prop := ∀ (Z : Nat → Prop) (ys : List PV) (Φ : List PV → Prop), F ys Φ → ∀ (w : World) (vs : List Value),
  (∀ b, Z b → b < w.heap.size) → GlobOk C Z w → RepFs C.I Z w ys vs → Runs C.P (callFunc g ⟨vs⟩) w (PureRes C Z w Φ)

def FunI (C : Cfg K) (name : String) (F : SpecS) : Prop := ∀ (Z : Nat → Prop) (e : Err) (ys : List PV) (Φ : List PV → Prop), F (.err e :: ys) Φ → ∀ (w : World) (v : Value) (vs : List Value),
  (∀ b, Z b → b < w.heap.size) → GlobOk C Z w → RepErr C.I Z w e v → RepFs C.I Z w ys vs → Runs C.P (callMethod v name ⟨vs⟩) w (PureRes C Z w Φ)

def GenRes (C : Cfg K) (X : Nat → Prop) (ys : List PV) (L : Heap K) (η : Eta) (w : World) (Φ : List PV → Heap K → List Nat → Prop) (v : Value) (w' : World) : Prop :=
  ∃ rs L' η' bad, Φ rs L' bad ∧ RepV (sig C X) L' η' w' (retPV rs) v ∧ HeapRel (sig C X) L' η' w' ∧ Fwd L η w L' η' w' (fun o => bad.contains o) ∧ (∀ o, bad.contains o = true → isRow L o = true) ∧ Kept η w w' (roots L ys)

def FunG (C : Cfg K) (g : FuncId) (F : Spec K) : Prop := ∀ (X : Nat → Prop) (ys : List PV) (L : Heap K) (Φ : List PV → Heap K → List Nat → Prop), F ys L Φ → ∀ (η : Eta) (w : World) (vs : List Value),
  HeapRel (sig C X) L η w → GlobOk C (Mx (sig C X) L η) w → RepVs (sig C X) L η w ys vs → Runs C.P (callFunc g ⟨vs⟩) w (GenRes C X ys L η w Φ)

structure EnvOk (C : Cfg K) : Prop where
  cfg : CfgOk C
  gs : ∀ g F, C.Γs g = some F → FunS C g F
  g : ∀ g F, C.Γ g = some F → FunG C g F
  gi : ∀ n F, C.Γi n = some F → FunI C n F

/-! ### results of calls that only read -/
mutual
theorem rep_nil {Z : Nat → Prop} (hZ : ∀ b, ¬ Z b → ¬ Mx (sig C X) L η b) : ∀ (x : PV) (l : List Value), Rep (sig C Z) ([] : Heap K) noEta w x l → Rep (sig C X) L η w x l
  | .junk, _, _ => trivial
  | .bool _, _, h => h
  | .int _ _, _, h => h
  | .str _, _, h => h
  | .raw _, _, h => h
  | .sl _ _ _, l, h => RepF.mono (fun b o hb ho => ⟨hZ b fun hz => hb (.inr hz), ho⟩) _ _ h
  | .el _ _, l, h => RepF.mono (fun b o hb ho => ⟨hZ b fun hz => hb (.inr hz), ho⟩) _ _ h
  | .err _, l, h => RepF.mono (fun b o hb ho => ⟨hZ b fun hz => hb (.inr hz), ho⟩) _ _ h
  | .agg cs, l, h => rep_nil_go hZ cs l h
  | .tup cs, l, h => by
    obtain ⟨vs, rfl, h⟩ := h
    exact ⟨vs, rfl, rep_nil_goT hZ cs vs h⟩
  | .iface t x, l, h => by
    obtain ⟨v, rfl, ha, h⟩ := h
    exact ⟨v, rfl, ha, rep_nil hZ x _ h⟩
  | .fn f a b, l, h => by
    obtain ⟨fs, cs, rfl, h1, h2⟩ := h
    exact ⟨fs, cs, rfl, rep_nil_go hZ a fs h1, rep_nil_go hZ b cs h2⟩
  | .own o, _, h => absurd h.1 (by simp)
  | .ptr o _, _, h => absurd h.1 (by simp)
  | .oel o _ _, _, h => absurd h.1 (by simp)
theorem rep_nil_go {Z : Nat → Prop} (hZ : ∀ b, ¬ Z b → ¬ Mx (sig C X) L η b) : ∀ (xs : List PV) (l : List Value), Rep.go (sig C Z) ([] : Heap K) noEta w xs l → Rep.go (sig C X) L η w xs l
  | [], _, h => h
  | x :: xs, l, h => by
    obtain ⟨v, r, rfl, h0, h1, h2⟩ := h
    exact ⟨v, r, rfl, h0, rep_nil hZ x _ h1, rep_nil_go hZ xs r h2⟩
theorem rep_nil_goT {Z : Nat → Prop} (hZ : ∀ b, ¬ Z b → ¬ Mx (sig C X) L η b) : ∀ (xs : List PV) (l : List Value), Rep.goT (sig C Z) ([] : Heap K) noEta w xs l → Rep.goT (sig C X) L η w xs l
  | [], _, h => h
  | x :: xs, l, h => by
    obtain ⟨v, r, rfl, h0, h1, h2⟩ := h
    exact ⟨v, r, rfl, h0, rep_nil hZ x _ h1, rep_nil_goT hZ xs r h2⟩
end
theorem repV_nil {Z : Nat → Prop} (hZ : ∀ b, ¬ Z b → ¬ Mx (sig C X) L η b) {x : PV} {v : Value} (h : RepV (sig C Z) ([] : Heap K) noEta w x v) : RepV (sig C X) L η w x v := by
  rcases h with h | ⟨h1, h2⟩
  · exact .inl h
  · exact .inr ⟨h1, rep_nil hZ x _ h2⟩

section
variable {G G' : Sig} {L' : Heap K} {η' : Eta} {w' : World}
mutual
theorem rep_flat (hI : G.I = G'.I) : ∀ (x : PV) (l : List Value), x.flat = true → Rep G L η w x l → Rep G' L' η' w' x l
  | .bool _, _, _, h => h
  | .int _ _, _, _, h => h
  | .str _, _, _, h => h
  | .agg cs, l, hf, h => rep_flat_go hI cs l hf h
  | .junk, _, hf, _ | .err _, _, hf, _ | .raw _, _, hf, _ | .sl _ _ _, _, hf, _ | .el _ _, _, hf, _ | .tup _, _, hf, _ | .iface _ _, _, hf, _ | .fn _ _ _, _, hf, _ | .own _, _, hf, _ | .ptr _ _, _, hf, _ | .oel _ _ _, _, hf, _ => by simp [PV.flat] at hf
theorem rep_flat_go (hI : G.I = G'.I) : ∀ (xs : List PV) (l : List Value), PV.flat.go xs = true → Rep.go G L η w xs l → Rep.go G' L' η' w' xs l
  | [], _, _, h => h
  | x :: xs, l, hf, h => by
    simp only [PV.flat.go, Bool.and_eq_true] at hf
    obtain ⟨v, r, rfl, h0, h1, h2⟩ := h
    exact ⟨v, r, rfl, h0, rep_flat hI x _ hf.1 h1, rep_flat_go hI xs r hf.2 h2⟩
end
theorem rep_flat_goT (hI : G.I = G'.I) : ∀ (xs : List PV) (l : List Value), PV.flat.go xs = true → Rep.goT G L η w xs l → Rep.goT G' L' η' w' xs l
  | [], _, _, h => h
  | x :: xs, l, hf, h => by
    simp only [PV.flat.go, Bool.and_eq_true] at hf
    obtain ⟨v, r, rfl, h0, h1, h2⟩ := h
    exact ⟨v, r, rfl, h0, rep_flat hI x _ hf.1 h1, rep_flat_goT hI xs r hf.2 h2⟩
theorem repV_flat (hI : G.I = G'.I) {rs : List PV} (hf : PV.flat.go rs = true) {v : Value} (h : RepV G L η w (retPV rs) v) : RepV G' L' η' w' (retPV rs) v := by
  have tup : RepV G L η w (.tup rs) v → RepV G' L' η' w' (.tup rs) v := by
    rintro (h | ⟨h1, h2⟩)
    · cases h
    · obtain ⟨vs, hv, h2⟩ := h2
      exact .inr ⟨h1, vs, hv, rep_flat_goT hI rs vs hf h2⟩
  match rs, hf, h, tup with
  | [], _, h, tup => exact tup h
  | [r], hf, h, _ =>
    simp only [PV.flat.go, Bool.and_true] at hf
    rcases h with h | ⟨h1, h2⟩
    · rw [show retPV [r] = r from rfl] at h; subst h; simp [PV.flat] at hf
    · exact .inr ⟨h1, rep_flat hI r _ hf h2⟩
  | _ :: _ :: _, _, h, tup => exact tup h
end

theorem off_sub {G : Sig} {ids : List Nat} (hh : HeapRel G L η w) : Off G L η ids (Mx G (goneAll ids L) η) := gone_off hh ids

theorem gone_nil (L : Heap K) : goneAll [] L = L := rfl

/-- Behind a call that only read. -/
theorem pure_res (hr : RelT C (sig C X) N env L η w a) {ids : List Nat} {tl : List Nat} {k : K1 K} {v : Value} {w' : World}
    (h : PureRes C (Mx (sig C X) (goneAll ids L) η) w (fun rs => cond (ids.isEmpty || PV.flat.go rs) (k (retPV rs) env L) (k (retPV rs) env (goneAll ids L))) v w') : Res C X N L η w a tl k v w' := by
  obtain ⟨rs, hΦ, hv, hm⟩ := h
  cases hq : (ids.isEmpty || PV.flat.go rs) with
  | true =>
    rw [hq] at hΦ
    refine ⟨retPV rs, env, L, η, hΦ, ?_, hr.more hm, ⟨noBad, Fwd.more hm, fun o h => by cases h⟩, .more hm⟩
    rw [Bool.or_eq_true] at hq
    rcases hq with hq | hq
    · have : ids = [] := List.isEmpty_iff.1 hq
      subst this
      exact repV_nil (fun b hb => hb) hv
    · exact repV_flat (G := sig C (Mx (sig C X) (goneAll ids L) η)) (G' := sig C X) rfl hq hv
  | false =>
    rw [hq] at hΦ
    exact res_mk hr (.more hm) hΦ ((gone_fwd (w := w) ids).trans0 (Fwd.more hm)) ((gone_heap hr.heap ids).more hm) (repV_nil (fun b hb => hb) hv)

theorem lendG_ok (hh : HeapRel (sig C X) L η w) (J : List Nat) : ∀ (ts : List TypeId) (xs ys : List PV) (ids : List Nat) (vs : List Value), lendG C L ts xs = some (ys, ids) → RepVs (sig C X) L η w xs vs →
    Off (sig C X) L η ids (Mx (sig C X) (goneAll J L) η) → RepVs (sig C X) (goneAll J L) η w ys vs
  | ts, [], ys, ids, vs, h, hx, _ => by
    simp [lendG] at h; obtain ⟨rfl, rfl⟩ := h; exact hx
  | ts, x :: xs, ys, ids, vs, h, hx, ho => by
    simp only [lendG] at h
    split at h
    · rename_i ys' ids' h1
      obtain ⟨v, r, rfl, hv, hr⟩ := hx
      split at h
      · cases h
        exact ⟨v, r, rfl, (gone_fwd J).repV hh hv, lendG_ok hh J ts.tail xs ys' _ r h1 hr ho⟩
      · split at h
        · rename_i y hy
          cases h
          obtain ⟨q1, q2⟩ := lend_ok hh hy hv ho.left
          exact ⟨v, r, rfl, .inr ⟨q2, Rep.ofF _ _ q1⟩, lendG_ok hh J ts.tail xs ys' _ r h1 hr ho.right⟩
        · cases h
    · cases h

theorem glob_gone (hr : RelT C (sig C X) N env L η w a) (J : List Nat) : GlobOk C (Mx (sig C X) (goneAll J L) η) w :=
  fun g x hg => (gone_fwd J).repF hr.heap (hr.glob g x hg)
theorem gone_lt {G : Sig} (hh : HeapRel G L η w) (J : List Nat) : ∀ b, Mx G (goneAll J L) η b → b < w.heap.size := by
  intro b hb
  rcases hb with hb | hb
  · exact (gone_heap hh J).lt hb
  · exact (hh.ext b hb).1

theorem evCallF_ok (he : EnvOk C) (hr : RelT C (sig C X) N env L η w a) {g : FuncId} {ts : List TypeId} {xs : List PV} {vs : List Value} (hx : RepVs (sig C X) L η w xs vs) {k : K1 K} (h : evCallF C g ts xs env L k) :
    Runs C.P (callFunc g ⟨vs⟩) w (Res C X N L η w a (touchF C g ts xs L) k) := by
  unfold evCallF at h
  split at h
  · rename_i F hF
    split at h
    · rename_i ys hl
      have hF' := lendAll_ok hr.heap ts xs ys vs hl hx (gone_off hr.heap (xs.flatMap (reach L depth)))
      exact (he.gs g F hF _ ys _ h w vs (gone_lt hr.heap _) (glob_gone hr _) hF').mono fun v w' hv => pure_res hr hv
    · exact h.elim
  · rename_i hn
    split at h
    · rename_i F hF
      split at h
      · rename_i ys ids hl
        have hv := lendG_ok hr.heap ids ts xs ys ids vs hl hx (gone_off hr.heap ids)
        refine (he.g g F hF X ys _ _ h η w vs (gone_heap hr.heap ids) (glob_gone hr ids) hv).mono fun v w' hv => ?_
        obtain ⟨rs, L', η', bad, hk, hv, hh, hf, hb, hkp⟩ := hv
        have hf' : Fwd L η w L' η' w' (fun o => bad.contains o) := (gone_fwd (w := w) (η := η) ids).trans hf (fun o _ h => ⟨rfl, h⟩)
        refine ⟨retPV rs, _, L', η', hk, hv, hr.step hf' hh, ⟨_, hf', fun o ho => ?_⟩, by simp only [touchF, hn, hl]; exact hkp⟩
        have := hb o ho
        unfold isRow at this ⊢
        split at this
        · rename_i e xs hx
          rcases gone_get ids L o _ hx with h | ⟨h, _⟩
          · cases h
          · rw [h]
        · cases this
      · exact h.elim
    · exact h.elim

theorem evXs (hr : RelT C (sig C X) N env L η w a) : ∀ (xs : List Operand), RepVs (sig C X) L η w (xs.map (evX C env)) (xs.map a.eval)
  | [] => rfl
  | x :: xs => ⟨_, _, rfl, evX_ok hr x, evXs hr xs⟩

theorem repVs_of_go {G : Sig} : ∀ {xs : List PV} {l : List Value}, Rep.go G L η w xs l → RepVs G L η w xs l
  | [], _, h => h
  | x :: xs, l, h => by
    obtain ⟨v, r, rfl, h0, h1, h2⟩ := h
    exact ⟨v, r, rfl, repV_mk h0.1 (notAgg_of_one h0.2) h1, repVs_of_go h2⟩
theorem repVs_append {G : Sig} : ∀ {xs ys : List PV} {l m : List Value}, RepVs G L η w xs l → RepVs G L η w ys m → RepVs G L η w (xs ++ ys) (l ++ m)
  | [], _, l, m, h, h' => by simp only [RepVs] at h; subst h; exact h'
  | x :: xs, ys, l, m, h, h' => by
    obtain ⟨v, r, rfl, h1, h2⟩ := h
    exact ⟨v, r ++ m, rfl, h1, repVs_append h2 h'⟩

def callSem (ρ : Operand → Value) (c : Call) (ty : TypeId) : Sem Next := do let d ← resolve ρ c ty; invoke d.target d.args

theorem runs_value {P : Program} {s : Sem Value} {t : Sem Next} {R : Value → World → Prop} (ht : t.run P w = (do pure (Next.value (← s)) : Sem Next).run P w) (h : ∃ v w', s.run P w = .ok v w' ∧ R v w') : Runs P t w R := by
  obtain ⟨v, w', h1, h2⟩ := h
  refine .inr ⟨v, w', ?_, h2⟩
  rw [ht]
  simp [h1, Result.andThen]

theorem evSpecial_ok (he : EnvOk C) (hr : RelT C (sig C X) N env L η w a) {b : Builtin} {c : Call} (hc : c.callee = .builtin b) {ty : TypeId} {k : K1 K} (h : evSpecial C b c.argTypes.toList (c.args.toList.map (evX C env)) env L k) :
    Runs C.P (callSem a.eval c ty) w (Res C X N L η w a (touchB b (c.args.toList.map (evX C env))) k) := by
  have hx := evXs hr c.args.toList
  obtain ⟨cs, hcs⟩ : ∃ cs, (callSem a.eval c ty).run C.P w = (builtin b c.argTypes ty cs (c.args.map a.eval)).run C.P w :=
    by
      refine ⟨?_, ?_⟩
      rotate_left
      · simp only [callSem, resolve, hc, Sem.run_bind, Sem.run_pure, Result.andThen, invoke]
        rfl
  have hargs : (c.args.map a.eval) = ⟨c.args.toList.map a.eval⟩ := by
    apply Array.ext'; simp
  refine Runs.of_eq hcs ?_
  rw [hargs]
  generalize c.args.toList.map a.eval = vs at hx
  generalize c.args.toList.map (evX C env) = xs at hx h ⊢
  have hts : c.argTypes = ⟨c.argTypes.toList⟩ := rfl
  rw [hts]
  generalize c.argTypes.toList = ts at h
  unfold evSpecial at h
  split at h
  · rename_i t x
    obtain ⟨v, r, rfl, hv, hr'⟩ := hx
    simp only [RepVs] at hr'; subst hr'
    exact runs_value rfl (res_same hr (evLen_ok he.cfg hr.heap hv h))
  · rename_i t t2 s x
    obtain ⟨u, r, rfl, hu, v, r', rfl, hv, hr'⟩ := hx
    simp only [RepVs] at hr'; subst hr'
    exact runs_value rfl (evAppend_ok he.cfg hr hu hv h)
  · rename_i kd p r
    obtain ⟨v, vs, rfl, hv, hvs⟩ := hx
    obtain rfl := repV_int hv
    obtain ⟨q, h1, h2⟩ := evMinMax_ok true kd r p vs hvs h
    exact runs_value rfl ⟨_, w, by simpa [Builtin.max_] using h1 w, res_mk hr .same h2 (Fwd.refl _ _ _ _) hr.heap (rv_int _ _)⟩
  · rename_i kd p r
    obtain ⟨v, vs, rfl, hv, hvs⟩ := hx
    obtain rfl := repV_int hv
    obtain ⟨q, h1, h2⟩ := evMinMax_ok false kd r p vs hvs h
    exact runs_value rfl ⟨_, w, by simpa [Builtin.min_] using h1 w, res_mk hr .same h2 (Fwd.refl _ _ _ _) hr.heap (rv_int _ _)⟩
  · exact h.elim

theorem evCall_ok (he : EnvOk C) (hr : RelT C (sig C X) N env L η w a) {c : Call} {ty : TypeId} {k : K1 K} (h : evCall C c env L k) : Runs C.P (callSem a.eval c ty) w (Res C X N L η w a (touchCall C c env L) k) := by
  have hargs : (c.args.map a.eval) = ⟨c.args.toList.map a.eval⟩ := by
    apply Array.ext'; simp
  have hx := evXs hr c.args.toList
  unfold evCall at h
  split at h
  · rename_i b hc
    simp only [touchCall, hc]
    exact evSpecial_ok he hr hc h
  · rename_i f hc
    have hf := evX_ok hr f
    split at h
    · rename_i g first cap hfe
      rw [hfe] at hf
      obtain ⟨_, hq⟩ := repV_one hf (by simp) rfl
      obtain ⟨fs, cs, hv, h1, h2⟩ := hq
      simp at hv
      have hcs : (callSem a.eval c ty).run C.P w = (callFunc g ⟨fs ++ c.args.toList.map a.eval ++ cs⟩).run C.P w := by
        simp only [callSem, resolve, hc, hv, Deferred.ofValue, Sem.run_bind, Sem.run_pure, Result.andThen, invoke, hargs]
        congr 2
        apply Array.ext'; simp
      refine Runs.of_eq hcs ?_
      have hvs := repVs_append (repVs_append (repVs_of_go h1) hx) (repVs_of_go h2)
      split at h
      · simp only [Rep.go] at h1 h2
        subst h1 h2
        simp only [touchCall, hc, hfe]
        simp only [List.nil_append, List.append_nil] at hvs ⊢
        exact evCallF_ok he hr hx h
      · rename_i hnn
        have htc : touchCall C c env L = touchF C g (first.map (fun _ => 0) ++ c.argTypes.toList) (first ++ c.args.toList.map (evX C env) ++ cap) L := by
          simp only [touchCall, hc, hfe]
        rw [htc]
        exact evCallF_ok he hr hvs h
    · exact h.elim
  · rename_i r name hc
    have hf := evX_ok hr r
    have hcs : ∀ v, a.eval r = v → (callSem a.eval c ty).run C.P w = (callMethod v name ⟨c.args.toList.map a.eval⟩).run C.P w := by
      intro v hv
      simp only [callSem, resolve, hc, hv, Sem.run_bind, Sem.run_pure, Result.andThen, invoke, hargs]
      simp
      rw [List.take_of_length_le (by simp)]
    split at h
    · rename_i e hfe
      rw [hfe] at hf
      obtain ⟨_, hq⟩ := repV_one hf (by simp) rfl
      obtain ⟨v, hv, hq⟩ := hq
      simp at hv
      split at h
      · rename_i F hF
        split at h
        · rename_i ys hl
          have hF' := lendAll_ok hr.heap _ _ ys _ hl hx (gone_off hr.heap ((c.args.toList.map (evX C env)).flatMap (reach L depth)))
          have hq' : RepErr C.I (Mx (sig C X) (goneAll ((c.args.toList.map (evX C env)).flatMap (reach L depth)) L) η) w e v :=
            RepErr.mono (fun b o hb ho => ⟨fun q => hb (by
              rcases q with ⟨o, x, g1, g2, g3⟩ | q
              · rcases gone_get _ L o x g1 with g | ⟨g, _⟩
                · subst g; cases g2
                · exact .inl ⟨o, x, g, g2, g3⟩
              · exact .inr q), ho⟩) e v hq
          refine Runs.of_eq (hcs v hv) ?_
          exact (he.gi name F hF _ e ys _ h w v _ (gone_lt hr.heap _) (glob_gone hr _) hq' hF').mono fun v w' hv => pure_res hr hv
        · exact h.elim
      · exact h.elim
    · rename_i t x hfe
      rw [hfe] at hf
      obtain ⟨_, hq⟩ := repV_one hf (by simp) rfl
      obtain ⟨v, hv, ha, hq⟩ := hq
      simp at hv
      split at h
      · rename_i g hm
        have hcm : (callMethod (.iface t v) name ⟨c.args.toList.map a.eval⟩).run C.P w = (callFunc g ⟨v :: c.args.toList.map a.eval⟩).run C.P w := by
          have := he.cfg.meth t name g hm v w
          simp [callMethod, Result.andThen]
          rw [this]
        refine Runs.of_eq ((hcs _ hv).trans hcm) ?_
        simp only [touchCall, hc, hfe, hm]
        exact evCallF_ok he hr (show RepVs (sig C X) L η w (x :: _) (v :: _) from ⟨v, _, rfl, .inr ⟨ha, hq⟩, hx⟩) h
      · exact h.elim
    · exact h.elim
end Go.Ab
