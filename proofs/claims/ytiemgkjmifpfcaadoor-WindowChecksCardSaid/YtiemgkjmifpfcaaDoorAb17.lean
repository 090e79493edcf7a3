import Derived.Test.YtiemgkjmifpfcaaDoorAb16
set_option linter.unusedVariables false
set_option linter.unusedSimpArgs false
namespace Go.Ab
open Go
variable {K : Codes} {C : Cfg K} {X : Nat → Prop} {N : Nat} {env : List PV} {L : Heap K} {η : Eta} {w : World} {a : Act}

/-- One operation is carried out. -/
def OpRuns (P : Program) (o : Oper) (a : Act) (w : World) (R : Value → World → Prop) : Prop :=
  (∃ v w', (execOp a.eval o).run P w = .ok (.value v) w' ∧ R v w') ∨ (∃ w', (execOp a.eval o).run P w = .ok .skip w' ∧ R undef w') ∨
    ∃ g args, (execOp a.eval o).run P w = .ok (.enter g args) w ∧ Calls P g args w (ret R)

theorem OpRuns.wp {P : Program} {o : Oper} {R : Value → World → Prop} (h : OpRuns P o a w R) {next : Act → World → Prop} {Q : Exit → Act → World → Prop} (hn : ∀ v w', R v w' → next (a.put o.dst v) w') :
    o.wp P a w next Q := by
  unfold Oper.wp
  rcases h with ⟨v, w', h1, h2⟩ | ⟨w', h1, h2⟩ | ⟨g, args, h1, h2⟩
  · rw [h1, Oper.upon_value]; exact hn _ _ h2
  · rw [h1, Oper.upon_skip]; exact hn _ _ h2
  · rw [h1, Oper.upon_enter]
    exact h2.mono fun e w' he => by cases e <;> first | exact hn _ _ he | exact he.elim

theorem OpRuns.mono {P : Program} {o : Oper} {R R' : Value → World → Prop} (h : OpRuns P o a w R) (hr : ∀ v w', R v w' → R' v w') : OpRuns P o a w R' := by
  rcases h with ⟨v, w', h1, h2⟩ | ⟨w', h1, h2⟩ | ⟨g, args, h1, h2⟩
  · exact .inl ⟨v, w', h1, hr _ _ h2⟩
  · exact .inr (.inl ⟨w', h1, hr _ _ h2⟩)
  · exact .inr (.inr ⟨g, args, h1, h2.mono fun e w' he => by cases e <;> first | exact hr _ _ he | exact he⟩)

/-- An operation that only reckons. -/
def Quiet (C : Cfg K) (X : Nat → Prop) (o : Oper) (a : Act) (L : Heap K) (η : Eta) (w : World) (k : PV → Prop) : Prop :=
  ∃ v x, (∀ w1, (execOp a.eval o).run C.P w1 = .ok (.value v) w1) ∧ k x ∧ RepV (sig C X) L η w x v

theorem quiet_of {o : Oper} {s : Sem Value} {k : PV → Prop} (hs : execOp a.eval o = (do pure (Next.value (← s)) : Sem Next)) (h : Gives (sig C X) L η w C.P s k) : Quiet C X o a L η w k := by
  obtain ⟨v, x, h1, h2, h3⟩ := h
  exact ⟨v, x, fun w1 => by rw [hs]; simp [h1 w1, Result.andThen], h2, h3⟩

theorem quiet_pure {o : Oper} {v : Value} {x : PV} {k : PV → Prop} (hs : execOp a.eval o = (pure (Next.value v) : Sem Next)) (h : k x) (hx : RepV (sig C X) L η w x v) : Quiet C X o a L η w k :=
  ⟨v, x, fun w1 => by rw [hs]; simp, h, hx⟩

theorem evParts (hr : RelT C (sig C X) N env L η w a) : ∀ (ps : List (Nat × Operand)), RepParts (sig C X) L η w (ps.map (evP C env)) (ps.map fun p => (p.1, a.eval p.2))
  | [] => rfl
  | (i, x) :: ps => ⟨_, _, rfl, evX_ok hr x, evParts hr ps⟩

theorem goOf (hr : RelT C (sig C X) N env L η w a) : ∀ (xs : List Operand), (xs.map (evX C env)).all PV.one = true → Rep.go (sig C X) L η w (xs.map (evX C env)) (xs.map a.eval)
  | [], _ => rfl
  | x :: xs, h => by
    simp only [List.map_cons, List.all_cons, Bool.and_eq_true, PV.one, Bool.not_eq_true'] at h
    obtain ⟨⟨h1, hs⟩, h3⟩ := h
    have h2 : evX C env x ≠ .junk := by intro hx; rw [hx] at hs; cases hs
    obtain ⟨q1, q2⟩ := repV_one (evX_ok hr x) h2 h1
    refine ⟨_, _, rfl, ⟨h1, ?_⟩, q2, goOf hr xs h3⟩
    have := Rep.cells (evX_ok hr x) hs
    rw [cells_one q1] at this
    exact Rep.go_one this _ (by simp)

theorem moveQ (hr : RelT C (sig C X) N env L η w a) {x : Operand} {t : TypeId} {k : K1 K} (hp : plainMove x = true) (h : evMove C x t env L k) : k (evX C env x) env L := by
  cases x with
  | const v =>
    simp only [plainMove, Bool.not_eq_true'] at hp
    simp only [evMove, hp] at h
    exact h
  | tmp t => exact h
  | global g => exact h
  | func f => exact h

theorem convQ (hc : CfgOk C) {s d : TypeId} {x : PV} {u : Value} {k : K1 K} (hs : ∀ e, C.td s ≠ .slice e) (hx : RepV (sig C X) L η w x u) (h : evConvert C s d x env L k) :
    Gives (sig C X) L η w C.P (convert s d u) (fun y => k y env L) := by
  unfold evConvert at h
  split at h
  · rename_i ks kd _ n hs hd
    obtain rfl := repV_int hx
    exact gives _ _ (fun w => by simp [convert, run_underlying (td_int hc hs), run_underlying (td_int hc hd), Conv.intToInt, Result.andThen]) h (rv_int _ _)
  · rename_i n hs hd
    obtain rfl := repV_str hx
    exact gives _ _ (fun w => by simp [convert, run_underlying (td_str hc hs), run_underlying (td_str hc hd), Result.andThen]) h (rv_str _)
  · rename_i e _ _ _ hs' _
    exact absurd hs' (hs e)
  · rename_i e _ hs' _
    exact absurd hs' (hs e)
  · exact h.elim

theorem specialQ (he : EnvOk C) (hr : RelT C (sig C X) N env L η w a) {b : Builtin} {c : Call} {o : Oper} (ho : o.op = .call c) (hc : c.callee = .builtin b) (hb : b = .len ∨ b = .max ∨ b = .min) {k : K1 K}
    (h : evSpecial C b c.argTypes.toList (c.args.toList.map (evX C env)) env L k) : Quiet C X o a L η w (fun y => k y env L) := by
  have hx := evXs hr c.args.toList
  obtain ⟨cs, hcs⟩ : ∃ cs, ∀ w, (execOp a.eval o).run C.P w = (builtin b c.argTypes o.type cs (c.args.map a.eval)).run C.P w := by
      refine ⟨?_, ?_⟩
      rotate_left
      · intro w
        simp only [execOp, ho, resolve, hc, Sem.run_bind, Sem.run_pure, Result.andThen, invoke]
        rfl
  have hargs : (c.args.map a.eval) = ⟨c.args.toList.map a.eval⟩ := by
    apply Array.ext'; simp
  rw [hargs] at hcs
  generalize c.args.toList.map a.eval = vs at hx hcs
  generalize c.args.toList.map (evX C env) = xs at hx h
  have hts : c.argTypes = ⟨c.argTypes.toList⟩ := rfl
  rw [hts] at hcs
  generalize c.argTypes.toList = ts at h hcs
  have fin : ∀ {s : Sem Value}, (∀ w, (builtin b ⟨ts⟩ o.type cs ⟨vs⟩).run C.P w = (do pure (Next.value (← s)) : Sem Next).run C.P w) → Gives (sig C X) L η w C.P s (fun y => k y env L) → Quiet C X o a L η w (fun y => k y env L) := by
    rintro s h1 ⟨v, x, h2, h3, h4⟩
    exact ⟨v, x, fun w1 => by rw [hcs, h1]; simp [h2 w1, Result.andThen], h3, h4⟩
  unfold evSpecial at h
  split at h
  · rename_i t x
    obtain ⟨v, r, rfl, hv, hr'⟩ := hx
    simp only [RepVs] at hr'; subst hr'
    exact fin (fun _ => rfl) (evLen_ok he.cfg hr.heap hv h)
  · simp at hb
  · rename_i kd p r
    obtain ⟨v, vs, rfl, hv, hvs⟩ := hx
    obtain rfl := repV_int hv
    obtain ⟨q, h1, h2⟩ := evMinMax_ok true kd r p vs hvs h
    exact fin (fun _ => rfl) (gives _ _ (fun w => by simpa [Builtin.max_] using h1 w) h2 (rv_int _ _))
  · rename_i kd p r
    obtain ⟨v, vs, rfl, hv, hvs⟩ := hx
    obtain rfl := repV_int hv
    obtain ⟨q, h1, h2⟩ := evMinMax_ok false kd r p vs hvs h
    exact fin (fun _ => rfl) (gives _ _ (fun w => by simpa [Builtin.min_] using h1 w) h2 (rv_int _ _))
  · exact h.elim

theorem quiet_ok (he : EnvOk C) (hr : RelT C (sig C X) N env L η w a) {o : Oper} {k : K1 K} (hq : quietOp C o = true) (h : evOp C o env L k) : Quiet C X o a L η w (fun y => k y env L) := by
  obtain ⟨dst, op, ty, pos, after, guard⟩ := o
  cases op <;> dsimp only [quietOp] at hq <;> first | (cases hq; done) | skip
  case move x => exact quiet_pure rfl (moveQ hr hq h) (evX_ok hr x)
  case assign x => exact quiet_pure rfl (moveQ hr hq h) (evX_ok hr x)
  case pick c x y =>
    have hc := evX_ok hr c
    simp only [evOp] at h
    split at h
    · rename_i t hcb
      rw [hcb] at hc
      have hcv := repV_bool hc
      split at h
      · exact ⟨_, _, fun w1 => by simp [execOp, hcv, asBool, Result.andThen], h, evX_ok hr x⟩
      · exact ⟨_, _, fun w1 => by simp [execOp, hcv, asBool, Result.andThen], h, evX_ok hr y⟩
    · exact h.elim
  case build t ps =>
    have := evBuild_ok (k := fun y => k y env L) he.cfg (evParts hr ps.toList) h
    refine quiet_of ?_ this
    simp only [execOp]
    congr 2
    apply Array.ext'; simp
  case nilCheck x =>
    obtain ⟨h1, h2⟩ := evNilCheck_ok (k := fun y => k y env L) (evX_ok hr x) h
    refine ⟨a.eval x, _, fun w1 => ?_, h1, evX_ok hr x⟩
    rcases h2 with ⟨q, hv⟩ | ⟨g, y, z, hv⟩ | ⟨t, v, hv⟩ <;> simp [execOp, hv]
  case binOp op t x y z =>
    refine quiet_of rfl (evBin_ok he.cfg hr.heap (evX_ok hr x) (evX_ok hr y) ?_ h)
    intro c hc
    subst hc; rfl
  case unOp op t x => exact quiet_of rfl (evUn_ok (evX_ok hr x) h)
  case convert s d x =>
    refine quiet_of rfl (convQ he.cfg ?_ (evX_ok hr x) h)
    intro e hs
    simp [hs] at hq
  case makeInterface t x => exact quiet_of rfl (evMakeIface_ok he.cfg (evX_ok hr x) h)
  case makeFunc f p q =>
    obtain ⟨hq, h⟩ := chk_iff h
    rw [Bool.and_eq_true] at hq
    refine ⟨.func f (p.map a.eval) (q.map a.eval), _, fun w1 => by simp [execOp, Instr.makeFunc, Result.andThen], h, repV_mk rfl rfl ⟨_, _, ?_, goOf hr _ hq.1, goOf hr _ hq.2⟩⟩
    congr 2 <;> apply Array.ext' <;> simp
  case fieldAddr t x f => exact quiet_of rfl (evFieldAddr_ok he.cfg (evX_ok hr x) h)
  case field t x f => exact quiet_of rfl (evField_ok he.cfg (evX_ok hr x) h)
  case indexAddr t x i => exact quiet_of rfl (evIndexAddr_ok he.cfg hr.heap (evX_ok hr x) (evX_ok hr i) h)
  case index t x i => exact quiet_of rfl (evIndex_ok he.cfg (evX_ok hr x) (evX_ok hr i) h)
  case typeAssert x xt t ok => exact quiet_of rfl (evAssert_ok he.cfg (evX_ok hr x) h)
  case extract x j => exact quiet_of rfl (evExtract_ok (evX_ok hr x) h)
  case call c =>
    simp only [evOp, evCall] at h
    split at hq
    · rename_i hcl; rw [hcl] at h; exact specialQ he hr rfl hcl (.inl rfl) h
    · rename_i hcl; rw [hcl] at h; exact specialQ he hr rfl hcl (.inr (.inl rfl)) h
    · rename_i hcl; rw [hcl] at h; exact specialQ he hr rfl hcl (.inr (.inr rfl)) h
    · cases hq

theorem runs_op {P : Program} {o : Oper} {c : Call} (ho : o.op = .call c) {R : Value → World → Prop} (h : Runs P (callSem a.eval c o.type) w R) : OpRuns P o a w R := by
  have he : execOp a.eval o = callSem a.eval c o.type := by simp only [execOp, ho]; rfl
  rcases h with ⟨g, args, h1, h2⟩ | ⟨v, w', h1, h2⟩
  · exact .inr (.inr ⟨g, args, by rw [he]; exact h1, h2⟩)
  · exact .inl ⟨v, w', by rw [he]; exact h1, h2⟩

theorem value_op {P : Program} {o : Oper} {s : Sem Value} (hs : execOp a.eval o = (do pure (Next.value (← s)) : Sem Next)) {R : Value → World → Prop} (h : ∃ v w', s.run P w = .ok v w' ∧ R v w') : OpRuns P o a w R := by
  obtain ⟨v, w', h1, h2⟩ := h
  exact .inl ⟨v, w', by rw [hs]; simp [h1, Result.andThen], h2⟩

theorem evOp_ok (he : EnvOk C) (hr : RelT C (sig C X) N env L η w a) {o : Oper} {k : K1 K} (h : evOp C o env L k) : OpRuns C.P o a w (Res C X N L η w a (touchOp C o env L) k) := by
  cases hq : quietOp C o with
  | true =>
    obtain ⟨v, x, h1, h2, h3⟩ := quiet_ok he hr hq h
    exact .inl ⟨v, w, h1 w, res_mk hr .same h2 (Fwd.refl _ _ _ _) hr.heap h3⟩
  | false =>
    obtain ⟨dst, op, ty, pos, after, guard⟩ := o
    cases op <;> dsimp only [quietOp] at hq <;> first | (cases hq; done) | (exact h.elim) | skip
    case move x => exact .inl ⟨_, w, rfl, evMove_ok he.cfg hr h⟩
    case assign x => exact .inl ⟨_, w, rfl, evMove_ok he.cfg hr h⟩
    case alloc t => exact value_op rfl (evAlloc_ok he.cfg hr h)
    case box t x => exact value_op rfl (evBox_ok he.cfg hr (evX_ok hr x) h)
    case buildSlice t n ps =>
      have := evBuildSlice_ok he.cfg hr (evParts hr ps.toList) h
      refine value_op ?_ this
      simp only [execOp]
      congr 2
      apply Array.ext'; simp
    case load t p =>
      obtain ⟨u, x, b, h1, h2, h3, _⟩ := evLoad_ok he.cfg hr.heap (evX_ok hr p) h
      exact value_op rfl ⟨u, w, h1 w rfl, res_mk hr .same h2 (Fwd.refl _ _ _ _) hr.heap h3⟩
    case store t p x =>
      obtain ⟨w', h1, h2⟩ := evStore_ok he.cfg hr (evX_ok hr p) (evX_ok hr x) h
      exact .inr (.inl ⟨w', by simp [execOp, h1, Result.andThen], h2⟩)
    case convert s d x => exact value_op rfl (evConvert_ok he.cfg hr (evX_ok hr x) h)
    case slice t x lo hi mx =>
      have ho : ∀ z : Option Operand, RepO (sig C X) L η w (z.map (evX C env)) (z.map a.eval) := by
        intro z
        cases z with
        | none => rfl
        | some z => exact ⟨_, rfl, evX_ok hr z⟩
      exact value_op rfl (evSlice_ok he.cfg hr (evX_ok hr x) (ho lo) (ho hi) (ho mx) h)
    case call c => exact runs_op rfl (evCall_ok he hr h)
end Go.Ab
