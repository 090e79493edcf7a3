import Derived.Test.YtiemgkjmifpfcaaDoorAb10
set_option linter.unusedVariables false
set_option linter.unusedSimpArgs false
namespace Go.Ab
open Go
variable {K : Codes} {C : Cfg K} {X : Nat → Prop} {N : Nat} {env : List PV} {L : Heap K} {η : Eta} {w : World} {a : Act}

theorem notIface {t : TypeId} (hc : CfgOk C) (h : solidTd (C.td t) = true) : ∃ d, C.P.underlying t = some d ∧ ∀ ms, d ≠ .interface ms := by
  unfold Cfg.td at h
  cases hi : C.ty t with
  | none => rw [hi] at h; simp [solidTd] at h
  | some i =>
    rw [hi] at h
    have := (hc.ty t i hi).desc
    cases htd : i.td <;> rw [htd] at this <;> simp only [TDok] at this
    case other => simp [htd, solidTd] at h
    case iface => simp [htd, solidTd] at h
    case struct fs => obtain ⟨f, h1, _⟩ := this; exact ⟨_, h1, by simp⟩
    case func => obtain ⟨a, b, c, h1⟩ := this; exact ⟨_, h1, by simp⟩
    all_goals exact ⟨_, this, by simp⟩

theorem evMakeIface_ok (hc : CfgOk C) {t : TypeId} {x : PV} {v : Value} {k : PV → Prop} (hx : RepV (sig C X) L η w x v) (h : evMakeIface C t x k) : Gives (sig C X) L η w C.P (Instr.makeInterface t v) k := by
  unfold evMakeIface at h
  split at h
  · rename_i hs
    · obtain ⟨d, e1, e2⟩ := notIface hc hs
      have run : ∀ (v : Value) (w : World), (Instr.makeInterface t v).run C.P w = .ok (.iface t v) w := by
        intro v w
        simp only [Instr.makeInterface, Sem.run_bind, run_underlying e1, Result.andThen]
        cases d <;> first | rfl | exact absurd rfl (e2 _)
      split at h
      · exact h.elim
      · exact h.elim
      · rename_i n
        obtain rfl := repV_int hx
        split at h
        · rename_i ht
          exact gives _ _ (run _) h (repV_mk rfl rfl ⟨_, rfl, by rw [RepErr, ht]; rfl⟩)
        · exact gives _ _ (run _) h (repV_mk rfl rfl ⟨_, rfl, rfl, rfl⟩)
      · rename_i y hj ht _
        refine gives _ _ (run _) h (repV_mk rfl rfl ⟨_, rfl, ?_⟩)
        rcases hx with rfl | ⟨q1, q2⟩
        · exact absurd rfl hj
        · exact ⟨q1, q2⟩
  · exact h.elim

theorem evLen_ok (hc : CfgOk C) (hh : HeapRel (sig C X) L η w) {t ty : TypeId} {x : PV} {v : Value} {k : PV → Prop} (hx : RepV (sig C X) L η w x v) (h : evLen C t x L k) :
    Gives (sig C X) L η w C.P (Builtin.len_ #[t] ty #[v]) k := by
  unfold evLen at h
  split at h
  · rename_i s ht
    obtain rfl := repV_str hx
    exact gives _ _ (fun w => by simp [Builtin.len_, run_underlying (Cfg.td_str hc ht), Result.andThen, goInt]) h (rv_int _ _)
  · rename_i α enc l e ht
    obtain ⟨_, hr⟩ := repV_one hx (by simp) rfl
    obtain ⟨A, cap, hv, _⟩ := hr
    simp at hv; subst hv
    exact gives _ _ (fun w => by simp [Builtin.len_, run_underlying (Cfg.td_slice hc ht), Result.andThen, goInt]) h (rv_int _ _)
  · rename_i o e ht
    split at h
    · rename_i e' xs hL
      obtain ⟨_, hr⟩ := repV_one hx (by simp) rfl
      obtain ⟨_, _, hr⟩ := hr
      obtain ⟨A, cap, hv, _⟩ := hr e' xs hL
      simp at hv; subst hv
      exact gives _ _ (fun w => by simp [Builtin.len_, run_underlying (Cfg.td_slice hc ht), Result.andThen, goInt]) h (rv_int _ _)
    · exact h.elim
  · rename_i u e ht
    split at h
    · rename_i hn
      obtain rfl := isNil_eq hn
      obtain ⟨_, hr⟩ := repV_one hx (by simp) rfl
      obtain ⟨hr, _⟩ := hr
      simp at hr; subst hr
      exact gives _ _ (fun w => by simp [Builtin.len_, run_underlying (Cfg.td_slice hc ht), Result.andThen, goInt]) h (rv_int _ _)
    · exact h.elim
  · exact h.elim

theorem evMinMax_ok (mx : Bool) (kd : IntKind) : ∀ (r : List PV) (p : Int) (vs : List Value) {k : PV → Prop}, RepVs (sig C X) L η w r vs → evMinMax mx kd p r k →
    ∃ q, (∀ w1, (List.foldlM (if mx then Builtin.max2 else Builtin.min2) (.int kd p) vs : Sem Value).run C.P w1 = .ok (.int kd q) w1) ∧ k (.int kd q)
  | [], p, vs, k, hr, h => by simp only [RepVs] at hr; subst hr; exact ⟨p, fun _ => by simp, h⟩
  | y :: r, p, vs, k, hr, h => by
    obtain ⟨v, vs, rfl, hy, hr⟩ := hr
    simp only [evMinMax] at h
    split at h
    · rename_i kd' b
      split at h
      · rename_i hk
        subst hk
        obtain rfl := repV_int hy
        obtain ⟨q, h1, h2⟩ := evMinMax_ok mx kd' r _ vs hr h
        refine ⟨q, fun w1 => ?_, h2⟩
        have h1 := h1 w1
        cases mx <;> simpa [List.foldlM_cons, Builtin.max2, Builtin.min2, Result.andThen] using h1
      · exact h.elim
    · exact h.elim

theorem evAssert_ok (hc : CfgOk C) {t xt : TypeId} {x : PV} {v : Value} {ok : Bool} {k : PV → Prop} (hx : RepV (sig C X) L η w x v) (h : evAssert C x t ok k) : Gives (sig C X) L η w C.P (Instr.typeAssert v xt t ok) k := by
  unfold evAssert at h
  split at h
  · rename_i i u y hs hi
    · obtain ⟨d, e1, e2⟩ := notIface hc hs
      obtain ⟨_, hr⟩ := repV_one hx (by simp) rfl
      obtain ⟨v', hv, hva, hr⟩ := hr
      simp at hv; subst hv
      split at h
      · rename_i hut
        subst hut
        have run : ∀ w, (Instr.typeAssert (.iface u v') xt u ok).run C.P w = .ok (if ok then .tuple #[v', .bool true] else v') w := by
          intro w
          simp only [Instr.typeAssert, Sem.run_bind, run_underlying e1, Result.andThen]
          cases d <;> first | (exact absurd rfl (e2 _)) | (cases ok <;> simp)
        split at h
        · exact gives _ _ run h (repV_mk rfl rfl ⟨[v', .bool true], rfl, v', _, rfl, .inl hva, hr, .bool true, [], rfl, .inl rfl, rfl, rfl⟩)
        · exact gives _ _ run h (.inr ⟨hva, hr⟩)
      · rename_i hut
        split at h
        · obtain ⟨inf, i1, i2, i3, z, i4, i5, i6⟩ := (hc.ty t i hi).info
          have run : ∀ w, (Instr.typeAssert (.iface u v') xt t true).run C.P w = .ok (.tuple #[z, .bool false]) w := by
            intro w
            simp only [Instr.typeAssert, Sem.run_bind, run_underlying e1, Result.andThen]
            cases d <;> first | (exact absurd rfl (e2 _)) | (simp [hut, run_zeroValue' i1 i4, Result.andThen])
          have hz : isAggV z = (zeroPV i).isAgg ∨ zeroPV i = .junk := by
            unfold zeroPV
            split
            · rename_i ha; left; rw [i5, ha]; rfl
            · rename_i x ha hx
              left
              have := i6 (sig C X) L η w
              rw [hx] at this
              obtain ⟨v1, r1, _, q, _⟩ := this
              rw [i5, ha, q.1]
            · exact .inr rfl
          have hzr : Rep (sig C X) L η w (zeroPV i) z.cells.toList := by
            have := i6 (sig C X) L η w
            unfold zeroPV
            split
            · exact this
            · rename_i x ha hx
              rw [hx] at this
              obtain ⟨v1, r1, q1, q, q3, q4⟩ := this
              simp only [Rep.go] at q4
              subst q4
              rw [q1]; exact q3
            · exact trivial
          exact gives _ _ run h (repV_mk rfl rfl ⟨[z, .bool false], rfl, z, _, rfl, hz, hzr, .bool false, [], rfl, .inl rfl, rfl, rfl⟩)
        · exact h.elim
  · exact h.elim
end Go.Ab
