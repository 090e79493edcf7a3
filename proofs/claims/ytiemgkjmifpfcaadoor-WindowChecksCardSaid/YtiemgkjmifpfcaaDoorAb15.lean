import Derived.Test.YtiemgkjmifpfcaaDoorAb14
set_option linter.unusedVariables false
set_option linter.unusedSimpArgs false
namespace Go.Ab
open Go
variable {K : Codes} {C : Cfg K} {X : Nat → Prop} {N : Nat} {env : List PV} {L : Heap K} {η : Eta} {w : World} {a : Act}

theorem isU8_int {y : PV} (h : isU8 y = true) : ∃ n, y = .int .u8 n := by
  unfold isU8 at h
  split at h
  · exact ⟨_, rfl⟩
  · cases h

theorem strPV_eq : ∀ (ns : List Int) (s : ByteArray), (ns.map (PV.int .u8)).foldl (fun r x => r.push (UInt8.ofNat (pvNat x))) s = ns.foldl (fun r n => r.push (UInt8.ofNat n.toNat)) s
  | [], _ => rfl
  | _ :: ns, s => by simp only [List.map_cons, List.foldl_cons]; exact strPV_eq ns _

/-- Bytes that lie in memory, as a string. -/
theorem bytes_run {P : Program} {α : Type} {enc : α → PV} {ys : List α} {I : Ids} {M : Nat → Prop} {b off len cap : Nat} {cells : Array Value} {t : TypeId} {fr : Nat × Nat} (hb : w.heap[b]? = some (.cells cells t fr)) (hl : len = ys.length)
    (hu : ∀ y, y ∈ ys → isU8 (enc y) = true)
    (h : ∀ (i : Nat) (x : α), ys[i]? = some x → ∃ cs : List Value, cs.length = 1 ∧ RepF I M w (enc x) cs ∧ ∀ (j : Nat) (v : Value), cs[j]? = some v → cells[off + i * 1 + j]? = some v) :
    (Conv.bytesToString (.slice (some ⟨b, off, none⟩) len cap)).run P w = .ok (.string (strPV (ys.map enc))) w := by
  have hns : ∃ ns : List Int, ys.map enc = ns.map (PV.int .u8) := by
    clear h hl
    induction ys with
    | nil => exact ⟨[], rfl⟩
    | cons y ys ih =>
      obtain ⟨n, hn⟩ := isU8_int (hu y List.mem_cons_self)
      obtain ⟨ns, hns⟩ := ih (fun y hy => hu y (List.mem_cons_of_mem _ hy))
      exact ⟨n :: ns, by simp [hn, hns]⟩
  obtain ⟨ns, hns⟩ := hns
  have hlen : ys.length = ns.length := by simpa using congrArg List.length hns
  rw [hns, strPV, strPV_eq]
  refine run_bytesToString w _ len cap ns ?_
  have := run_loadCells_list (P := P) w ⟨b, off, none⟩ (ns.map (Value.int .u8)) (by
    intro j v hj
    rw [add_plain', cell_of_blk hb]
    rw [List.getElem?_map] at hj
    obtain ⟨n, hn, rfl⟩ := Option.map_eq_some_iff.1 hj
    have hy : (ys.map enc)[j]? = some (.int .u8 n) := by rw [hns]; simp [hn]
    rw [List.getElem?_map] at hy
    obtain ⟨y, hy, hyn⟩ := Option.map_eq_some_iff.1 hy
    obtain ⟨cs, c1, c2, c3⟩ := h j y hy
    rw [hyn] at c2
    simp only [RepF] at c2
    subst c2
    have := c3 0 _ rfl
    rwa [Nat.mul_one, Nat.add_zero] at this)
  rw [hl, hlen]
  simpa using this

theorem bytes_nil {P : Program} {A : Option Addr} {cap : Nat} : (Conv.bytesToString (.slice A 0 cap)).run P w = .ok (.string (strPV [])) w := by
  cases A with
  | none => simp [Conv.bytesToString]; rfl
  | some a =>
    exact run_bytesToString w a 0 cap [] (run_loadCells_list (P := P) w a [] (by simp))

theorem td_int {t : TypeId} {k : IntKind} (hc : CfgOk C) (h : C.td t = .int k) : C.P.underlying t = some (.int k) := by
  unfold Cfg.td at h
  split at h
  · rename_i i hi; have := (hc.ty t i hi).desc; rw [h] at this; exact this
  · cases h

theorem evConvert_ok (hc : CfgOk C) (hr : RelT C (sig C X) N env L η w a) {s d : TypeId} {x : PV} {u : Value} (hx : RepV (sig C X) L η w x u) {k : K1 K} (h : evConvert C s d x env L k) :
    ∃ v w', (convert s d u).run C.P w = .ok v w' ∧ Res C X N L η w a [] k v w' := by
  unfold evConvert at h
  split at h
  · rename_i ks kd _ n hs hd
    obtain rfl := repV_int hx
    refine ⟨_, w, ?_, res_mk hr .same h (Fwd.refl _ _ _ _) hr.heap (rv_int _ _)⟩
    simp [convert, run_underlying (td_int hc hs), run_underlying (td_int hc hd), Conv.intToInt, Result.andThen]
  · rename_i n hs hd
    obtain rfl := repV_str hx
    refine ⟨_, w, ?_, res_mk hr .same h (Fwd.refl _ _ _ _) hr.heap (rv_str _)⟩
    simp [convert, run_underlying (td_str hc hs), run_underlying (td_str hc hd), Result.andThen]
  · rename_i e α enc l hs hd
    split at h
    · rename_i he
      obtain ⟨hu, hk⟩ := h
      obtain ⟨_, hq⟩ := repV_one hx (by simp) rfl
      obtain ⟨A, cap, hA, hcap, hq⟩ := hq
      simp at hA; subst hA
      refine ⟨.string (strPV (l.map enc)), w, ?_, res_mk hr .same hk (Fwd.refl _ _ _ _) hr.heap (rv_str _)⟩
      rw [run_convert_bytes_string w s d e A l.length cap (td_und hc hs) (td_int hc he) (td_str hc hd)]
      rcases hq with rfl | ⟨b, off, z, cells, ty, fr, rfl, hs', hM, hb, hel⟩
      · exact bytes_nil
      · by_cases hne : l = []
        · subst hne; exact bytes_nil
        · have hz : z = 1 := by
            have h0 : 0 < l.length := List.length_pos_iff.2 hne
            obtain ⟨cs, c1, c2, _⟩ := hel 0 l[0] (List.getElem?_eq_getElem h0)
            obtain ⟨n, hn⟩ := isU8_int (hu _ (List.getElem_mem h0))
            rw [← c1, c2.length, hn]; rfl
          subst hz
          exact bytes_run (enc := enc) hb rfl hu hel
    · exact h.elim
  · rename_i e o hs hd
    split at h
    · rename_i e' xs he hL
      obtain ⟨hee, hu, hk⟩ := chk_iff h
      have hee := Nat.eq_of_beq_eq_true hee
      subst hee
      obtain ⟨_, hq⟩ := repV_one hx (by simp) rfl
      obtain ⟨hlt, _, hq⟩ := hq
      obtain ⟨A, cap, hA, hcap, hq2⟩ := hq e' xs hL
      simp at hA; subst hA
      refine ⟨.string (strPV (xs.map (K e').enc)), w, ?_, res_mk hr .same hk (Fwd.refl _ _ _ _) hr.heap (rv_str _)⟩
      rw [run_convert_bytes_string w s d e' A xs.length cap (td_und hc hs) (td_int hc he) (td_str hc hd)]
      by_cases hne : xs = []
      · subst hne; exact bytes_nil
      · rcases hr.heap.obj o _ hL with ⟨g1, g2⟩ | ⟨b, cells, g1, g2, g3, g4, g5⟩
        · exact absurd g1 hne
        · have h0 : 0 < xs.length := List.length_pos_iff.2 hne
          rcases hq2 with h00 | ⟨b', cells', t', fr', q1, q2, q3, _⟩
          · omega
          · rw [g1] at q1; cases q1
            subst q2
            have hz : (sig C X).sz e' = 1 := by
              obtain ⟨cs, c1, c2, _⟩ := g5 0 xs[0] (List.getElem?_eq_getElem h0)
              obtain ⟨n, hn⟩ := isU8_int (hu _ (List.getElem_mem h0))
              rw [← c1, c2.length, hn]; rfl
            rw [hz] at g5
            exact bytes_run (off := 0) (enc := (K e').enc) g2 rfl hu (fun i x hi => by
              obtain ⟨cs, c1, c2, c3⟩ := g5 i x hi
              exact ⟨cs, c1, c2, fun j v hj => by rw [Nat.zero_add]; exact c3 j v hj⟩)
    · exact h.elim
  · exact h.elim

/-- An operand's value. -/
theorem ofConst1_ok {G : Sig} {v : Value} (h : v.oneCell' = true) : Rep G L η w (ofConst1 v) [v] := by
  cases v <;> first | exact rfl | exact ⟨rfl, h⟩ | exact ⟨_, rfl, rfl⟩ | simp [Value.oneCell'] at h

theorem ofConst_go {G : Sig} : ∀ (cs : List Value), (∀ v, v ∈ cs → v.oneCell' = true) → Rep.go G L η w (cs.map ofConst1) cs
  | [], _ => rfl
  | v :: cs, h => by
    have h1 := h v List.mem_cons_self
    refine ⟨v, cs, rfl, ⟨?_, h1⟩, ofConst1_ok h1, ofConst_go cs (fun v hv => h v (List.mem_cons_of_mem _ hv))⟩
    cases v <;> first | rfl | simp [Value.oneCell'] at h1

theorem ofConst1_agg (v : Value) : (ofConst1 v).isAgg = false := by cases v <;> rfl

theorem ofConst_ok {G : Sig} {v : Value} (h : constOk v = true) : RepV G L η w (ofConst v) v := by
  have key : ∀ v : Value, isAggV v = false → v.oneCell' = true → ofConst v = ofConst1 v → RepV G L η w (ofConst v) v := by
    intro v h1 h2 h3
    rw [h3]
    exact repV_mk (ofConst1_agg v) h1 (ofConst1_ok h2)
  cases v with
  | agg cs =>
    right
    refine ⟨rfl, ofConst_go cs.toList ?_⟩
    intro v hv
    simp only [constOk, List.all_eq_true] at h
    exact h v hv
  | tuple _ => simp [constOk] at h
  | _ => exact key _ rfl h rfl

theorem rep_glob (hr : RelT C (sig C X) N env L η w a) {g : Nat} {x : PV} (h : C.glob g = some x) : RepV (sig C X) L η w (.el x 0) (.pointer (some ⟨g, 0, none⟩)) :=
  repV_mk rfl rfl (hr.glob g x h)

theorem evX_ok (hr : RelT C (sig C X) N env L η w a) (x : Operand) : RepV (sig C X) L η w (evX C env x) (a.eval x) := by
  cases x with
  | tmp t =>
    simp only [evX, Act.eval, List.getD_eq_getElem?_getD]
    cases h : env[t]? with
    | none => exact .inl rfl
    | some y => exact hr.tmp t y h
  | const v =>
    simp only [evX, Act.eval]
    split
    · rename_i h; exact ofConst_ok h
    · exact .inl rfl
  | global g =>
    simp only [evX, Act.eval]
    split
    · rename_i x h; exact rep_glob hr h
    · exact .inl rfl
  | func f =>
    exact repV_mk rfl rfl ⟨[], [], rfl, rfl, rfl⟩

theorem evMove_ok (hc : CfgOk C) (hr : RelT C (sig C X) N env L η w a) {x : Operand} {t : TypeId} {k : K1 K} (h : evMove C x t env L k) : Res C X N L η w a [] k (a.eval x) w := by
  have gen : ∀ x, k (evX C env x) env L → Res C X N L η w a [] k (a.eval x) w := fun x h => res_mk hr .same h (Fwd.refl _ _ _ _) hr.heap (evX_ok hr x)
  cases x with
  | const v =>
    simp only [evMove] at h
    split at h
    · rename_i e _ _ _ _ _ hn ht
      simp only [evNil] at h
      split at h
      · obtain rfl := isNil_eq hn
        obtain ⟨pf, ph⟩ := push_nil hr.heap e
        exact res_mk hr .same h pf ph (repV_mk rfl rfl (rep_own_nil (e := e) (by simp)))
      · exact h.elim
    · exact h.elim
    · exact gen _ h
  | tmp t => exact gen _ h
  | global g => exact gen _ h
  | func f => exact gen _ h

def noNil (u : Value) : Prop := (∃ a, u = .pointer (some a)) ∨ (∃ g x y, u = .func (.func g) x y) ∨ ∃ t v, u = .iface t v

theorem evNilCheck_ok {x : PV} {u : Value} (hx : RepV (sig C X) L η w x u) {k : PV → Prop} (h : evNilCheck x L k) : k x ∧ noNil u := by
  unfold evNilCheck at h
  split at h
  · split at h
    · rename_i o off _ cs hL
      refine ⟨h, .inl ?_⟩
      obtain ⟨_, hq⟩ := repV_one hx (by simp) rfl
      obtain ⟨_, _, hq⟩ := hq
      obtain ⟨b, _, hv⟩ := hq cs hL
      simp at hv
      exact ⟨_, hv⟩
    · exact h.elim
  · refine ⟨h, .inl ?_⟩
    obtain ⟨_, hq⟩ := repV_one hx (by simp) rfl
    obtain ⟨b, base, cells, t, fr, cs, hv, _⟩ := hq
    simp at hv
    exact ⟨_, hv⟩
  · refine ⟨h, .inr (.inl ?_)⟩
    obtain ⟨_, hq⟩ := repV_one hx (by simp) rfl
    obtain ⟨fs, cs, hv, _⟩ := hq
    simp at hv
    exact ⟨_, _, _, hv⟩
  · refine ⟨h, .inr (.inr ?_)⟩
    obtain ⟨_, hq⟩ := repV_one hx (by simp) rfl
    obtain ⟨v, hv, _⟩ := hq
    simp at hv
    exact ⟨_, _, hv⟩
  · exact h.elim
end Go.Ab
