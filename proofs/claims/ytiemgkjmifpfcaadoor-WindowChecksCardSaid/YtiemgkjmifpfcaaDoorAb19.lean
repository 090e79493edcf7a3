import Derived.Test.YtiemgkjmifpfcaaDoorAb18
set_option linter.unusedVariables false
set_option linter.unusedSimpArgs false
namespace Go.Ab
open Go
variable {K : Codes} {C : Cfg K} {X : Nat → Prop} {N : Nat} {env : List PV} {L : Heap K} {η : Eta} {w : World} {a : Act}

/-! ### objects, named anew -/
theorem addNew_pre : ∀ (ys l : List Nat), ∃ r, addNew l ys = l ++ r
  | [], l => ⟨[], by simp [addNew]⟩
  | y :: ys, l => by
    simp only [addNew]
    split
    · exact addNew_pre ys l
    · obtain ⟨r, hr⟩ := addNew_pre ys (l ++ [y])
      exact ⟨y :: r, by rw [hr]; simp⟩
theorem addNew_nodup : ∀ (ys l : List Nat), l.Nodup → (addNew l ys).Nodup
  | [], l, h => h
  | y :: ys, l, h => by
    simp only [addNew]
    split
    · exact addNew_nodup ys l h
    · rename_i hc
      refine addNew_nodup ys _ ?_
      rw [List.nodup_append]
      refine ⟨h, by simp, ?_⟩
      intro x hx z hz
      simp at hz; subst hz
      intro e; subst e
      simp [hx] at hc
theorem closeRefs_pre (L : Heap K) : ∀ (n i : Nat) (l : List Nat), ∃ r, closeRefs L n i l = l ++ r
  | 0, _, l => ⟨[], by simp [closeRefs]⟩
  | n + 1, i, l => by
    simp only [closeRefs]
    split
    · split
      · rename_i cs _
        obtain ⟨r, hr⟩ := addNew_pre (refs.go cs) l
        obtain ⟨r2, hr2⟩ := closeRefs_pre L n (i + 1) (addNew l (refs.go cs))
        exact ⟨r ++ r2, by rw [hr2, hr]; simp⟩
      · exact closeRefs_pre L n (i + 1) l
    · exact ⟨[], by simp⟩
theorem closeRefs_nodup (L : Heap K) : ∀ (n i : Nat) (l : List Nat), l.Nodup → (closeRefs L n i l).Nodup
  | 0, _, l, h => h
  | n + 1, i, l, h => by
    simp only [closeRefs]
    split
    · split
      · exact closeRefs_nodup L n _ _ (addNew_nodup _ _ h)
      · exact closeRefs_nodup L n _ _ h
    · exact h

theorem idxIn_get : ∀ (l : List Nat) (i o j : Nat), idxIn l i o = some j → i ≤ j ∧ l[j - i]? = some o
  | [], i, o, j, h => by simp [idxIn] at h
  | p :: r, i, o, j, h => by
    simp only [idxIn] at h
    split at h
    · rename_i hp
      cases h
      simp at hp; subst hp
      exact ⟨Nat.le_refl _, by simp⟩
    · obtain ⟨h1, h2⟩ := idxIn_get r (i + 1) o j h
      refine ⟨by omega, ?_⟩
      rw [show j - i = (j - (i + 1)) + 1 by omega]
      simpa using h2

theorem pickL_get (L : Heap K) : ∀ (l : List Nat) (i : Nat) (x : AObj K), (pickL L l)[i]? = some x → ∃ o, l[i]? = some o ∧ (L[o]? = some x ∨ x = .gone)
  | [], i, x, h => by simp [pickL] at h
  | o :: r, 0, x, h => by
    simp only [pickL, List.getElem?_cons_zero, Option.some.injEq] at h
    refine ⟨o, rfl, ?_⟩
    split at h
    · rename_i y hy; subst h; exact .inl hy
    · exact .inr h.symm
  | o :: r, i + 1, x, h => by
    simp only [pickL, List.getElem?_cons_succ] at h
    simpa using pickL_get L r i x h
theorem pickL_length (L : Heap K) : ∀ (l : List Nat), (pickL L l).length = l.length
  | [] => rfl
  | _ :: r => congrArg (· + 1) (pickL_length L r)

theorem nodup_inj {l : List Nat} (h : l.Nodup) {i j : Nat} (hi : i < l.length) (hj : j < l.length) (e : l[i] = l[j]) : i = j := by
  have := List.pairwise_iff_getElem.1 h
  rcases Nat.lt_trichotomy i j with q | q | q
  · exact absurd e (this i j hi hj q)
  · exact q
  · exact absurd e.symm (this j i hj hi q)

def etaOf (l : List Nat) (η : Eta) : Eta := fun i => (l[i]?).bind η

theorem ren_get {L : Heap K} {l : List Nat} {ρ : Nat → Option Nat} {i : Nat} {x : AObj K} (h : (renL ρ (pickL L l))[i]? = some x) (hl : x.live = true) : ∃ o y, l[i]? = some o ∧ L[o]? = some y ∧ x = renO ρ y := by
  rw [renL_get] at h
  obtain ⟨y, h1, h2⟩ := Option.map_eq_some_iff.1 h
  obtain ⟨o, h3, h4⟩ := pickL_get L l i y h1
  rcases h4 with h4 | h4
  · exact ⟨o, y, h3, h4, h2.symm⟩
  · subst h4; rw [← h2] at hl; cases hl

theorem renO_box {ρ : Nat → Option Nat} {y : AObj K} {cs : List PV} (h : .box cs = renO ρ y) : ∃ cs0, y = .box cs0 ∧ cs = PV.ren.go ρ cs0 := by
  cases y <;> simp [renO] at h
  exact ⟨_, rfl, h⟩
theorem renO_row {ρ : Nat → Option Nat} {y : AObj K} {e : TypeId} {xs : List (K e).α} (h : .row e xs = renO ρ y) : y = .row e xs := by
  cases y with
  | box cs => cases h
  | gone => cases h
  | row e' xs' => exact h.symm

section
variable {G : Sig} {l : List Nat}
theorem pick_mut {ρ : Nat → Option Nat} {b : Nat} (h : Mut (renL ρ (pickL L l)) (etaOf l η) b) : Mut L η b := by
  obtain ⟨i, x, h1, h2, h3⟩ := h
  obtain ⟨o, y, h4, h5, rfl⟩ := ren_get h1 h2
  refine ⟨o, y, h5, by rw [← renO_live]; exact h2, ?_⟩
  simpa [etaOf, h4] using h3

theorem pick_moves : Moves G L η w (renL (idxIn l 0) (pickL L l)) (etaOf l η) w (idxIn l 0) where
  froz := fun b o hM hb => ⟨fun q => hM (q.imp pick_mut id), hb⟩
  len := by
    intro o o' _ h
    obtain ⟨_, h⟩ := idxIn_get l 0 o o' h
    simp [renL_length, pickL_length]
    exact (List.getElem?_eq_some_iff.1 h).1
  box := by
    intro o o' cs' _ h hL
    obtain ⟨_, h⟩ := idxIn_get l 0 o o' h
    obtain ⟨o2, y, h1, h2, h3⟩ := ren_get hL rfl
    rw [Nat.sub_zero] at h
    rw [h] at h1; cases h1
    obtain ⟨cs0, rfl, _⟩ := renO_box h3
    exact ⟨cs0, h2, by simp [etaOf, h]⟩
  row := by
    intro o o' e xs' _ h hL
    obtain ⟨_, h⟩ := idxIn_get l 0 o o' h
    obtain ⟨o2, y, h1, h2, h3⟩ := ren_get hL rfl
    rw [Nat.sub_zero] at h
    rw [h] at h1; cases h1
    obtain rfl := renO_row h3
    exact ⟨xs', h2, rfl, by simp [etaOf, h], fun b cells t fr _ hb => ⟨cells, t, fr, hb, rfl⟩⟩

theorem pick_heap (hn : l.Nodup) (hh : HeapRel G L η w) : HeapRel G (renL (idxIn l 0) (pickL L l)) (etaOf l η) w where
  obj := by
    intro i x h
    cases hl : x.live with
    | false => cases x <;> first | exact trivial | cases hl
    | true =>
      obtain ⟨o, y, h1, h2, rfl⟩ := ren_get h hl
      exact (hh.obj o y h2).mono pick_moves (by simp [etaOf, h1]) (fun _ _ => rfl)
  inj := by
    intro i i' x x' b h1 h2 h3 h4 h5 h6
    obtain ⟨o, y, g1, g2, rfl⟩ := ren_get h1 h3
    obtain ⟨o', y', g1', g2', rfl⟩ := ren_get h2 h4
    have := hh.inj o o' y y' b g2 g2' (by rw [← renO_live]; exact h3) (by rw [← renO_live]; exact h4) (by simpa [etaOf, g1] using h5) (by simpa [etaOf, g1'] using h6)
    subst this
    have hi := (List.getElem?_eq_some_iff.1 g1)
    have hi' := (List.getElem?_eq_some_iff.1 g1')
    obtain ⟨p1, p2⟩ := hi
    obtain ⟨p1', p2'⟩ := hi'
    exact nodup_inj hn p1 p1' (p2.trans p2'.symm)
  ext := fun b hb => ⟨(hh.ext b hb).1, fun q => (hh.ext b hb).2 (pick_mut q)⟩
  none := by
    intro i hi
    simp [renL_length, pickL_length] at hi
    simp [etaOf, List.getElem?_eq_none hi]

theorem range_get {m i : Nat} {r : List Nat} (h : i < m) : (List.range m ++ r)[i]? = some i := by
  rw [List.getElem?_append_left (by simpa using h)]
  simp [h]

theorem pick_fwd {L0 : Heap K} {η0 : Eta} {w0 : World} {r : List Nat} (hl : l = List.range L0.length ++ r) (h : FwdR L0 η0 w0 L η w) : FwdR L0 η0 w0 (renL (idxIn l 0) (pickL L l)) (etaOf l η) w where
  os := h.os
  tape := h.tape
  output := h.output
  size := h.size
  keep := h.keep
  muts := fun b q => h.muts b (pick_mut q)
  len := by simp [renL_length, pickL_length, hl]
  box := by
    intro o cs' ho hL
    obtain ⟨o2, y, h1, h2, h3⟩ := ren_get hL rfl
    have hlo : l[o]? = some o := by rw [hl]; exact range_get ho
    rw [hlo] at h1; cases h1
    obtain ⟨cs0, rfl, _⟩ := renO_box h3
    obtain ⟨cs, q1, q2⟩ := h.box o cs0 ho h2
    exact ⟨cs, q1, by simp [etaOf, hlo, q2]⟩
  kind := by
    intro o e xs' ho hL
    obtain ⟨o2, y, h1, h2, h3⟩ := ren_get hL rfl
    have hlo : l[o]? = some o := by rw [hl]; exact range_get ho
    rw [hlo] at h1; cases h1
    obtain rfl := renO_row h3
    exact h.kind o e xs' ho h2
  row := by
    intro o e xs' ho hb hL
    obtain ⟨o2, y, h1, h2, h3⟩ := ren_get hL rfl
    have hlo : l[o]? = some o := by rw [hl]; exact range_get ho
    rw [hlo] at h1; cases h1
    obtain rfl := renO_row h3
    obtain ⟨xs, q1, q2, q3, q4⟩ := h.row o e xs' ho hb h2
    exact ⟨xs, q1, q2, by simp [etaOf, hlo, q3], q4⟩
  trk := by
    intro o b ho hb
    have hlo : l[o]? = some o := by rw [hl]; exact range_get ho
    exact h.trk o b ho (by simpa [etaOf, hlo] using hb)
end

theorem rootsOf_spec (L : Heap K) (m : Nat) (ys : List PV) : (closeRefs L 64 0 (addNew (List.range m) (refs.go ys))).Nodup ∧ ∃ r, closeRefs L 64 0 (addNew (List.range m) (refs.go ys)) = List.range m ++ r := by
  refine ⟨closeRefs_nodup L _ _ _ (addNew_nodup _ _ List.nodup_range), ?_⟩
  obtain ⟨r, hr⟩ := addNew_pre (refs.go ys) (List.range m)
  obtain ⟨r2, hr2⟩ := closeRefs_pre L 64 0 (addNew (List.range m) (refs.go ys))
  exact ⟨r ++ r2, by rw [hr2, hr]; simp⟩

theorem RepVs.mono {G : Sig} {L' : Heap K} {η' : Eta} {w' : World} {ρ : Nat → Option Nat} (h : Moves G L η w L' η' w' ρ) : ∀ {xs : List PV} {vs : List Value}, RepVs G L η w xs vs → RepVs G L' η' w' (renE ρ xs) vs
  | [], _, hx => hx
  | x :: xs, vs, hx => by
    obtain ⟨v, r, rfl, h1, h2⟩ := hx
    exact ⟨v, r, rfl, RepV.mono h h1, RepVs.mono h h2⟩

theorem canon_env {L0 : Heap K} {η0 : Eta} {w0 : World} {T : List PV → Heap K → Prop} (hr : RelT C (sig C X) N env L η w a) (hf : FwdR L0 η0 w0 L η w) (h : canon L0.length env L T) :
    ∃ env' L' η', T env' L' ∧ RelT C (sig C X) N env' L' η' w a ∧ FwdR L0 η0 w0 L' η' w := by
  unfold canon at h
  obtain ⟨hn, r, hr'⟩ := rootsOf_spec L L0.length env
  generalize closeRefs L 64 0 (addNew (List.range L0.length) (refs.go env)) = l at hn hr' h
  have hm : Moves (sig C X) L η w (renL (idxIn l 0) (pickL L l)) (etaOf l η) w (idxIn l 0) := pick_moves
  refine ⟨_, _, etaOf l η, h, ⟨pick_heap hn hr.heap, by rw [renE, PV.ren_go_length]; exact hr.elen, hr.size, hr.defers, ?_, ?_⟩, pick_fwd hr' hf⟩
  · intro t x hx
    rw [renE, PV.ren_go_get] at hx
    obtain ⟨y, hy, rfl⟩ := Option.map_eq_some_iff.1 hx
    exact RepV.mono hm (hr.tmp t y hy)
  · exact fun g x hg => RepF.mono hm.froz _ _ (hr.glob g x hg)

theorem canon_res {G : Sig} {L0 : Heap K} {η0 : Eta} {w0 : World} {T : List PV → Heap K → Prop} {ys : List PV} {vs : List Value} (hh : HeapRel G L η w) (hv : RepVs G L η w ys vs) (hf : FwdR L0 η0 w0 L η w) (h : canon L0.length ys L T) :
    ∃ ys' L' η', T ys' L' ∧ RepVs G L' η' w ys' vs ∧ HeapRel G L' η' w ∧ FwdR L0 η0 w0 L' η' w := by
  unfold canon at h
  obtain ⟨hn, r, hr'⟩ := rootsOf_spec L L0.length ys
  generalize closeRefs L 64 0 (addNew (List.range L0.length) (refs.go ys)) = l at hn hr' h
  exact ⟨_, _, etaOf l η, h, hv.mono pick_moves, pick_heap hn hh, pick_fwd hr' hf⟩

theorem mask_get (live : List Nat) : ∀ (xs : List PV) (i t : Nat) (x : PV), (mask live i xs)[t]? = some x → x = .junk ∨ xs[t]? = some x
  | [], i, t, x, h => by simp [mask] at h
  | y :: xs, i, 0, x, h => by
    simp only [mask, List.getElem?_cons_zero, Option.some.injEq] at h
    split at h
    · exact .inr (by simp [h])
    · exact .inl h.symm
  | y :: xs, i, t + 1, x, h => by
    simp only [mask, List.getElem?_cons_succ] at h
    simpa using mask_get live xs (i + 1) t x h
theorem mask_length (live : List Nat) : ∀ (xs : List PV) (i : Nat), (mask live i xs).length = xs.length
  | [], _ => rfl
  | _ :: xs, i => congrArg (· + 1) (mask_length live xs (i + 1))
theorem mask_rel (hr : RelT C (sig C X) N env L η w a) (live : List Nat) : RelT C (sig C X) N (mask live 0 env) L η w a :=
  ⟨hr.heap, by rw [mask_length]; exact hr.elen, hr.size, hr.defers, fun t x hx => by
    rcases mask_get live env 0 t x hx with rfl | h
    · exact .inl rfl
    · exact hr.tmp t x h, hr.glob⟩

/-! ### code -/
/-- What is left to be done, as what is left to be shown. -/
def postT (P : Program) (Q : Exit → Act → World → Prop) : List AItem → Exit → Act → World → Prop
  | [] => Q
  | .code c :: r => Exit.then (fun a w => c.wp P (postT P Q r) a w) (postT P Q r)
  | .endB i :: r => Exit.inBlock i (postT P Q r)

theorem postT_panic {P : Program} {Q : Exit → Act → World → Prop} (hQ : ∀ c a w, ¬ Q (.panic c) a w) : ∀ (r : List AItem) (c : List PanicEntry) (a : Act) (w : World), ¬ postT P Q r (.panic c) a w
  | [], c, a, w => hQ c a w
  | .code _ :: r, c, a, w => postT_panic hQ r c a w
  | .endB _ :: r, c, a, w => postT_panic hQ r c a w

theorem postT_ret {P : Program} {Q : Exit → Act → World → Prop} : ∀ (r : List AItem) (a : Act) (w : World), Q .ret a w → postT P Q r .ret a w
  | [], _, _, h => h
  | .code _ :: r, a, w, h => postT_ret r a w h
  | .endB _ :: r, a, w, h => postT_ret r a w h

theorem postT_exit {P : Program} {Q : Exit → Act → World → Prop} {id : Nat} : ∀ (r r' : List AItem) (a : Act) (w : World), afterExit id r = some r' → postT P Q r' .normal a w → postT P Q r (.exit id) a w
  | [], r', a, w, h, _ => by simp [afterExit] at h
  | .code _ :: r, r', a, w, h, hp => postT_exit r r' a w h hp
  | .endB i :: r, r', a, w, h, hp => by
    simp only [afterExit] at h
    show Exit.inBlock i (postT P Q r) (.exit id) a w
    simp only [Exit.inBlock]
    split at h
    · rename_i hi; cases h
      rw [if_pos hi.symm]; exact hp
    · rename_i hi
      rw [if_neg (fun e => hi e.symm)]
      exact postT_exit r r' a w h hp

theorem lone_inj {fr fr' : Frame} {cs cs' : List Frame} {w w' : World} (h : lone fr cs w = lone fr' cs' w') : fr = fr' := by
  simp only [lone, Machine.mk.injEq] at h
  have := h.2.1
  simp at this
  exact this.1

theorem steps_inLoop {P : Program} {b : Frame} {a : Act} {k : List Item} {cs : List Frame} {w : World} {c : Code} {m' : Machine} (h : Steps P (lone (b.at a (.code (.loop c) :: k)) cs w) m')
    (hne : m' ≠ lone (b.at a (.code (.loop c) :: k)) cs w) : Steps P (lone (b.at a (.inLoop c :: k)) cs w) m' := by
  obtain ⟨n, hn⟩ := h
  cases n with
  | zero =>
    simp only [runN] at hn
    cases hn
    exact absurd rfl hne
  | succ n =>
    simp only [runN, step_loop] at hn
    exact .head step_inLoop ⟨n, hn⟩

theorem exitTo_le {id : Nat} : ∀ (k k' : List Item), exitTo id k = some k' → k'.length ≤ k.length
  | [], k', h => by simp [exitTo] at h
  | x :: k, k', h => by
    cases x <;> simp only [exitTo] at h
    all_goals first
      | (split at h
         · cases h; simp
         · have := exitTo_le k k' h; simp; omega)
      | (have := exitTo_le k k' h; simp; omega)

theorem wp_loop_once {P : Program} {c : Code} {Q : Exit → Act → World → Prop} (hg : ∀ l a w, ¬ Q (.goto l) a w) (ho : ∀ a w, ¬ Q .outgrown a w)
    (h : c.wp P (Exit.then (fun a w => (Code.loop c).wp P Q a w) Q) a w) : (Code.loop c).wp P Q a w := by
  intro b k cs
  obtain ⟨e, a₁, w₁, hq, harr⟩ := h b (.inLoop c :: k) cs
  cases e with
  | normal =>
    obtain ⟨e₂, a₂, w₂, hq₂, harr₂⟩ := hq b k cs
    refine ⟨e₂, a₂, w₂, hq₂, .of_steps (.head step_loop harr) ?_⟩
    cases e₂ with
    | normal =>
      refine steps_inLoop harr₂ fun e => ?_
      have := congrArg Frame.todo (lone_inj e)
      have := congrArg List.length this
      simp [Frame.at] at this
    | exit id =>
      intro k' hk
      refine steps_inLoop (harr₂ k' hk) fun e => ?_
      have := congrArg Frame.todo (lone_inj e)
      have := congrArg List.length this
      have := exitTo_le _ _ hk
      simp_all [Frame.at]
      omega
    | goto l => exact (hg _ _ _ hq₂).elim
    | ret =>
      obtain ⟨todo, hs⟩ := harr₂
      refine ⟨todo, steps_inLoop hs fun e => ?_⟩
      have := congrArg Frame.mode (lone_inj e)
      simp [Frame.at] at this
    | panic ch =>
      obtain ⟨todo, hs⟩ := harr₂
      refine ⟨todo, steps_inLoop hs fun e => ?_⟩
      have := congrArg Frame.mode (lone_inj e)
      simp [Frame.at] at this
    | outgrown => exact (ho _ _ hq₂).elim
  | exit id => exact ⟨_, a₁, w₁, hq, .of_steps (.one step_loop) (.pass (x := .inLoop c) rfl (fun _ _ => .inl (by simp)) harr)⟩
  | goto l => exact ⟨_, a₁, w₁, hq, .of_steps (.one step_loop) (.pass (x := .inLoop c) rfl (fun _ _ => .inl (by simp)) harr)⟩
  | ret => exact ⟨_, a₁, w₁, hq, .of_steps (.one step_loop) (.pass (x := .inLoop c) rfl (fun _ _ => .inl (by simp)) harr)⟩
  | panic ch => exact ⟨_, a₁, w₁, hq, .of_steps (.one step_loop) (.pass (x := .inLoop c) rfl (fun _ _ => .inl (by simp)) harr)⟩
  | outgrown => exact ⟨_, a₁, w₁, hq, .of_steps (.one step_loop) (.pass (x := .inLoop c) rfl (fun _ _ => .inl (by simp)) harr)⟩
end Go.Ab
