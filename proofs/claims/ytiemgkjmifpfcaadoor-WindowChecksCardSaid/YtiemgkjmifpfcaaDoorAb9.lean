import Derived.Test.YtiemgkjmifpfcaaDoorAb8
set_option linter.unusedVariables false
set_option linter.unusedSimpArgs false
namespace Go.Ab
open Go
variable {K : Codes} {C : Cfg K} {X : Nat → Prop} {N : Nat} {env : List PV} {L : Heap K} {η : Eta} {w : World} {a : Act}

/-- M names only blocks of L's that the objects o don't lie in. -/
def Off (G : Sig) (L : Heap K) (η : Eta) (ids : List Nat) (M : Nat → Prop) : Prop := ∀ b, M b → Mx G L η b ∧ ∀ o x, o ∈ ids → L[o]? = some x → x.live = true → η o ≠ some b

theorem Off.left {G : Sig} {ids ids' : List Nat} {M : Nat → Prop} (h : Off G L η (ids ++ ids') M) : Off G L η ids M := fun b hb => ⟨(h b hb).1, fun o x ho => (h b hb).2 o x (List.mem_append_left _ ho)⟩
theorem Off.right {G : Sig} {ids ids' : List Nat} {M : Nat → Prop} (h : Off G L η (ids ++ ids') M) : Off G L η ids' M := fun b hb => ⟨(h b hb).1, fun o x ho => (h b hb).2 o x (List.mem_append_right _ ho)⟩
theorem Off.tail {G : Sig} {o : Nat} {ids : List Nat} {M : Nat → Prop} (h : Off G L η (o :: ids) M) : Off G L η ids M := fun b hb => ⟨(h b hb).1, fun p x hp => (h b hb).2 p x (List.mem_cons_of_mem _ hp)⟩

theorem Off.mono {G : Sig} {ids : List Nat} {M : Nat → Prop} (h : Off G L η ids M) : ∀ b o, ¬ Mx G L η b → w.heap[b]? = some o → ¬ M b ∧ w.heap[b]? = some o :=
  fun b _ hm hb => ⟨fun q => hm (h b q).1, hb⟩

theorem solid_agg : ∀ (n : Nat) (x y : PV), solid C L n x = some y → y.isAgg = x.isAgg := by
  intro n
  cases n with
  | zero => intro x y h; simp [solid] at h
  | succ n =>
    intro x y h
    cases x with
    | iface t x =>
      unfold solid at h
      dsimp only at h
      repeat' split at h
      all_goals first
        | (cases h; rfl)
        | (obtain ⟨z, _, rfl⟩ := Option.map_eq_some_iff.1 h; rfl)
        | cases h
    | _ =>
      simp only [solid] at h
      repeat' split at h
      all_goals first
        | (cases h; rfl)
        | (obtain ⟨z, _, rfl⟩ := Option.map_eq_some_iff.1 h; rfl)
        | cases h

theorem solid_ok (hh : HeapRel (sig C X) L η w) {M : Nat → Prop} : ∀ (n : Nat),
    (∀ (x : PV) (l : List Value) (y : PV), solid C L n x = some y → Rep (sig C X) L η w x l → Off (sig C X) L η (reach L n x) M → RepF C.I M w y l) ∧
    (∀ (xs : List PV) (l : List Value) (ys : List PV), solid.goS C L n xs = some ys → Rep.go (sig C X) L η w xs l → Off (sig C X) L η (reach.goR L n xs) M → RepF.go C.I M w ys l) := by
  intro n
  induction n with
  | zero =>
    refine ⟨fun x l y h _ _ => by simp [solid] at h, ?_⟩
    intro xs
    cases xs with
    | nil => intro l ys h hr _; simp [solid.goS, goO] at h; subst h; exact hr
    | cons x xs => intro l ys h; simp [solid.goS, goO, solid] at h
  | succ n ih =>
    have single : ∀ (x : PV) (l : List Value) (y : PV), solid C L (n + 1) x = some y → Rep (sig C X) L η w x l → Off (sig C X) L η (reach L (n + 1) x) M → RepF C.I M w y l := by
      intro x l y h hr ho
      have blk : ∀ o b z, o ∈ reach L (n + 1) x → L[o]? = some z → z.live = true → η o = some b → ¬ M b := fun o b z h1 h4 h5 h2 h3 => (ho b h3).2 o z h1 h4 h5 h2
      cases x with
      | junk => simp [solid] at h
      | tup _ => simp [solid] at h
      | oel _ _ _ => simp [solid] at h
      | bool _ => simp [solid] at h; subst h; exact hr
      | int _ _ => simp [solid] at h; subst h; exact hr
      | str _ => simp [solid] at h; subst h; exact hr
      | raw _ => simp [solid] at h; subst h; exact hr
      | sl _ _ _ => simp [solid] at h; subst h; exact RepF.mono ho.mono _ _ hr
      | el _ _ => simp [solid] at h; subst h; exact RepF.mono ho.mono _ _ hr
      | err _ => simp [solid] at h; subst h; exact RepF.mono ho.mono _ _ hr
      | own o =>
        simp only [solid] at h
        split at h
        · rename_i e xs hL
          cases h
          obtain ⟨_, _, hr⟩ := hr
          obtain ⟨A, cap, rfl, hcap, hq⟩ := hr e xs hL
          refine ⟨A, cap, rfl, hcap, ?_⟩
          rcases hh.obj o _ hL with ⟨q, _⟩ | ⟨b, cells, g1, g2, g3, g4, g5⟩
          · exact .inl q
          · rcases hq with hq | ⟨b', cells', t', fr', e1, e2, e3, e4⟩
            · left; cases xs with
              | nil => rfl
              | cons _ _ => simp at hcap; omega
            · right
              rw [g1] at e1; cases e1
              refine ⟨b, 0, C.P.cellsOf e, cells, e, (0, 0), e2, g3, blk o b _ (by simp [reach]) hL rfl g1, g2, ?_⟩
              intro i x hi
              obtain ⟨cs, c1, c2, c3⟩ := g5 i x hi
              exact ⟨cs, c1, RepF.mono ho.mono _ _ c2, fun j v hj => by rw [Nat.zero_add]; exact c3 j v hj⟩
        · cases h
      | ptr o off =>
        simp only [solid] at h
        split at h
        · rename_i cs hL
          obtain ⟨cs', h1, rfl⟩ := Option.map_eq_some_iff.1 h
          obtain ⟨_, _, hr⟩ := hr
          obtain ⟨b, e1, rfl⟩ := hr cs hL
          obtain ⟨b', t', cells, g1, g2, g3⟩ := hh.obj o _ hL
          rw [e1] at g1; cases g1
          have hre : reach L (n + 1) (.ptr o off) = o :: reach.goR L n cs := by simp [reach, hL]
          rw [hre] at ho blk
          refine ⟨b, 0, ⟨cells⟩, t', (0, 0), cells, by simp, blk o b _ List.mem_cons_self hL rfl e1, g2, (ih.2 cs cells cs' h1 g3 ho.tail), fun j v hj => by simpa using hj⟩
        · cases h
      | agg cs =>
        simp only [solid] at h
        obtain ⟨cs', h1, rfl⟩ := Option.map_eq_some_iff.1 h
        simp only [reach] at ho
        exact ih.2 cs l cs' h1 hr ho
      | fn f p q =>
        simp only [solid] at h
        split at h
        · rename_i p' q' h1 h2
          cases h
          obtain ⟨fs, cs, rfl, r1, r2⟩ := hr
          simp only [reach] at ho
          exact ⟨fs, cs, rfl, ih.2 p fs p' h1 r1 ho.left, ih.2 q cs q' h2 r2 ho.right⟩
        · cases h
      | iface t x =>
        obtain ⟨v, rfl, ha, hr⟩ := hr
        have gen : ∀ z, solid C L n x = some z → reach L (n + 1) (.iface t x) = reach L n x → RepF C.I M w (.iface t z) [.iface t v] := by
          intro z hz hre
          rw [hre] at ho
          exact ⟨v, rfl, by rw [solid_agg _ _ _ hz]; exact ha, ih.1 x _ z hz hr ho⟩
        have special : ∀ o, x = .ptr o 0 → RepF C.I M w y [.iface t v] := by
          rintro o rfl
          simp only [solid] at h
          split at h
          · rename_i cs hL
            split at h
            · rename_i cs' h1
              have hre : reach L (n + 1) (.iface t (.ptr o 0)) = o :: reach.goR L n cs := by simp [reach, hL]
              rw [hre] at ho blk
              obtain ⟨_, _, hr⟩ := hr
              obtain ⟨b, e1, e2⟩ := hr cs hL
              obtain ⟨b', t', cells, g1, g2, g3⟩ := hh.obj o _ hL
              rw [e1] at g1; cases g1
              have hv : v = .pointer (some ⟨b, 0, none⟩) := by
                have hva : isAggV v = false := ha
                rw [cells_one hva] at e2
                simpa using e2
              have hM := blk o b _ List.mem_cons_self hL rfl e1
              have hF := ih.2 cs cells cs' h1 g3 ho.tail
              have key : ∀ (m : Int) (e : Err), cs' = [.int .i64 m, .err e] → ∃ ve, cells = [.int .i64 m, ve] ∧ RepErr C.I M w e ve := by
                rintro m e rfl
                obtain ⟨v1, r1, q1, _, q2, q3⟩ := hF
                obtain ⟨v2, r2, q4, _, q5, q6⟩ := q3
                simp only [RepF.go] at q6
                simp only [RepF] at q2
                obtain ⟨v3, q7, q8⟩ := q5
                simp at q2 q7
                subst q6 q4 q2 q7
                exact ⟨_, q1, q8⟩
              split at h
              · rename_i m e hs
                cases h
                obtain ⟨ve, k1, k2⟩ := key m e rfl
                have ht : t = C.I.sec := by
                  by_cases q : t = C.I.sec
                  · exact q
                  · rw [if_neg q] at hs; split at hs <;> cases hs
                subst ht
                exact ⟨_, rfl, b, ve, t', (0, 0), by rw [hv], hM, by rw [g2, k1], k2⟩
              · rename_i m e hs
                cases h
                obtain ⟨ve, k1, k2⟩ := key m e rfl
                have ht : t = C.I.plc := by
                  by_cases q : t = C.I.sec
                  · rw [if_pos q] at hs; cases hs
                  · rw [if_neg q] at hs
                    by_cases q2 : t = C.I.plc
                    · exact q2
                    · rw [if_neg q2] at hs; cases hs
                subst ht
                exact ⟨_, rfl, b, ve, t', (0, 0), by rw [hv], hM, by rw [g2, k1], k2⟩
              · cases h
                refine ⟨v, rfl, ha, ?_⟩
                rw [hv]
                exact ⟨b, 0, ⟨cells⟩, t', (0, 0), cells, by simp [Value.cells], hM, g2, hF, fun j v hj => by simpa using hj⟩
            · cases h
          · cases h
        cases x with
        | ptr o off =>
          cases off with
          | zero => exact special o rfl
          | succ off =>
            simp only [solid] at h
            obtain ⟨z, hz, rfl⟩ := Option.map_eq_some_iff.1 h
            exact gen z hz (by simp [reach])
        | _ =>
          simp only [solid] at h
          obtain ⟨z, hz, rfl⟩ := Option.map_eq_some_iff.1 h
          exact gen z hz (by simp [reach])
    refine ⟨single, ?_⟩
    intro xs
    induction xs with
    | nil => intro l ys h hr _; simp [solid.goS, goO] at h; subst h; exact hr
    | cons x xs ihx =>
      intro l ys h hr ho
      simp only [solid.goS, goO] at h
      split at h
      · rename_i y ys' h1 h2
        cases h
        obtain ⟨v, r, rfl, ha, hx, hr⟩ := hr
        simp only [reach.goR, goA] at ho
        have hy := single x [v] y h1 hx ho.left
        exact ⟨v, r, rfl, ⟨by rw [solid_agg _ _ _ h1]; exact ha.1, ha.2⟩, hy, ihx r ys' h2 hr ho.right⟩
      · cases h

/-! ### lending -/
theorem reach_leaf {L : Heap K} (n : Nat) {x : PV} (h : ∀ n, reach L (n + 1) x = []) : reach L n x = [] := by
  cases n with
  | zero => simp [reach]
  | succ n => exact h n
theorem goR_set {L : Heap K} (n : Nat) {y : PV} (hy : reach L n y = []) : ∀ (cs : List PV) (j : Nat) (x : PV), cs[j]? = some x → reach L n x = [] → reach.goR L n (cs.set j y) = reach.goR L n cs
  | [], j, x, h, _ => by simp at h
  | c :: cs, 0, x, h, hx => by simp at h; subst h; simp [reach.goR, goA, hx, hy]
  | c :: cs, j + 1, x, h, hx => by
    simp only [List.set_cons_succ, reach.goR, goA]
    exact congrArg (reach L n c ++ ·) (goR_set n hy cs j x (by simpa using h) hx)

theorem nilCells_ok {G : Sig} {L : Heap K} {η : Eta} {w : World} (n : Nat) : ∀ (nils : List (Nat × TypeId)) (cs : List PV) (cells : List Value), Rep.go G L η w cs cells →
    Rep.go G L η w (nilCells (K := K) nils cs) cells ∧ reach.goR L n (nilCells (K := K) nils cs) = reach.goR L n cs
  | [], cs, cells, h => ⟨h, rfl⟩
  | (j, e) :: r, cs, cells, h => by
    simp only [nilCells]
    split
    · rename_i v hv
      split
      · rename_i hn
        obtain rfl := isNil_eq hn
        obtain ⟨u, g1, g2, g3, g4⟩ := Rep.go_get h j _ hv
        obtain ⟨g4, _⟩ := g4
        simp at g4; subst g4
        have h1 := Rep.go_set h j (.sl (K e).α (K e).enc []) (.slice none 0 0) rfl rfl ⟨none, 0, rfl, Nat.le_refl _, .inl rfl⟩
        have hs : cells.set j (.slice none 0 0) = cells := by
          apply List.ext_getElem?
          intro i
          rw [List.getElem?_set]
          split
          · rename_i hij; subst hij
            split
            · exact g1.symm
            · rename_i hlt; rw [List.getElem?_eq_none (by omega)] at g1; cases g1
          · rfl
        rw [hs] at h1
        obtain ⟨q1, q2⟩ := nilCells_ok n r _ cells h1
        refine ⟨q1, q2.trans (goR_set n (reach_leaf n fun _ => by simp [reach]) cs j _ hv (reach_leaf n fun _ => by simp [reach]))⟩
      · exact nilCells_ok n r cs cells h
    · exact nilCells_ok n r cs cells h

theorem lend_ok (hh : HeapRel (sig C X) L η w) {M : Nat → Prop} {t : TypeId} {x y : PV} {v : Value} (h : lend C L t x = some y) (hx : RepV (sig C X) L η w x v) (ho : Off (sig C X) L η (reach L depth x) M) :
    RepF C.I M w y v.cells.toList ∧ isAggV v = y.isAgg := by
  have plain : ∀ x : PV, solid C L depth x = some y → RepV (sig C X) L η w x v → Off (sig C X) L η (reach L depth x) M → RepF C.I M w y v.cells.toList ∧ isAggV v = y.isAgg := by
    intro x h hx ho
    rcases hx with rfl | ⟨h1, h2⟩
    · simp [solid, depth] at h
    · exact ⟨(solid_ok hh depth).1 x _ y h h2 ho, by rw [solid_agg _ _ _ h]; exact h1⟩
  simp only [lend] at h
  split at h
  · rename_i i cs hi
    obtain ⟨vs, rfl, hr⟩ := repV_agg hx
    obtain ⟨q1, q2⟩ := nilCells_ok (depth - 1) i.nils cs vs hr
    refine plain _ h (.inr ⟨rfl, q1⟩) ?_
    have : reach L depth (.agg (nilCells (K := K) i.nils cs)) = reach L depth (.agg cs) := by
      simp only [depth, reach] at q2 ⊢
      exact q2
    rw [this]; exact ho
  · rename_i e u _ _
    split at h
    · rename_i hn
      obtain rfl := isNil_eq hn
      obtain ⟨h1, h2⟩ := repV_one hx (by simp) rfl
      obtain ⟨h2, _⟩ := h2
      simp at h2; subst h2
      cases h
      exact ⟨⟨none, 0, rfl, Nat.le_refl _, .inl rfl⟩, rfl⟩
    · exact plain _ (by cases h; simp [solid, depth]) hx ho
  · exact plain _ h hx ho

/-- Lists of arguments. -/
def RepVs (G : Sig) (L : Heap K) (η : Eta) (w : World) : List PV → List Value → Prop
  | [], vs => vs = []
  | x :: xs, vs => ∃ v r, vs = v :: r ∧ RepV G L η w x v ∧ RepVs G L η w xs r
def RepFs (I : Ids) (M : Nat → Prop) (w : World) : List PV → List Value → Prop
  | [], vs => vs = []
  | x :: xs, vs => ∃ v r, vs = v :: r ∧ (RepF I M w x v.cells.toList ∧ isAggV v = x.isAgg) ∧ RepFs I M w xs r

theorem lendAll_ok (hh : HeapRel (sig C X) L η w) {M : Nat → Prop} : ∀ (ts : List TypeId) (xs ys : List PV) (vs : List Value), lendAll C L ts xs = some ys → RepVs (sig C X) L η w xs vs →
    Off (sig C X) L η (xs.flatMap (reach L depth)) M → RepFs C.I M w ys vs
  | ts, [], ys, vs, h, hx, _ => by simp [lendAll] at h; subst h; exact hx
  | ts, x :: xs, ys, vs, h, hx, ho => by
    simp only [lendAll] at h
    split at h
    · rename_i y ys' h1 h2
      cases h
      obtain ⟨v, r, rfl, hv, hr⟩ := hx
      rw [List.flatMap_cons] at ho
      exact ⟨v, r, rfl, lend_ok hh h1 hv ho.left, lendAll_ok hh ts.tail xs ys' r h2 hr ho.right⟩
    · cases h

/-! ### what is held fast -/
theorem gone_get : ∀ (ids : List Nat) (L : Heap K) (o : Nat) (x : AObj K), (goneAll ids L)[o]? = some x → x = .gone ∨ (L[o]? = some x ∧ o ∉ ids)
  | [], L, o, x, h => .inr ⟨h, by simp⟩
  | p :: ids, L, o, x, h => by
    rcases gone_get ids (L.set p .gone) o x h with h | ⟨h, hn⟩
    · exact .inl h
    · rw [List.getElem?_set] at h
      split at h
      · rename_i hp
        split at h
        · cases h; exact .inl rfl
        · cases h
      · rename_i hp
        exact .inr ⟨h, by simp only [List.mem_cons, not_or]; exact ⟨fun q => hp q.symm, hn⟩⟩
theorem gone_length : ∀ (ids : List Nat) (L : Heap K), (goneAll ids L).length = L.length
  | [], L => rfl
  | p :: ids, L => by rw [goneAll, gone_length]; simp

theorem gone_fwd (ids : List Nat) : Fwd L η w (goneAll ids L) η w noBad where
  os := rfl
  tape := rfl
  output := rfl
  size := Nat.le_refl _
  keep := fun _ _ _ => rfl
  muts := by
    rintro b ⟨o, x, h1, h2, h3⟩
    rcases gone_get ids L o x h1 with rfl | ⟨h1, _⟩
    · cases h2
    · exact .inl ⟨o, x, h1, h2, h3⟩
  len := by rw [gone_length]; exact Nat.le_refl _
  box := by
    intro o cs' ho h
    rcases gone_get ids L o _ h with h | ⟨h, _⟩
    · cases h
    · exact ⟨cs', h, rfl⟩
  kind := by
    intro o e xs' ho h
    rcases gone_get ids L o _ h with h | ⟨h, _⟩
    · cases h
    · exact ⟨xs', h⟩
  row := by
    intro o e xs' ho _ h
    rcases gone_get ids L o _ h with h | ⟨h, _⟩
    · cases h
    · exact ⟨xs', h, rfl, rfl, fun b cells t fr _ hb => ⟨cells, t, fr, hb, rfl⟩⟩
  trk := fun _ _ _ h => .inl h

theorem gone_heap {G : Sig} (hh : HeapRel G L η w) (ids : List Nat) : HeapRel G (goneAll ids L) η w := by
  have hm := (gone_fwd (L := L) (η := η) (w := w) ids).moves (C := G) (fun b hb => (hh.ext b hb).1)
  refine ⟨?_, ?_, ?_, ?_⟩
  · intro o x h
    rcases gone_get ids L o x h with rfl | ⟨h, _⟩
    · exact trivial
    · have := (hh.obj o x h).mono hm (o' := o) rfl (fun _ _ => rfl)
      rw [butB_noBad, renO_some] at this
      exact this
  · intro o o' x x' b h1 h2 h3 h4 h5 h6
    rcases gone_get ids L o x h1 with rfl | ⟨h1, _⟩
    · cases h3
    rcases gone_get ids L o' x' h2 with rfl | ⟨h2, _⟩
    · cases h4
    exact hh.inj o o' x x' b h1 h2 h3 h4 h5 h6
  · intro b hb
    refine ⟨(hh.ext b hb).1, fun q => ?_⟩
    rcases (gone_fwd (L := L) (η := η) (w := w) ids).muts b q with q | q
    · exact (hh.ext b hb).2 q
    · exact absurd (hh.ext b hb).1 (by omega)
  · intro o ho
    exact hh.none o (by rw [gone_length] at ho; exact ho)

theorem gone_off {G : Sig} (hh : HeapRel G L η w) (ids : List Nat) : Off G L η ids (Mx G (goneAll ids L) η) := by
  intro b hb
  rcases hb with ⟨o, x, h1, h2, h3⟩ | hb
  · rcases gone_get ids L o x h1 with rfl | ⟨h1, hn⟩
    · cases h2
    · refine ⟨.inl ⟨o, x, h1, h2, h3⟩, ?_⟩
      intro o' x' ho' hx' hl' hη
      have := hh.inj o o' x x' b h1 hx' h2 hl' h3 hη
      subst this; exact hn ho'
  · refine ⟨.inr hb, ?_⟩
    intro o' x' ho' hx' hl' hη
    exact (hh.ext b hb).2 ⟨o', x', hx', hl', hη⟩
theorem off_none {G : Sig} (ids : List Nat) : Off G L η ids (fun _ => False) := fun _ h => h.elim
end Go.Ab
