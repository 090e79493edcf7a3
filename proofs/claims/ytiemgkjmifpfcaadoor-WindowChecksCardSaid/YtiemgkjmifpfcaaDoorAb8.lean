import Derived.Test.YtiemgkjmifpfcaaDoorAb7
set_option linter.unusedVariables false
set_option linter.unusedSimpArgs false
namespace Go.Ab
open Go
variable {K : Codes} {C : Cfg K} {X : Nat → Prop} {N : Nat} {env : List PV} {L : Heap K} {η : Eta} {w : World} {a : Act}

def isRow (L : Heap K) (o : Nat) : Bool := match L[o]? with | some (.row _ _) => true | _ => false

/-- What stood, but for some objects, is as it was. -/
def Kept (η : Eta) (w w' : World) (tl : List Nat) : Prop := ∀ b, b < w.heap.size → (∀ o, o ∈ tl → η o ≠ some b) → w'.heap[b]? = w.heap[b]?
theorem Kept.same {η : Eta} {w : World} {tl : List Nat} : Kept η w w tl := fun _ _ _ => rfl
theorem Kept.more {η : Eta} {w w' : World} {tl : List Nat} (h : More w w') : Kept η w w' tl := fun b hb _ => h.keep b hb
theorem Kept.alloc {η : Eta} {w : World} {tl : List Nat} {o : Obj} : Kept η w (w.alloc o) tl := .more (.alloc w o)

/-- Behind an operation. -/
def Res (C : Cfg K) (X : Nat → Prop) (N : Nat) (L : Heap K) (η : Eta) (w : World) (a : Act) (tl : List Nat) (k : K1 K) (v : Value) (w' : World) : Prop :=
  ∃ x env' L' η', k x env' L' ∧ RepV (sig C X) L' η' w' x v ∧ RelT C (sig C X) N env' L' η' w' a ∧ (∃ bad, Fwd L η w L' η' w' bad ∧ ∀ o, bad o = true → isRow L o = true) ∧ Kept η w w' tl

theorem res_same (hr : RelT C (sig C X) N env L η w a) {k : K1 K} {tl : List Nat} {s : Sem Value} (h : Gives (sig C X) L η w C.P s fun y => k y env L) : ∃ v w', s.run C.P w = .ok v w' ∧ Res C X N L η w a tl k v w' := by
  obtain ⟨v, x, h1, h2, h3⟩ := h
  exact ⟨v, w, h1 w, x, env, L, η, h2, h3, hr, ⟨noBad, Fwd.refl _ _ _ _, fun o h => by cases h⟩, .same⟩

theorem res_mk {L' : Heap K} {η' : Eta} {w' : World} {v : Value} {x : PV} {tl : List Nat} (hr : RelT C (sig C X) N env L η w a) {k : K1 K} (hkp : Kept η w w' tl) (hk : k x env L') (hf : Fwd L η w L' η' w' noBad) (hh : HeapRel (sig C X) L' η' w')
    (hx : RepV (sig C X) L' η' w' x v) : Res C X N L η w a tl k v w' :=
  ⟨x, env, L', η', hk, hx, hr.step0 hf hh, ⟨noBad, hf, fun o h => by cases h⟩, hkp⟩

theorem Fwd.trans0 {L L1 L2 : Heap K} {η η1 η2 : Eta} {w w1 w2 : World} (h : Fwd L η w L1 η1 w1 noBad) (k : Fwd L1 η1 w1 L2 η2 w2 noBad) : Fwd L η w L2 η2 w2 noBad :=
  h.trans k fun _ _ _ => ⟨rfl, rfl⟩

theorem isNil_eq {v : Value} (h : isNilSlice v = true) : v = .slice none 0 0 := by
  unfold isNilSlice at h
  split at h
  · rfl
  · cases h

theorem rep_own_nil {G : Sig} {L : Heap K} {η : Eta} {w : World} {o : Nat} {e : TypeId} (ho : L[o]? = some (.row e [])) : Rep G L η w (.own o) [.slice none 0 0] := by
  refine ⟨?_, ⟨_, rfl, rfl⟩, ?_⟩
  · exact (List.getElem?_eq_some_iff.1 ho).1
  · intro e' xs h
    rw [ho] at h; cases h
    exact ⟨none, 0, rfl, Nat.le_refl _, .inl rfl⟩

theorem denil_ok {G : Sig} : ∀ (nils : List (Nat × TypeId)) (cs : List PV) (L : Heap K) (η : Eta) (cells : List Value) (k : List PV → Heap K → Prop), HeapRel G L η w → Rep.go G L η w cs cells → denil C nils cs L k →
    ∃ cs' L' η', k cs' L' ∧ HeapRel G L' η' w ∧ Fwd L η w L' η' w noBad ∧ Rep.go G L' η' w cs' cells
  | [], cs, L, η, cells, k, hh, hr, h => ⟨cs, L, η, h, hh, Fwd.refl _ _ _ _, hr⟩
  | (j, e) :: r, cs, L, η, cells, k, hh, hr, h => by
    simp only [denil] at h
    split at h
    · rename_i v hv
      split at h
      · rename_i hn _
        obtain rfl := isNil_eq hn
        obtain ⟨f1, h1⟩ := push_nil hh e
        obtain ⟨u, g1, g2, g3, g4⟩ := Rep.go_get hr j _ hv
        obtain ⟨g4, _⟩ := g4
        simp at g4; subst g4
        have hr1 := Rep.go_set (f1.rep_go hh hr) j (.own L.length) (.slice none 0 0) rfl rfl (rep_own_nil (e := e) (by simp))
        have hs : cells.set j (.slice none 0 0) = cells := by
          apply List.ext_getElem?
          intro i
          rw [List.getElem?_set]
          split
          · rename_i hij; subst hij
            split
            · exact g1.symm
            · rename_i hlt; rw [List.getElem?_eq_none (by omega)] at g1; cases g1
          · rfl
        rw [hs] at hr1
        obtain ⟨cs', L', η', q1, q2, q3, q4⟩ := denil_ok r _ _ _ cells k h1 hr1 h
        exact ⟨cs', L', η', q1, q2, f1.trans0 q3, q4⟩
      · exact h.elim
      · exact denil_ok r cs L η cells k hh hr h
    · exact denil_ok r cs L η cells k hh hr h

theorem alloc_eq (w : World) (o : Obj) : ({ w with heap := w.heap.push o } : World) = w.alloc o := rfl

theorem evAlloc_ok (hc : CfgOk C) (hr : RelT C (sig C X) N env L η w a) {t : TypeId} {k : K1 K} (h : evAlloc C t env L k) :
    ∃ v w', (Instr.alloc t true (.tuple #[])).run C.P w = .ok v w' ∧ Res C X N L η w a [] k v w' := by
  simp only [evAlloc] at h
  split at h
  · rename_i i hi
    obtain ⟨inf, i1, i2, i3, z, i4, i5, i6⟩ := (hc.ty t i hi).info
    obtain ⟨cs', L', η', q1, q2, q3, q4⟩ := denil_ok i.nils i.zero L η z.cells.toList _ hr.heap (i6 _ _ _ _) h
    obtain ⟨f2, h2⟩ := push_box q2 cs' z.cells.toList t q4
    refine ⟨.pointer (some ⟨w.heap.size, 0, none⟩), w.alloc (.cells z.cells t), ?_, res_mk hr .alloc q1 (q3.trans0 f2) h2 (repV_mk rfl rfl ⟨by simp, ⟨_, rfl, rfl⟩, ?_⟩)⟩
    · simp [Instr.alloc, run_zeroValue' i1 i4, Result.andThen, newVar, newRow]
    · intro cs hL
      exact ⟨w.heap.size, upd_same _ _ _, rfl⟩
  · exact h.elim

theorem evBox_ok (hc : CfgOk C) (hr : RelT C (sig C X) N env L η w a) {t : TypeId} {x : PV} {u : Value} (hx : RepV (sig C X) L η w x u) {k : K1 K} (h : evBox C t x env L k) :
    ∃ v w', (Instr.box t u).run C.P w = .ok v w' ∧ Res C X N L η w a [] k v w' := by
  simp only [evBox] at h
  split at h
  · rename_i i hi hs
    obtain ⟨cs', L', η', q1, q2, q3, q4⟩ := denil_ok i.nils x.cells L η u.cells.toList _ hr.heap (Rep.cells hx hs) h
    obtain ⟨f2, h2⟩ := push_box q2 cs' u.cells.toList t q4
    refine ⟨.pointer (some ⟨w.heap.size, 0, none⟩), w.alloc (.cells u.cells t), ?_, res_mk hr .alloc q1 (q3.trans0 f2) h2 (repV_mk rfl rfl ⟨by simp, ⟨_, rfl, rfl⟩, ?_⟩)⟩
    · simp [Instr.box, newVar, newRow, Result.andThen]
    · intro cs hL
      exact ⟨w.heap.size, upd_same _ _ _, rfl⟩
  · exact h.elim

/-! ### stores -/
theorem run_storeCells' {P : Program} (b off : Nat) (t : TypeId) : ∀ (vs : List Value) (i : Nat) (w : World) (cells : List Value), w.heap[b]? = some (.cells ⟨cells⟩ t (0, 0)) → off + i + vs.length ≤ cells.length →
    (∀ v, v ∈ vs → v.oneCell' = true) → ∃ w', (storeCells ⟨b, off, none⟩ vs i).run P w = .ok () w' ∧ Rew w w' b ⟨cells⟩ ⟨setV cells (off + i) vs⟩ t
  | [], i, w, cells, hb, _, _ => ⟨w, by simp [storeCells], ⟨rfl, rfl, rfl, rfl, fun _ _ => rfl, hb, hb, rfl⟩⟩
  | v :: vs, i, w, cells, hb, hlen, hone => by
    have hlen' : off + i + (vs.length + 1) ≤ cells.length := by simpa using hlen
    have hcell : w.cell? ⟨b, off + i, none⟩ = cells[off + i]? := by rw [cell_of_blk hb]; simp
    have hsome : cells[off + i]? = some cells[off + i] := List.getElem?_eq_getElem (by omega)
    have hfr : w.frozen? ⟨b, off + i, none⟩ = false := by simp [World.frozen?, hb]
    have hb1 : (w.setCell ⟨b, off + i, none⟩ v).heap[b]? = some (.cells ⟨cells.set (off + i) v⟩ t (0, 0)) := by
      simp [World.setCell, Array.getElem?_modify, hb]
    obtain ⟨w', h1, h2⟩ := run_storeCells' b off t vs (i + 1) (w.setCell ⟨b, off + i, none⟩ v) (cells.set (off + i) v) hb1 (by simp; omega) (fun u hu => hone u (List.mem_cons_of_mem _ hu))
    refine ⟨w', ?_, ⟨h2.os, h2.tape, h2.output, by rw [h2.size]; simp [World.setCell], ?_, hb, h2.now, by simp [setV_length]⟩⟩
    · simp only [storeCells, Sem.run_bind, add_plain', run_store _ _ _ _ _ (hone v List.mem_cons_self), hcell, hsome, hfr, Result.andThen, Bool.false_eq_true, if_false]
      exact h1
    · intro j hj
      rw [h2.keep j hj]
      exact Go.RowKit.Below.heap_setCell _ _ _ _ hj

theorem Rep.go_one {G : Sig} {L : Heap K} {η : Eta} {w : World} : ∀ {cs : List PV} {l : List Value}, Rep.go G L η w cs l → ∀ v, v ∈ l → v.oneCell' = true
  | [], l, h, v, hv => by simp only [Rep.go] at h; subst h; simp at hv
  | x :: cs, l, h, v, hv => by
    obtain ⟨u, r, rfl, ha, _, h⟩ := h
    rcases List.mem_cons.1 hv with rfl | hv
    · exact ha.2
    · exact Rep.go_one h v hv

theorem set_noBad (L : Heap K) (o : Nat) (x : AObj K) : (renL (butB noBad) L).set o x = L.set o x := by rw [butB_noBad, renL_some]

/-- A part of an object's block is written: the object, told anew. -/
theorem rew_res (hr : RelT C (sig C X) N env L η w a) {w' : World} {b : Nat} {cells cells' : Array Value} {t : TypeId} (hw : Rew w w' b cells cells' t) {o : Nat} {x x' : AObj K} (ho : L[o]? = some x)
    (hl : x.live = true) (hη : η o = some b) (hk : kindOk noBad o x x') (hx : Fwd L η w (L.set o x') η w' noBad → ObjRel (sig C X) (L.set o x') η w' o x') {k : K1 K} (h : k (.tup []) env (L.set o x')) :
    Res C X N L η w a [o] k undef w' := by
  have hf := set_fwd (bad := noBad) hw ho hl hη hk
  rw [set_noBad] at hf
  have hh := set_heap (bad := noBad) hr.heap hw ho hl hη hk (by rw [set_noBad]; exact hx hf)
  rw [set_noBad] at hh
  exact res_mk hr (fun i _ hi => hw.keep i fun e => hi o (by simp) (e ▸ hη)) h hf hh (.inr ⟨rfl, ⟨[], rfl, rfl⟩⟩)

theorem rep_cells_length {G : Sig} {x : PV} {v : Value} (hx : RepV G L η w x v) (hs : x.stor = true) : v.cells.size = x.cells.length := by
  have := Rep.go_length (Rep.cells hx hs)
  simpa using this

theorem setV_get : ∀ (us l : List Value) (off p : Nat), off + us.length ≤ l.length → (setV l off us)[p]? = if off ≤ p ∧ p < off + us.length then us[p - off]? else l[p]?
  | [], l, off, p, _ => by simp [setV]; omega
  | u :: us, l, off, p, h => by
    simp only [List.length_cons] at h ⊢
    rw [setV, setV_get us (l.set off u) (off + 1) p (by simp; omega), List.getElem?_set]
    by_cases h1 : p < off
    · rw [if_neg (by omega), if_neg (by omega), if_neg (by omega)]
    · by_cases h2 : p = off
      · subst h2; rw [if_neg (by omega), if_pos rfl, if_pos (by omega), if_pos (by omega)]; simp
      · by_cases h3 : p < off + 1 + us.length
        · rw [if_pos (by omega), if_pos (by omega)]
          rw [show p - off = (p - (off + 1)) + 1 by omega]; rfl
        · rw [if_neg (by omega), if_neg (by omega), if_neg (by omega)]

theorem evStore_ok (hc : CfgOk C) (hr : RelT C (sig C X) N env L η w a) {t : TypeId} {p y : PV} {v u : Value} (hp : RepV (sig C X) L η w p v) (hy : RepV (sig C X) L η w y u) {k : K1 K} (h : evStore C t p y env L k) :
    ∃ w', (Instr.storeAt t v u).run C.P w = .ok () w' ∧ Res C X N L η w a (tlOf p) k undef w' := by
  simp only [evStore] at h
  split at h
  · rename_i i o off hi hs
    have hsz := (hc.ty t i hi).size w
    split at h
    · rename_i cs hL
      obtain ⟨h12, hk⟩ := chk_iff h
      simp only [Bool.and_eq_true] at h12
      have h1 := Nat.eq_of_beq_eq_true h12.1
      have h2 := Nat.le_of_ble_eq_true h12.2
      obtain ⟨_, hq⟩ := repV_one hp (by simp) rfl
      obtain ⟨hlt, _, hq⟩ := hq
      obtain ⟨b, hη, hv⟩ := hq cs hL
      clear hq
      simp at hv; subst hv
      obtain ⟨b', t', cells, g1, g2, g3⟩ := hr.heap.obj o _ hL
      rw [hη] at g1; cases g1
      have hlen := Rep.go_length g3
      have hul := rep_cells_length hy hs
      obtain ⟨w', e1, e2⟩ := run_storeCells' (P := C.P) b off t' u.cells.toList 0 w cells g2 (by simp [hul]; omega) (fun v hv => Rep.go_one (Rep.cells hy hs) v hv)
      refine ⟨w', ?_, rew_res (x' := .box (setCells cs off y.cells)) hr e2 hL rfl hη trivial ?_ hk⟩
      · have : ¬ (u.cells.size ≠ i.size) := by rw [hul, h1]; simp
        simp only [Instr.storeAt, Instr.sureAddr, Sem.run_bind, Sem.run_pure, Result.andThen, storeVar, hsz, this, if_false]
        exact e1
      · intro hf
        refine ⟨b, t', _, hη, e2.now, ?_⟩
        exact hf.rep_go hr.heap (Rep.go_setCells _ _ _ _ _ (Rep.cells hy hs) g3)
    · exact h.elim
  · rename_i i o n off hi hs
    have hsz := (hc.ty t i hi).size w
    split at h
    · rename_i e xs hL
      obtain ⟨h1, h⟩ := chk_iff h
      have h1 := Nat.eq_of_beq_eq_true h1
      obtain ⟨_, hq⟩ := repV_one hp (by simp) rfl
      obtain ⟨hlt, _, hq⟩ := hq
      obtain ⟨n0, n1, b, hη, hv⟩ := hq e xs hL
      clear hq
      simp at hv; subst hv
      have hnlt : n.toNat < xs.length := by omega
      have hz := List.getElem?_eq_getElem hnlt
      obtain ⟨h2, h⟩ := chk_iff (h _ hz)
      have h2 := Nat.le_of_ble_eq_true h2
      obtain ⟨z', hdec, h⟩ := h
      · obtain ⟨_, q⟩ | ⟨b', cells, g1, g2, g3, g4, g5⟩ := hr.heap.obj o _ hL
        · rw [hη] at q; cases q
        rw [hη] at g1; cases g1
        have hul := rep_cells_length hy hs
        obtain ⟨vs, v1, v2, v3⟩ := g5 _ _ hz
        have hvl := v2.length
        have hsz0 : (sig C X).sz e = vs.length := v1.symm
        have hrow : (n.toNat + 1) * (sig C X).sz e ≤ cells.size := Nat.le_trans (Nat.mul_le_mul_right _ hnlt) g4
        have hrow' : n.toNat * (sig C X).sz e + (sig C X).sz e ≤ cells.size := by rw [Nat.add_mul, Nat.one_mul] at hrow; exact hrow
        obtain ⟨w', e1, e2⟩ := run_storeCells' (P := C.P) b (n.toNat * (sig C X).sz e + off) e u.cells.toList 0 w cells.toList (by simpa using g2) (by simp [hul]; omega) (fun v hv => Rep.go_one (Rep.cells hy hs) v hv)
        refine ⟨w', ?_, rew_res (x' := .row e (xs.set n.toNat z')) hr e2 hL rfl hη ⟨rfl, .inr (by simp)⟩ ?_ h⟩
        · have : ¬ (u.cells.size ≠ i.size) := by rw [hul, h1]; simp
          simp only [Instr.storeAt, Instr.sureAddr, Sem.run_bind, Sem.run_pure, Result.andThen, storeVar, hsz, this, if_false]
          exact e1
        · intro hf
          have hus : u.cells.toList.length = i.size := by simpa [hul] using h1
          have hcl : cells.toList.length = cells.size := Array.length_toList
          have hrepz : ∀ zz : (K e).α, (K e).enc zz = (match (K e).enc xs[n.toNat] with | .agg cs => .agg (setCells cs off y.cells) | _ => cond y.isAgg .junk y) →
              ∃ us' : List Value, us'.length = vs.length ∧ RepF (sig C X).I (Mx (sig C X) L η) w ((K e).enc zz) us' ∧
              ∀ j, j < vs.length → (setV cells.toList (n.toNat * (sig C X).sz e + off) u.cells.toList)[n.toNat * (sig C X).sz e + j]? = us'[j]? := by
            intro zz hz'
            have hpure := (K e).ok zz
            have hyr := Rep.cells hy hs
            clear hdec h
            cases henc : (K e).enc xs[n.toNat] with
            | agg cs0 =>
              rw [henc] at hz' v2 h2
              simp only at hz'
              have hv0 : Rep.go (sig C X) L η w cs0 vs := Rep.ofF_go _ _ v2
              have h3 := Rep.go_setCells y.cells u.cells.toList cs0 vs off hyr hv0
              refine ⟨setV vs off u.cells.toList, setV_length _ _ _, ?_, ?_⟩
              · rw [hz'] at hpure ⊢
                exact Rep.toF (.agg _) _ hpure h3
              · intro j hj
                have h4 : off + u.cells.toList.length ≤ vs.length := by rw [hus, hvl, henc]; exact h2
                rw [setV_get _ _ _ _ (by omega), setV_get _ _ _ _ h4]
                by_cases hjo : off ≤ j ∧ j < off + u.cells.toList.length
                · rw [if_pos (by omega), if_pos hjo]; congr 1; omega
                · rw [if_neg (by omega), if_neg hjo]
                  have := v3 j vs[j] (List.getElem?_eq_getElem hj)
                  rw [Array.getElem?_toList, this, List.getElem?_eq_getElem hj]
            | _ =>
              rw [henc] at hz' v2 h2
              simp only at hz'
              have hya : y.isAgg = false := by
                cases hq : y.isAgg with
                | false => rfl
                | true => rw [hq] at hz'; rw [hz'] at hpure; simp [PV.pure] at hpure
              rw [hya] at hz'
              simp only [cond_false] at hz'
              have hyc : y.cells = [y] := by cases y <;> first | rfl | simp [PV.isAgg] at hya
              have hvl1 : vs.length = 1 := by rw [v2.length]; rfl
              have hi1 : i.size = 1 := by rw [← h1, hyc]; rfl
              have hoff : off = 0 := by simp [PV.cells] at h2; omega
              subst hoff
              rw [hyc] at hyr
              obtain ⟨u0, r0, hu0, _, hy0, hr0⟩ := hyr
              simp only [Rep.go] at hr0
              subst hr0
              refine ⟨[u0], by rw [hvl1]; rfl, ?_, ?_⟩
              · rw [hz'] at hpure ⊢
                exact Rep.toF y _ hpure hy0
              · intro j hj
                have : j = 0 := by omega
                subst this
                rw [setV_get _ _ _ _ (by omega), if_pos (by rw [hus]; omega), hu0]
                simp
          obtain ⟨us', u1, u2, u3⟩ := hrepz z' hdec
          have s0 := g3
          refine .inr ⟨b, _, hη, e2.now, g3, by simp [setV_length]; exact g4, ?_⟩
          intro p x hp
          rw [List.getElem?_set] at hp
          split at hp
          · rename_i hpn
            subst hpn
            obtain rfl := Option.some.inj hp
            refine ⟨us', by rw [u1, v1], hf.repF hr.heap u2, ?_⟩
            intro j v hj
            have hjl : j < vs.length := by rw [← u1]; exact (List.getElem?_eq_some_iff.1 hj).1
            have := u3 j hjl
            rw [List.getElem?_toArray, Nat.add_zero, this]; exact hj
          · rename_i hpn
            obtain ⟨cs1, c1, c2, c3⟩ := g5 p x hp
            refine ⟨cs1, c1, hf.repF hr.heap c2, ?_⟩
            intro j v hj
            have hjl : j < (sig C X).sz e := by rw [← c1]; exact (List.getElem?_eq_some_iff.1 hj).1
            rw [List.getElem?_toArray, Nat.add_zero, setV_get _ _ _ _ (by omega)]
            rw [if_neg]
            · rw [Array.getElem?_toList]; exact c3 j v hj
            · rw [hus]
              rcases Nat.lt_or_gt_of_ne hpn with hlt | hgt
              · have := Nat.mul_le_mul_right ((sig C X).sz e) (show n.toNat + 1 ≤ p from hlt)
                rw [Nat.add_mul, Nat.one_mul] at this
                rw [hsz0, hvl] at this hjl ⊢
                omega
              · have := Nat.mul_le_mul_right ((sig C X).sz e) (show p + 1 ≤ n.toNat from hgt)
                rw [Nat.add_mul, Nat.one_mul] at this
                omega
    · exact h.elim
  · exact h.elim
end Go.Ab
