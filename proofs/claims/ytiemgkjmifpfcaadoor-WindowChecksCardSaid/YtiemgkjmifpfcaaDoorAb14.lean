import Derived.Test.YtiemgkjmifpfcaaDoorAb13
set_option linter.unusedVariables false
set_option linter.unusedSimpArgs false
namespace Go.Ab
open Go
variable {K : Codes} {C : Cfg K} {X : Nat → Prop} {N : Nat} {env : List PV} {L : Heap K} {η : Eta} {w : World} {a : Act}

theorem RepF.go_one {I : Ids} {M : Nat → Prop} : ∀ {xs : List PV} {l : List Value}, RepF.go I M w xs l → ∀ v, v ∈ l → v.oneCell' = true
  | [], l, h, v, hv => by simp only [RepF.go] at h; subst h; simp at hv
  | x :: xs, l, h, v, hv => by
    obtain ⟨u, r, rfl, h0, _, h⟩ := h
    rcases List.mem_cons.1 hv with rfl | hv
    · exact h0.2
    · exact RepF.go_one h v hv
theorem RepF.ones {I : Ids} {M : Nat → Prop} {x : PV} {l : List Value} (h : RepF I M w x l) : ∀ v, v ∈ l → v.oneCell' = true := by
  rcases h.cells with h1 | ⟨ha, h1⟩
  · exact RepF.go_one h1
  · intro v hv
    match l, h1 with
    | [u], _ =>
      simp at hv; subst hv
      exact h.one ha

/-- The cells that an append lays behind. -/
structure News (I : Ids) (M : Nat → Prop) (w : World) (s : Nat) (c : Cod) (ys : List c.α) (news : List Value) : Prop where
  len : news.length = ys.length * s
  one : ∀ v, v ∈ news → v.oneCell' = true
  el : ∀ (i : Nat) (x : c.α), ys[i]? = some x → ∃ cs : List Value, cs.length = s ∧ RepF I M w (c.enc x) cs ∧ ∀ (j : Nat) (v : Value), cs[j]? = some v → news[i * s + j]? = some v

theorem news_nil {I : Ids} {M : Nat → Prop} {s : Nat} {c : Cod} : News I M w s c [] [] := ⟨by simp, by simp, by simp⟩

theorem news_of {I : Ids} {M : Nat → Prop} {s : Nat} (hs : 0 < s) {c : Cod} {ys : List c.α} {off : Nat} {cells : Array Value}
    (h : ∀ (i : Nat) (x : c.α), ys[i]? = some x → ∃ cs : List Value, cs.length = s ∧ RepF I M w (c.enc x) cs ∧ ∀ (j : Nat) (v : Value), cs[j]? = some v → cells[off + i * s + j]? = some v) :
    ∃ news, News I M w s c ys news ∧ ∀ (j : Nat) (v : Value), news[j]? = some v → cells[off + j]? = some v := by
  have hin : ∀ p, p < ys.length * s → ∃ v, cells[off + p]? = some v ∧ v.oneCell' = true := by
    intro p hp
    have h1 : p / s < ys.length := Nat.div_lt_of_lt_mul (by rw [Nat.mul_comm]; exact hp)
    obtain ⟨cs, c1, c2, c3⟩ := h (p / s) _ (List.getElem?_eq_getElem h1)
    have h2 : p % s < cs.length := by rw [c1]; exact Nat.mod_lt _ hs
    have := c3 (p % s) _ (List.getElem?_eq_getElem h2)
    refine ⟨_, ?_, c2.ones _ (List.getElem_mem h2)⟩
    rw [← this]; congr 1
    have := Nat.div_add_mod p s
    rw [Nat.mul_comm] at this; omega
  have hsz : ys.length = 0 ∨ off + ys.length * s ≤ cells.size := by
    rcases Nat.eq_zero_or_pos ys.length with h0 | h0
    · exact .inl h0
    · right
      have hpos : 0 < ys.length * s := Nat.mul_pos h0 hs
      obtain ⟨v, hv, _⟩ := hin (ys.length * s - 1) (by omega)
      have := (Array.getElem?_eq_some_iff.1 hv).1
      omega
  have hget : ∀ p, ((cells.toList.drop off).take (ys.length * s))[p]? = if p < ys.length * s then cells[off + p]? else none := by
    intro p
    rw [List.getElem?_take, List.getElem?_drop, Array.getElem?_toList]
  refine ⟨(cells.toList.drop off).take (ys.length * s), ⟨?_, ?_, ?_⟩, ?_⟩
  · rcases hsz with h0 | h0
    · simp [h0]
    · simp; omega
  · intro v hv
    obtain ⟨p, hp⟩ := List.getElem?_of_mem hv
    rw [hget] at hp
    split at hp
    · rename_i hlt
      obtain ⟨u, hu, h1⟩ := hin p hlt
      rw [hu] at hp; cases hp; exact h1
    · cases hp
  · intro i x hi
    obtain ⟨cs, c1, c2, c3⟩ := h i x hi
    refine ⟨cs, c1, c2, fun j v hj => ?_⟩
    have hj' : j < s := by rw [← c1]; exact (List.getElem?_eq_some_iff.1 hj).1
    have hi' := (List.getElem?_eq_some_iff.1 hi).1
    have : (i + 1) * s ≤ ys.length * s := Nat.mul_le_mul_right _ hi'
    rw [Nat.add_mul] at this
    rw [hget, if_pos (by omega), ← Nat.add_assoc]
    exact c3 j v hj
  · intro j v hj
    rw [hget] at hj
    split at hj
    · exact hj
    · cases hj

theorem first_none {P : Program} {w1 : World} (s len cap : Nat) (A : Option Addr) : (Builtin.firstCells s 0 (.slice A len cap)).run P w1 = .ok ⟨[]⟩ w1 := by
  cases A with
  | none => simp [Builtin.firstCells]
  | some a => exact run_firstCells_some w1 s 0 a len cap [] (by simp) (by simp)

theorem first_blk {P : Program} {w1 : World} {b off s n len cap : Nat} {cells : Array Value} {t : TypeId} {fr : Nat × Nat} (hb : w1.heap[b]? = some (.cells cells t fr)) {news : List Value} (hl : news.length = n * s)
    (h : ∀ (j : Nat) (v : Value), news[j]? = some v → cells[off + j]? = some v) : (Builtin.firstCells s n (.slice (some ⟨b, off, none⟩) len cap)).run P w1 = .ok ⟨news⟩ w1 := by
  refine run_firstCells_some w1 s n _ len cap news hl fun j v hj => ?_
  rw [add_plain', cell_of_blk hb]
  exact h j v hj

/-- The source of an append. -/
theorem evSrc_ok (hc : CfgOk C) (hh : HeapRel (sig C X) L η w) {e : TypeId} {ie : TInfo} (hie : C.ty e = some ie) (hcod : C.cod e = true) (hs : 0 < ie.size) {x : PV} {v : Value} (hx : RepV (sig C X) L η w x v)
    {k : List (K e).α → Prop} (h : evSrc e x L k) : ∃ ys news, k ys ∧ (∀ w1 : World, (Builtin.lenOf v).run C.P w1 = .ok ys.length w1) ∧
      (∀ w1 : World, w1.heap = w.heap → (Builtin.firstCells ie.size ys.length v).run C.P w1 = .ok ⟨news⟩ w1) ∧ News (sig C X).I (Mx (sig C X) L η) w ie.size (K e) ys news := by
  unfold evSrc at h
  split at h
  · rename_i o
    split at h
    · rename_i e2 xs hL
      split at h
      · rename_i he
        subst he
        obtain ⟨_, hq⟩ := repV_one hx (by simp) rfl
        obtain ⟨hlt, _, hq⟩ := hq
        obtain ⟨A, cap, hA, hcap, hq2⟩ := hq e2 xs hL
        simp at hA; subst hA
        rcases hh.obj o _ hL with ⟨g1, g2⟩ | ⟨b, cells, g1, g2, g3, g4, g5⟩
        · subst g1
          exact ⟨[], [], h, fun w1 => by simp [Builtin.lenOf], fun w1 _ => first_none _ _ _ _, news_nil⟩
        · have hco := (hc.ty e2 ie hie).cellsOf
          have hsz : (sig C X).sz e2 = ie.size := hco
          rw [hsz] at g3 g4 g5
          obtain ⟨news, n1, n2⟩ := news_of (w := w) (off := 0) hs (ys := xs) (cells := cells) (fun i x hi => by
            obtain ⟨cs, c1, c2, c3⟩ := g5 i x hi
            exact ⟨cs, c1, c2, fun j v hj => by rw [Nat.zero_add]; exact c3 j v hj⟩)
          refine ⟨xs, news, h, fun w1 => by simp [Builtin.lenOf], fun w1 hw => ?_, n1⟩
          rcases hq2 with h0 | ⟨b', cells', t', fr', q1, q2, q3, _⟩
          · have : xs = [] := List.eq_nil_of_length_eq_zero (by omega)
            subst this
            have : news = [] := List.eq_nil_of_length_eq_zero (by rw [n1.len]; simp)
            subst this
            exact first_none _ _ _ _
          · rw [g1] at q1; cases q1
            subst q2
            exact first_blk (by rw [hw]; exact g2) n1.len n2
      · exact h.elim
    · exact h.elim
  · rename_i α enc l
    obtain ⟨ys, hys, hk⟩ := h
    have hlen : ys.length = l.length := by simpa using congrArg List.length hys
    obtain ⟨_, hq⟩ := repV_one hx (by simp) rfl
    obtain ⟨A, cap, hA, hcap, hq⟩ := hq
    simp at hA; subst hA
    rcases hq with rfl | ⟨b, off, s, cells, ty, fr, rfl, hs', hM, hb, hel⟩
    · have : ys = [] := List.eq_nil_of_length_eq_zero (by simpa using hlen)
      subst this
      exact ⟨[], [], hk, fun w1 => by simp [Builtin.lenOf], fun w1 _ => first_none _ _ _ _, news_nil⟩
    · by_cases hne : ys = []
      · subst hne
        have : l = [] := List.eq_nil_of_length_eq_zero (by simpa using hlen.symm)
        subst this
        exact ⟨[], [], hk, fun w1 => by simp [Builtin.lenOf], fun w1 _ => first_none _ _ _ _, news_nil⟩
      have hel' : ∀ (i : Nat) (y : (K e).α), ys[i]? = some y → ∃ cs : List Value, cs.length = s ∧ RepF (sig C X).I (Mx (sig C X) L η) w ((K e).enc y) cs ∧ ∀ (j : Nat) (v : Value), cs[j]? = some v → cells[off + i * s + j]? = some v := by
        intro i y hi
        have h1 : (ys.map (K e).enc)[i]? = some ((K e).enc y) := by simp [hi]
        rw [hys, List.getElem?_map] at h1
        obtain ⟨z, hz, hzz⟩ := Option.map_eq_some_iff.1 h1
        rw [← hzz]
        exact hel i z hz
      have hss : s = ie.size := by
        have h0 : 0 < ys.length := List.length_pos_iff.2 hne
        obtain ⟨cs, c1, c2, _⟩ := hel' 0 ys[0] (List.getElem?_eq_getElem h0)
        rw [← c1, c2.length, hc.codsz e ie hcod hie]
      subst hss
      obtain ⟨news, n1, n2⟩ := news_of (w := w) (off := off) hs (ys := ys) (cells := cells) hel'
      refine ⟨ys, news, hk, fun w1 => by simp [Builtin.lenOf, hlen], fun w1 hw => ?_, n1⟩
      exact first_blk (by rw [hw]; exact hb) n1.len n2
  · rename_i s
    obtain ⟨ys, hys, hk⟩ := h
    obtain rfl := repV_str hx
    have hlen : ys.length = s.size := by simpa [bytesPV] using congrArg List.length hys
    have hone : ∀ y, y ∈ ys → ie.size = 1 := by
      intro y hy
      have h1 : (K e).enc y ∈ ys.map (K e).enc := List.mem_map_of_mem hy
      rw [hys] at h1
      simp only [bytesPV, List.mem_map] at h1
      obtain ⟨b, _, hb⟩ := h1
      rw [← hc.codsz e ie hcod hie y, ← hb]; rfl
    have hsz : ys = [] ∨ ie.size = 1 := by
      cases ys with
      | nil => exact .inl rfl
      | cons y _ => exact .inr (hone y List.mem_cons_self)
    refine ⟨ys, s.data.toList.map (fun b => .int .u8 b.toNat), hk, fun w1 => by simp [Builtin.lenOf, hlen], fun w1 hw => ?_, ⟨?_, ?_, ?_⟩⟩
    · rw [hlen]
      have : s.extract 0 s.size = s := by simp
      simp [Builtin.firstCells, this]
      apply Array.ext'; simp
    · rcases hsz with rfl | h1
      · have : s.data.size = 0 := hlen.symm
        simp [this]
      · rw [h1, hlen]; simp
    · intro v hv
      obtain ⟨b, _, rfl⟩ := List.mem_map.1 hv
      rfl
    · intro i y hi
      have h1 := hone y (List.mem_of_getElem? hi)
      have h2 : (ys.map (K e).enc)[i]? = some ((K e).enc y) := by simp [hi]
      rw [hys, bytesPV, List.getElem?_map] at h2
      obtain ⟨b, hb, hbb⟩ := Option.map_eq_some_iff.1 h2
      rw [← hbb, h1]
      refine ⟨[.int .u8 b.toNat], rfl, rfl, fun j v hj => ?_⟩
      cases j with
      | zero => simp at hj; subst hj; rw [Nat.mul_one, Nat.add_zero, List.getElem?_map, hb]; rfl
      | succ j => simp at hj
  · rename_i u
    split at h
    · rename_i hn
      obtain rfl := isNil_eq hn
      obtain ⟨ha, hq⟩ := repV_one hx (by simp) rfl
      obtain ⟨hq, _⟩ := hq
      simp at hq; subst hq
      exact ⟨[], [], h, fun w1 => by simp [Builtin.lenOf], fun w1 _ => first_none _ _ _ _, news_nil⟩
    · exact h.elim
  · exact h.elim

def noInt : TypeDesc → Bool | .int _ => false | _ => true
theorem notInt_und {t : TypeId} (hc : CfgOk C) (h : notIntTd (C.td t) = true) : C.P.underlying t = some .string ∨ ∃ e, C.P.underlying t = some (.slice e) := by
  cases htd : C.td t <;> rw [htd] at h <;> simp [notIntTd] at h
  · exact .inl (td_str hc htd)
  · exact .inr ⟨_, td_und hc htd⟩

theorem run_append_fits {P : Program} {t t2 ty e : TypeId} {i : TypeInfo} (ht : P.underlying t = some (.slice e)) (h2 : P.underlying t2 = some .string ∨ ∃ e, P.underlying t2 = some (.slice e)) (hi : P.info? e = some i)
    {A : Option Addr} {sLen cap n : Nat} {v : Value} {news : List Value} (hl : ∀ w1 : World, (Builtin.lenOf v).run P w1 = .ok n w1) (hf : (Builtin.firstCells i.size n v).run P w = .ok ⟨news⟩ w) (hroom : sLen + n ≤ cap)
    {w' : World} (hst : ∀ a, A = some a → (storeCells (a.add (sLen * i.size)) news).run P w = .ok () w') (hno : A = none → w' = w) :
    (Builtin.append_ #[t, t2] ty #[.slice A sLen cap, v]).run P w = .ok (.slice A (sLen + n) cap) w' := by
  cases A with
  | none =>
    obtain rfl := hno rfl
    rcases h2 with h2 | ⟨e2, h2⟩ <;> simp [Builtin.append_, run_underlying ht, run_underlying h2, run_sizeOf' hi, hl, hroom, hf, Result.andThen]
  | some a =>
    have := hst a rfl
    rcases h2 with h2 | ⟨e2, h2⟩ <;> simp [Builtin.append_, run_underlying ht, run_underlying h2, run_sizeOf' hi, hl, hroom, hf, Result.andThen, this]

theorem run_append_grows {P : Program} {t t2 ty e : TypeId} {i : TypeInfo} {z : Value} (ht : P.underlying t = some (.slice e)) (h2 : P.underlying t2 = some .string ∨ ∃ e, P.underlying t2 = some (.slice e)) (hi : P.info? e = some i) (hz : i.zero = some z)
    {A : Option Addr} {sLen cap n : Nat} {v : Value} {olds news : List Value} (hl : ∀ w1 : World, (Builtin.lenOf v).run P w1 = .ok n w1) (hf : (Builtin.firstCells i.size n v).run P w.drew = .ok ⟨news⟩ w.drew)
    (ho : (Builtin.firstCells i.size sLen (.slice A sLen cap)).run P w.drew = .ok ⟨olds⟩ w.drew) (hg : cap < sLen + n) (h63 : ((sLen + n : Nat) : Int) ≤ 9223372036854775807) (hfit : Builtin.nextslicecap (sLen + n) cap * i.bytes ≤ 281474976710656) :
    (Builtin.append_ #[t, t2] ty #[.slice A sLen cap, v]).run P w = .ok (.slice (some ⟨w.heap.size, 0, none⟩) (sLen + n) (grownCap w (sLen + n) cap e))
      (w.drew.alloc (.cells (⟨olds⟩ ++ ⟨news⟩ ++ Builtin.zeroCells z.cells (grownCap w (sLen + n) cap e - (sLen + n))) e)) := by
  have hn : ¬ (sLen + n ≤ cap) := by omega
  have h63' : ¬ (9223372036854775807 < ((sLen : Int) + (n : Int))) := by omega
  have h48' : ¬ (281474976710656 < Builtin.nextslicecap (sLen + n) cap * i.bytes) := by omega
  rcases h2 with h2 | ⟨e2, h2⟩ <;> simp [Builtin.append_, run_underlying ht, run_underlying h2, sizeOf, typeInfo, zeroValue, hi, hz, hl, hn, h63', h48', Question.forced, hf, ho, newRow, grownCap] <;> congr 2 <;> apply Array.ext' <;> simp

theorem RowRel.append {G : Sig} {M : Nat → Prop} {s : Nat} {c : Cod} {xs ys : List c.α} {cells cells' : Array Value} {news : List Value} (hs : 0 < s)
    (hx : ∀ (i : Nat) (x : c.α), xs[i]? = some x → ∃ cs : List Value, cs.length = s ∧ RepF G.I M w (c.enc x) cs ∧ ∀ (j : Nat) (v : Value), cs[j]? = some v → cells[i * s + j]? = some v) (hn : News G.I M w s c ys news)
    (hsz : (xs.length + ys.length) * s ≤ cells'.size) (hold : ∀ p, p < xs.length * s → cells'[p]? = cells[p]?) (hnew : ∀ (p : Nat) (v : Value), news[p]? = some v → cells'[xs.length * s + p]? = some v) :
    RowRel G M w s c (xs ++ ys) cells' := by
  refine ⟨hs, by simpa using hsz, fun i x hi => ?_⟩
  by_cases h : i < xs.length
  · rw [List.getElem?_append_left h] at hi
    obtain ⟨cs, c1, c2, c3⟩ := hx i x hi
    refine ⟨cs, c1, c2, fun j v hj => ?_⟩
    have hj' : j < s := by rw [← c1]; exact (List.getElem?_eq_some_iff.1 hj).1
    have : (i + 1) * s ≤ xs.length * s := Nat.mul_le_mul_right _ h
    rw [Nat.add_mul] at this
    rw [hold _ (by omega)]
    exact c3 j v hj
  · rw [List.getElem?_append_right (by omega)] at hi
    obtain ⟨cs, c1, c2, c3⟩ := hn.el _ x hi
    refine ⟨cs, c1, c2, fun j v hj => ?_⟩
    have := hnew _ v (c3 j v hj)
    rw [Nat.sub_mul, ← Nat.add_assoc] at this
    rw [show i * s + j = xs.length * s + (i * s - xs.length * s) + j from ?_]
    · exact this
    · have : xs.length * s ≤ i * s := Nat.mul_le_mul_right _ (by omega)
      omega

theorem evAppend_ok (hc : CfgOk C) (hr : RelT C (sig C X) N env L η w a) {t t2 ty : TypeId} {s x : PV} {u v : Value} (hs : RepV (sig C X) L η w s u) (hx : RepV (sig C X) L η w x v) {k : K1 K} (h : evAppend C t t2 s x env L k) :
    ∃ r w', (Builtin.append_ #[t, t2] ty #[u, v]).run C.P w = .ok r w' ∧ Res C X N L η w a (tlOf s) k r w' := by
  unfold evAppend at h
  split at h
  · rename_i e htd hni
    have ht := td_und hc htd
    have h2 := notInt_und hc hni
    split at h
    · rename_i ie hie hcod
      obtain ⟨hq, h⟩ := chk_iff h
      simp only [Bool.and_eq_true] at hq
      have hpos : 0 < ie.size := Nat.le_of_ble_eq_true hq.1
      have hby : 1 ≤ ie.bytes := Nat.le_of_ble_eq_true hq.2
      have hco : (sig C X).sz e = ie.size := (hc.ty e ie hie).cellsOf
      obtain ⟨inf, i1, i2, i3, z, i4, i5, i6⟩ := (hc.ty e ie hie).info
      have hzl : z.cells.size = ie.size := by
        have := Rep.go_length (i6 (sig C X) L η w)
        rw [(hc.ty e ie hie).zlen] at this
        simpa using this
      obtain ⟨ys, news, hk, hlen, hfirst, hnews⟩ := evSrc_ok hc hr.heap hie hcod hpos hx h
      clear h
      rw [← i2] at hfirst
      have bound : ∀ m : Nat, m * ie.bytes ≤ 140737488355328 → (m : Int) ≤ 9223372036854775807 ∧ m * inf.bytes ≤ 140737488355328 := by
        intro m hm
        have := Nat.mul_le_mul_left m hby
        exact ⟨by omega, by rw [i3]; exact hm⟩
      have hzc : ∀ n, (Builtin.zeroCells z.cells n).size = n * ie.size := fun n => by rw [size_zeroCells, hzl]
      split at hk
      · rename_i o
        split at hk
        · rename_i e2 xs hL
          split at hk
          · rename_i he
            subst he
            obtain ⟨hbytes, hk⟩ := hk
            obtain ⟨b63, bby⟩ := bound _ hbytes
            obtain ⟨_, hq⟩ := repV_one hs (by simp) rfl
            obtain ⟨hlt, _, hq⟩ := hq
            obtain ⟨A, cap, hA, hcap, hq2⟩ := hq e2 xs hL
            clear hq
            simp at hA; subst hA
            have hset : ((renL (but o) L).set o (.row e2 (xs ++ ys)))[o]? = some (.row e2 (xs ++ ys)) := List.getElem?_set_self (by simp [renL_length]; exact hlt)
            by_cases hroom : xs.length + ys.length ≤ cap
            · rcases hq2 with h0 | ⟨b, cells, t', fr', q1, q2, q3, q4⟩
              · -- no block
                have hx0 : xs = [] := List.eq_nil_of_length_eq_zero (by omega)
                have hy0 : ys = [] := List.eq_nil_of_length_eq_zero (by omega)
                subst hx0 hy0
                have hn0 : news = [] := List.eq_nil_of_length_eq_zero (by rw [hnews.len]; simp)
                subst hn0
                refine ⟨_, _, run_append_fits (w' := w) ht h2 i1 hlen (hfirst w rfl) hroom (fun a _ => by simp [storeCells]) (fun _ => rfl), ?_⟩
                have hf : Fwd L η w ((renL (but o) L).set o (.row e2 ([] ++ []))) (upd η o (η o)) w (isO o) := grow_fwd (More.refl w) hL (isO_self o) (η o) (fun b hb => .inr hb)
                have hobj : ObjRel (sig C X) ((renL (but o) L).set o (.row e2 ([] ++ []))) (upd η o (η o)) w o (.row e2 ([] ++ [])) := by
                  rcases hr.heap.obj o _ hL with ⟨g1, g2⟩ | ⟨b, cells, g1, g2, g3⟩
                  · left; exact ⟨by simp, by rw [upd_same]; exact g2⟩
                  · right; exact ⟨b, cells, by rw [upd_same]; exact g1, g2, g3.fwd hf hr.heap⟩
                refine row_res hr hL .same hf (grow_heap hr.heap (More.refl w) hL (isO_self o) (η o) (fun b hb => .inr hb) hobj) (repV_mk rfl rfl ⟨by simp [renL_length]; exact hlt, ⟨_, rfl, rfl⟩, ?_⟩) hk
                intro e3 xs3 hL3
                rw [hset] at hL3
                cases hL3
                exact ⟨A, cap, by simp, by simp, .inl h0⟩
              · subst q2
                rcases hr.heap.obj o _ hL with ⟨g1, g2⟩ | ⟨b', cells', g1, g2, g3, g4, g5⟩
                · rw [g2] at q1; cases q1
                rw [q1] at g1; cases g1
                rw [q3] at g2; cases g2
                rw [hco] at q4 g4 g5
                have hfits : (xs.length + ys.length) * ie.size ≤ cells.size := Nat.le_trans (Nat.mul_le_mul_right _ hroom) q4
                have hfits' := hfits
                rw [Nat.add_mul, ← hnews.len] at hfits'
                obtain ⟨w', e1, e2'⟩ := run_storeCells' (P := C.P) b (xs.length * ie.size) e2 news 0 w cells.toList (by simpa using q3) (by simpa using hfits') hnews.one
                simp only [Nat.add_zero] at e2'
                refine ⟨_, _, run_append_fits (w' := w') ht h2 i1 hlen (hfirst w rfl) hroom (fun a ha => by cases ha; rw [add_plain', Nat.zero_add, i2]; exact e1) (fun h => by cases h), ?_⟩
                have hf := set_fwd (bad := isO o) (x' := .row e2 (xs ++ ys)) e2' hL rfl q1 ⟨rfl, .inl (isO_self o)⟩
                have hrow : RowRel (sig C X) (Mx (sig C X) L η) w ((sig C X).sz e2) (K e2) (xs ++ ys) ⟨setV cells.toList (xs.length * ie.size) news⟩ := by
                  rw [hco]
                  refine RowRel.append hpos g5 hnews (by simpa [setV_length] using hfits) ?_ ?_
                  · intro p hp
                    rw [List.getElem?_toArray, setV_get _ _ _ _ (by simpa using hfits'), if_neg (by omega), Array.getElem?_toList]
                  · intro p v hp
                    have hpl := (List.getElem?_eq_some_iff.1 hp).1
                    rw [List.getElem?_toArray, setV_get _ _ _ _ (by simpa using hfits'), if_pos (by omega), Nat.add_sub_cancel_left]
                    exact hp
                have hobj : ObjRel (sig C X) ((renL (butB (isO o)) L).set o (.row e2 (xs ++ ys))) η w' o (.row e2 (xs ++ ys)) := .inr ⟨b, _, q1, e2'.now, hrow.fwd hf hr.heap⟩
                refine row_res hr hL (fun i _ hi => e2'.keep i fun e => hi o (by simp [tlOf]) (e ▸ q1)) hf (set_heap hr.heap e2' hL rfl q1 ⟨rfl, .inl (isO_self o)⟩ hobj) (repV_mk rfl rfl ⟨by simp [renL_length]; exact hlt, ⟨_, rfl, rfl⟩, ?_⟩) hk
                intro e3 xs3 hL3
                rw [hset] at hL3
                cases hL3
                exact ⟨_, cap, by simp, by simpa using hroom, .inr ⟨b, _, e2, (0, 0), q1, rfl, e2'.now, by rw [hco]; simpa [setV_length] using q4⟩⟩
            · -- a new block
              have hgr : cap < xs.length + ys.length := by omega
              obtain ⟨olds, n1, n2⟩ : ∃ olds, News (sig C X).I (Mx (sig C X) L η) w ie.size (K e2) xs olds ∧ (Builtin.firstCells inf.size xs.length (.slice A xs.length cap)).run C.P w.drew = .ok ⟨olds⟩ w.drew := by
                rcases hr.heap.obj o _ hL with ⟨g1, g2⟩ | ⟨b', cells', g1, g2, g3, g4, g5⟩
                · subst g1; exact ⟨[], news_nil, first_none _ _ _ _⟩
                · rw [hco] at g4 g5
                  obtain ⟨olds, n1, n2⟩ := news_of (w := w) (off := 0) hpos (ys := xs) (cells := cells') (fun i x hi => by
                    obtain ⟨cs, c1, c2, c3⟩ := g5 i x hi
                    exact ⟨cs, c1, c2, fun j v hj => by rw [Nat.zero_add]; exact c3 j v hj⟩)
                  refine ⟨olds, n1, ?_⟩
                  rcases hq2 with h0 | ⟨b, cells, t', fr', q1, q2, q3, _⟩
                  · have : xs = [] := List.eq_nil_of_length_eq_zero (by omega)
                    subst this
                    have : olds = [] := List.eq_nil_of_length_eq_zero (by rw [n1.len]; simp)
                    subst this
                    exact first_none _ _ _ _
                  · rw [g1] at q1; cases q1
                    subst q2
                    rw [i2]
                    exact first_blk (by exact g2) n1.len n2
              refine ⟨_, _, run_append_grows ht h2 i1 i4 hlen (hfirst w.drew rfl) n2 hgr b63 (growslice_fits hgr bby), ?_⟩
              have hmore : More w (w.drew.alloc (.cells (⟨olds⟩ ++ ⟨news⟩ ++ Builtin.zeroCells z.cells (grownCap w (xs.length + ys.length) cap e2 - (xs.length + ys.length))) e2)) :=
                (More.of_heap (w := w) (w' := w.drew) rfl rfl rfl rfl).trans (More.alloc _ _)
              have hf := grow_fwd (η := η) (xs' := xs ++ ys) hmore hL (isO_self o) (some w.heap.size) (fun b hb => by cases hb; exact .inl (Nat.le_refl _))
              have hcap2 := grownCap_ge w (xs.length + ys.length) cap e2
              have hcsz : (⟨olds⟩ ++ ⟨news⟩ ++ Builtin.zeroCells z.cells (grownCap w (xs.length + ys.length) cap e2 - (xs.length + ys.length)) : Array Value).size = grownCap w (xs.length + ys.length) cap e2 * ie.size := by
                simp only [Array.size_append, List.size_toArray, hzc, n1.len, hnews.len, ← Nat.add_mul]
                congr 1; omega
              have hrow : RowRel (sig C X) (Mx (sig C X) L η) w ((sig C X).sz e2) (K e2) (xs ++ ys) (⟨olds⟩ ++ ⟨news⟩ ++ Builtin.zeroCells z.cells (grownCap w (xs.length + ys.length) cap e2 - (xs.length + ys.length))) := by
                rw [hco]
                have hol := n1.len
                refine RowRel.append (cells := ⟨olds⟩) hpos ?_ hnews (by rw [hcsz]; exact Nat.mul_le_mul_right _ hcap2) ?_ ?_
                · intro i x hi
                  obtain ⟨cs, c1, c2, c3⟩ := n1.el i x hi
                  exact ⟨cs, c1, c2, fun j v hj => by rw [List.getElem?_toArray]; exact c3 j v hj⟩
                · intro p hp
                  rw [Array.append_assoc, Array.getElem?_append_left (by simpa [hol] using hp)]
                · intro p v hp
                  have hpl := (List.getElem?_eq_some_iff.1 hp).1
                  rw [Array.append_assoc, Array.getElem?_append_right (by simp [hol]), Array.getElem?_append_left (by simp [hol]; exact hpl)]
                  simp [hol, hp]
              have hnewb : (w.drew.alloc (.cells (⟨olds⟩ ++ ⟨news⟩ ++ Builtin.zeroCells z.cells (grownCap w (xs.length + ys.length) cap e2 - (xs.length + ys.length))) e2)).heap[w.heap.size]? = some (.cells (⟨olds⟩ ++ ⟨news⟩ ++ Builtin.zeroCells z.cells (grownCap w (xs.length + ys.length) cap e2 - (xs.length + ys.length))) e2 (0, 0)) := heap_new w.drew _
              have hobj : ObjRel (sig C X) ((renL (butB (isO o)) L).set o (.row e2 (xs ++ ys))) (upd η o (some w.heap.size)) (w.drew.alloc (.cells (⟨olds⟩ ++ ⟨news⟩ ++ Builtin.zeroCells z.cells (grownCap w (xs.length + ys.length) cap e2 - (xs.length + ys.length))) e2)) o (.row e2 (xs ++ ys)) :=
                .inr ⟨w.heap.size, _, upd_same _ _ _, hnewb, hrow.fwd hf hr.heap⟩
              refine row_res hr hL (.more hmore) hf (grow_heap hr.heap hmore hL (isO_self o) (some w.heap.size) (fun b hb => by cases hb; exact .inl (Nat.le_refl _)) hobj) (repV_mk rfl rfl ⟨by simp [renL_length]; exact hlt, ⟨_, rfl, rfl⟩, ?_⟩) hk
              intro e3 xs3 hL3
              rw [hset] at hL3
              cases hL3
              exact ⟨some ⟨w.heap.size, 0, none⟩, grownCap w (xs.length + ys.length) cap e2, by simp, by simpa using hcap2, .inr ⟨w.heap.size, _, e2, (0, 0), upd_same _ _ _, rfl, hnewb, by rw [hco, hcsz]; exact Nat.le_refl _⟩⟩
          · exact hk.elim
        · exact hk.elim
      · rename_i vv
        split at hk
        · rename_i hn
          obtain rfl := isNil_eq hn
          obtain ⟨ha, hq⟩ := repV_one hs (by simp) rfl
          obtain ⟨hq, _⟩ := hq
          simp at hq; subst hq
          obtain ⟨hbytes, hk⟩ := hk
          obtain ⟨b63, bby⟩ := bound _ hbytes
          by_cases h0 : ys = []
          · subst h0
            have hn0 : news = [] := List.eq_nil_of_length_eq_zero (by rw [hnews.len]; simp)
            subst hn0
            obtain ⟨pf, ph⟩ := push_nil hr.heap e
            refine ⟨_, _, run_append_fits (w' := w) ht h2 i1 hlen (hfirst w rfl) (by simp) (fun a _ => by simp [storeCells]) (fun _ => rfl), res_mk hr .same hk pf ph (repV_mk rfl rfl ⟨by simp, ⟨_, rfl, rfl⟩, ?_⟩)⟩
            intro e3 xs3 hL3
            simp at hL3
            obtain ⟨rfl, hL3⟩ := hL3
            cases hL3
            exact ⟨none, 0, rfl, Nat.le_refl _, .inl rfl⟩
          · have hgr : 0 < 0 + ys.length := by rw [Nat.zero_add]; exact List.length_pos_iff.2 h0
            refine ⟨_, _, run_append_grows ht h2 i1 i4 hlen (hfirst w.drew rfl) (first_none _ _ _ _) hgr (by rw [Nat.zero_add]; exact b63) (growslice_fits hgr (by rw [Nat.zero_add]; exact bby)), ?_⟩
            have hcap2 := grownCap_ge w (0 + ys.length) 0 e
            generalize grownCap w (0 + ys.length) 0 e = gc at hcap2 ⊢
            have hmore : More w (w.drew.alloc (.cells (⟨[]⟩ ++ ⟨news⟩ ++ Builtin.zeroCells z.cells (gc - (0 + ys.length))) e)) :=
              (More.of_heap (w := w) (w' := w.drew) rfl rfl rfl rfl).trans (More.alloc _ _)
            have hcsz : (⟨[]⟩ ++ ⟨news⟩ ++ Builtin.zeroCells z.cells (gc - (0 + ys.length)) : Array Value).size = gc * ie.size := by
              simp only [Array.size_append, List.size_toArray, hzc, hnews.len, List.length_nil]
              rw [Nat.zero_add (ys.length * ie.size), ← Nat.add_mul]
              congr 1; omega
            have hrow : RowRel (sig C X) (Mx (sig C X) L η) w ((sig C X).sz e) (K e) ([] ++ ys) (⟨[]⟩ ++ ⟨news⟩ ++ Builtin.zeroCells z.cells (gc - (0 + ys.length))) := by
              rw [hco]
              refine RowRel.append (cells := ⟨[]⟩) hpos (by simp) hnews (by rw [hcsz]; exact Nat.mul_le_mul_right _ hcap2) (by simp) ?_
              intro p v hp
              have hpl := (List.getElem?_eq_some_iff.1 hp).1
              rw [Array.append_assoc, Array.getElem?_append_right (by simp), Array.getElem?_append_left (by simp; exact hpl)]
              simpa using hp
            have hnewb : (w.drew.alloc (.cells (⟨[]⟩ ++ ⟨news⟩ ++ Builtin.zeroCells z.cells (gc - (0 + ys.length))) e)).heap[w.heap.size]? = some (.cells (⟨[]⟩ ++ ⟨news⟩ ++ Builtin.zeroCells z.cells (gc - (0 + ys.length))) e (0, 0)) := heap_new w.drew _
            obtain ⟨pf, ph⟩ := push_row hr.heap hmore e ys w.heap.size _ (Nat.le_refl _) hnewb hrow
            refine res_mk hr (.more hmore) hk pf ph (repV_mk rfl rfl ⟨by simp, ⟨_, rfl, rfl⟩, ?_⟩)
            intro e3 xs3 hL3
            simp at hL3
            obtain ⟨rfl, hL3⟩ := hL3
            cases hL3
            exact ⟨some ⟨w.heap.size, 0, none⟩, gc, by simp, by simpa using hcap2, .inr ⟨w.heap.size, _, e, (0, 0), upd_same _ _ _, rfl, hnewb, by rw [hco, hcsz]; exact Nat.le_refl _⟩⟩
        · exact hk.elim
      · exact hk.elim
    · exact h.elim
  · exact h.elim
end Go.Ab
