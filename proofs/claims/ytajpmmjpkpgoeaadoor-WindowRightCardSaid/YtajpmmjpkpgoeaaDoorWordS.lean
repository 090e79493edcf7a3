import Derived.Test.YtajpmmjpkpgoeaaDoorWordX
import Derived.Test.YtajpmmjpkpgoeaaDoorTB
import Derived.Test.YtajpmmjpkpgoeaaDoorAbC
set_option linter.unusedVariables false
set_option linter.unusedSimpArgs false
set_option linter.unusedSectionVars false
namespace Go.Ab.T
open Go Go.Ab Go.Proofs
set_option maxRecDepth 100000
set_option maxHeartbeats 4000000
instance : DMode := ⟨false⟩
theorem win_cells {I : Ids} {M : Nat -> Prop} {w : World} {x : Win} {cs : List Value} (h : RepF I M w (e_api_Window x) cs) : cs = [.int .i64 x.1, .int .i64 x.2.1, .int .i64 x.2.2] := by
 obtain ⟨v0, r0, rfl, _, h0, v1, r1, rfl, _, h1, v2, r2, rfl, _, h2, h3⟩ := h
 have h0 : [v0] = [_] := h0
 have h1 : [v1] = [_] := h1
 have h2 : [v2] = [_] := h2
 have h3 : r2 = [] := h3
 simp at h0 h1 h2
 rw [h0, h1, h2, h3]
theorem wins_at {I : Ids} {M : Nat -> Prop} {w : World} {ws : List Win} {v : Value} (h : RepF I M w (.sl _ e_api_Window ws) [v]) : ∃ sa cap, v = .slice sa ws.length cap /\ WinsAt w.heap.size w sa ws := by
 obtain ⟨A, cap, hv, hc, hx⟩ := h
 have hv : v = .slice A ws.length cap := by simpa using hv
 refine ⟨A, cap, hv, ?_⟩
 rcases hx with h | ⟨b, off, s, cells, t, fr, rfl, hs, hM, hb, hel⟩
 ·exact .inl h
 ·refine .inr ⟨b, off, rfl, (Array.getElem?_eq_some_iff.1 hb).1, fun j x hj => ?_⟩
  obtain ⟨cs, c1, c2, c3⟩ := hel j x hj
  have c2 := win_cells c2
  subst c2
  have h1 : s = 3 := by simpa using c1.symm
  subst h1
  have d0 := c3 0 _ rfl
  have d1 := c3 1 _ rfl
  have d2 := c3 2 _ rfl
  simp only [Nat.add_zero] at d0
  refine ⟨?_, ?_, ?_⟩
  ·simp [World.cell?, hb, d0]
  ·simp [World.cell?, hb, d1]
  ·simp [World.cell?, hb, d2]
theorem nums_rep {G : Sig} {K : Codes} {w : World} {B n : Nat} {l : List Int} (hl : l.length = n) {f : Nat -> Int} (hf : ∀ j x, l[j]? = some x -> x = f j) (h : NumsAt w B n f) (hB : ¬ Mx G ([] : Heap K) noEta B) : RepV G ([] : Heap K) noEta w (.sl _ e_int l) (.slice (some ⟨B, 0, none⟩) n n) := by
 obtain ⟨A, h1, h2, h3⟩ := h
 subst hl
 refine .inr ⟨rfl, some ⟨B, 0, none⟩, l.length, rfl, Nat.le_refl _, .inr ⟨B, 0, 1, A, _, _, rfl, by decide, hB, h1, fun i x hi => ⟨[.int .i64 x], rfl, rfl, fun j v hj => ?_⟩⟩⟩
 cases j with
 | succ j => simp at hj
 | zero =>
  have hj : Value.int .i64 x = v := by simpa using hj
  subst hj
  have hi' : i < l.length := (List.getElem?_eq_some_iff.1 hi).1
  rw [Nat.zero_add, Nat.mul_one, Nat.add_zero, h3 i hi', hf i x hi]
def WordS : SpecS := fun ys Φ => match ys with
 | [x_0] => ∃ (id : Int), ∃ (fr : Int), ∃ (n : Nat), ∃ (ws : List Win), ∃ (ns : List Win), x_0 = .agg [.int .i64 id, .int .i64 fr, .sl _ e_api_Window ws, .sl _ e_api_Need ns] /\ (fr = (n : Int) /\ n < 1099511627776 /\ ws.length < 4611686018427387904) /\ Φ [.sl _ e_int (wordW fr ws)]
 | _ => False
theorem WordS_inv {ys : List PV} {Φ : List PV -> Prop} (h : WordS ys Φ) : ∃ (id : Int) (fr : Int) (n : Nat) (ws : List Win) (ns : List Win), ys = [.agg [.int .i64 id, .int .i64 fr, .sl _ e_api_Window ws, .sl _ e_api_Need ns]] /\ (fr = (n : Int) /\ n < 1099511627776 /\ ws.length < 4611686018427387904) /\ Φ [.sl _ e_int (wordW fr ws)] := by
 unfold WordS at h
 split at h
 ·obtain ⟨a0, a1, a2, a3, a4, q0, hz⟩ := h
  subst q0
  exact ⟨a0, a1, a2, a3, a4, rfl, hz⟩
 ·exact h.elim
theorem fn_Word : FnOk Tryd.prog 24 Tryd.f24 (bodyOf Tryd.f24) := ⟨by kernel_rfl, by kernel_rfl, by kernel_rfl⟩
theorem ok_Word : FunS B 24 WordS := by
 refine funS_ofCalls (C := B) fn_Word ?_
 intro Z ys Φ hF w vs hZ hg hv
 obtain ⟨id, fr, n, ws, ns, rfl, ⟨rfl, hn, hl⟩, hk⟩ := WordS_inv hF
 obtain ⟨v, r, rfl, ⟨h1, h4⟩, h2⟩ := hv
 have hr : r = [] := h2
 subst hr
 cases v <;> simp [isAggV, PV.isAgg] at h4
 rename_i a
 obtain ⟨v0, r0, e0, _, g0, v1, r1, e1, _, g1, v2, r2, e2, _, g2, v3, r3, e3, ⟨_, o3⟩, g3, g4⟩ := h1
 have g0 : [v0] = [_] := g0
 have g1 : [v1] = [_] := g1
 have g4 : r3 = [] := g4
 obtain ⟨sa, cap, rfl, hI⟩ := wins_at g2
 simp at g0 g1
 subst g0 g1 g4 e3 e2 e1
 obtain rfl : a = #[.int .i64 id, .int .i64 (n : Int), .slice sa ws.length cap, v3] := by
  cases a; simpa [Value.cells] using e0
 refine (word_calls id n sa cap v3 ws hl hn w hI o3).mono ?_
 rintro e w' ⟨B, hB, rfl, hN, hb⟩
 refine ⟨_, _, rfl, hk, nums_rep (by rw [wordW_len]; simp) (fun j x hj => ?_) hN ?_, More.below rfl hb (Nat.le_refl _)⟩
 ·have hj' : j < (n : Int).toNat := by have := (List.getElem?_eq_some_iff.1 hj).1; rwa [wordW_len] at this
  rw [wordW_get _ _ hj'] at hj
  exact (by simpa using hj.symm)
 ·rintro (h | h)
  ·obtain ⟨o, x, h, _⟩ := h; simp at h
  ·have := hZ B h; omega
end Go.Ab.T
