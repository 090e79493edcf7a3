import Derived.Test.YtiemgkjmifpfcaaDoorAb26
set_option linter.unusedVariables false
set_option linter.unusedSimpArgs false
namespace Go.Ab
open Go
variable {K : Codes} {C : Cfg K} {X : Nat → Prop} {N : Nat}

def envGo : Nat → Nat → List (Nat × PV) → List PV
  | 0, _, _ => []
  | n + 1, i, [] => .junk :: envGo n (i + 1) []
  | n + 1, i, (j, x) :: r => bif Nat.beq i j then x :: envGo n (i + 1) r else .junk :: envGo n (i + 1) ((j, x) :: r)
/-- Values of some slots; of the others nothing is known. -/
def envAt (n : Nat) (l : List (Nat × PV)) : List PV := envGo n 0 l

/-- evT_ok, where what is known of the places of loops is less. -/
theorem evT_ok2 (he : EnvOk C) (hmix : C.P.follows .mixedOrders = true) {f : Fun} {fn : Func} (hres : fn.results = ⟨f.res⟩) {L0 : Heap K} {η0 : Eta} {w0 : World} (hm : L0.length = f.m) {k : List PV → Heap K → Prop}
    {A : KA K} (hA : ∀ todo env L, A todo env L → AT C X N fn L0 η0 w0 k todo env L) :
    ∀ (n : Nat) (force : Bool) (todo : List AItem) (env : List PV) (L : Heap K), evT C f A k n force todo env L → AT C X N fn L0 η0 w0 k todo env L
  | 0, _, _, _, _, h => h.elim
  | n + 1, force, todo, env, L, h => by
    have ih := fun force todo env L => evT_ok2 he hmix hres (η0 := η0) (w0 := w0) hm (k := k) hA n force todo env L
    have cut : ∀ (id : Option Nat) (todo : List AItem), evCut f id todo env L A → AT C X N fn L0 η0 w0 k todo env L := by
      intro id todo h η w a hr hf
      unfold evCut at h
      rw [← hm] at h
      split at h
      · obtain ⟨env', L', η', h1, h2, h3⟩ := canon_env (mask_rel hr _) hf h
        exact hA _ _ _ h1 η' w a h2 h3
      · obtain ⟨env', L', η', h1, h2, h3⟩ := canon_env hr hf h
        exact hA _ _ _ h1 η' w a h2 h3
    have fin : ∀ η w a, evFin C f env L k → RelT C (sig C X) N env L η w a → FwdR L0 η0 w0 L η w → bodyPost C.P fn (ret (Fin C X L0 η0 w0 k)) .ret a w := fun η w a h hr hf => fin_ok he.cfg hres hm h hr hf
    unfold evT at h
    split at h
    · exact fun η w a hr hf => fin η w a h hr hf
    · exact fun η w a hr hf => ih _ _ _ _ h η w a hr hf
    · rename_i c r
      intro η w a hr hf
      show c.wp C.P (postT C.P (bodyPost C.P fn (ret (Fin C X L0 η0 w0 k))) r) a w
      split at h
      · exact wp_skip (ih _ _ _ _ h η w a hr hf)
      · exact wp_seq (ih _ _ _ _ h η w a hr hf)
      · rename_i x p q
        split at h
        · rename_i t hx
          obtain ⟨hv, hce⟩ := cond_rel hr hx
          refine wp_cond_split hv ?_ ?_
          · intro ht; subst ht
            rw [hce] at h
            exact ih _ _ _ _ h η w a hr hf
          · intro ht; subst ht
            rw [hce] at h
            exact ih _ _ _ _ h η w a hr hf
        · exact h.elim
      · exact wp_block (ih _ _ _ _ h η w a hr hf)
      · split at h
        · exact wp_loop_once (postT_goto r) (postT_out r) (ih _ _ _ _ h η w a hr hf)
        · exact cut _ _ h η w a hr hf
      · split at h
        · rename_i r' hex
          exact wp_exit (postT_exit r r' a w hex (ih _ _ _ _ h η w a hr hf))
        · exact h.elim
      · exact wp_ret (postT_ret r a w (fin η w a h hr hf))
      · split at h
        · exact cut _ _ h η w a hr hf
        · exact evRegion_ok (L0 := L0) (η0 := η0) (w0 := w0) he hmix (postT_panic post_panic r) (fun env' L' η' w' a' h' hr' hf' => ih _ _ _ _ h' η' w' a' hr' hf') h hr hf
      · exact h.elim

/-- What evT shows of a place holds there. -/
def Closed (C : Cfg K) (f : Fun) (k : List PV → Heap K → Prop) (A : KA K) : Prop := ∀ (n : Nat) (force : Bool) (todo : List AItem) (env : List PV) (L : Heap K), evT C f A k n force todo env L → A todo env L

theorem funF_of (he : EnvOk C) (hmix : C.P.follows .mixedOrders = true) {g : FuncId} {fn : Func} {code : Code} (hfn : FnOk C.P g fn code) (hN : Nat.beq fn.ntmps N = true) {f : Fun} (hres : fn.results = ⟨f.res⟩)
    {F : List PV → Heap K → (List PV → Heap K → Prop) → Prop}
    (h : ∀ (A : KA K) (k : List PV → Heap K → Prop) (ys : List PV) (L : Heap K), Closed C f k A → F ys L k → Nat.ble ys.length N = true ∧ A [.code code] (startEnv N ys) L) : FunF C g f.m F := by
  refine fun_ok (N := N) hfn (Nat.eq_of_beq_eq_true hN) ?_
  intro X L0 η0 w0 k ys hL hF
  obtain ⟨h1, h2⟩ := h (AT C X N fn L0 η0 w0 k) k ys L0 (fun n force todo env L h => evT_ok he hmix hres hL n force todo env L h) hF
  exact ⟨Nat.le_of_ble_eq_true h1, h2⟩

theorem funS_of (he : EnvOk C) (hmix : C.P.follows .mixedOrders = true) {g : FuncId} {fn : Func} {code : Code} (hfn : FnOk C.P g fn code) (hN : Nat.beq fn.ntmps N = true) {f : Fun} (hres : fn.results = ⟨f.res⟩) (hm0 : f.m = 0)
    {F : SpecS} (hm : MonoS F)
    (h : ∀ (A : KA K) (k : List PV → Heap K → Prop) (ys : List PV), Closed C f k A → F ys (fun rs => k rs []) → Nat.ble ys.length N = true ∧ A [.code code] (startEnv N ys) []) : FunS C g F := by
  refine pure_fun hm ?_
  rw [← hm0]
  refine funF_of he hmix hfn hN hres ?_
  rintro A k ys L hA ⟨rfl, hF⟩
  exact h A k ys hA hF

/-- A function with a result (under a condition) for each list of arguments. -/
def specOf (f : List PV → Option (Prop × List PV)) : SpecS := fun ys Φ => match f ys with
  | some (p, rs) => p ∧ Φ rs
  | none => False
theorem specOf_mono (f : List PV → Option (Prop × List PV)) : MonoS (specOf f) := by
  intro ys Φ Ψ h hF
  unfold specOf at hF ⊢
  split at hF
  · exact ⟨hF.1, h _ hF.2⟩
  · exact hF.elim
/-- A function with a result for each list of arguments. -/
def specT (f : List PV → Option (List PV)) : SpecS := fun ys Φ => match f ys with
  | some rs => Φ rs
  | none => False
theorem specT_mono (f : List PV → Option (List PV)) : MonoS (specT f) := by
  intro ys Φ Ψ h hF
  unfold specT at hF ⊢
  split at hF
  · exact h _ hF
  · exact hF.elim
/-- A function whose arguments are told by data. -/
def specE {P : Type 1} (args : P → List PV) (pre : P → Prop) (res : P → List PV) : SpecS := fun ys Φ => ∃ p, ys = args p ∧ pre p ∧ Φ (res p)
theorem specE_mono {P : Type 1} (args : P → List PV) (pre : P → Prop) (res : P → List PV) : MonoS (specE args pre res) := by
  rintro ys Φ Ψ h ⟨p, h1, h2, h3⟩
  exact ⟨p, h1, h2, h _ h3⟩
/-- A function whose arguments, and heap, are told by data. -/
def specH {P : Type 1} (args : P → List PV × Heap K) (pre : P → Prop) (res : P → List PV × Heap K) : List PV → Heap K → (List PV → Heap K → Prop) → Prop :=
  fun ys L k => ∃ p, (ys, L) = args p ∧ pre p ∧ k (res p).1 (res p).2
theorem wrap_id (n : Int) (h0 : -9223372036854775808 ≤ n) (h1 : n ≤ 9223372036854775807) : IntKind.i64.wrap n = n := by
  unfold IntKind.wrap
  simp [IntKind.bits, IntKind.signed]
  omega
end Go.Ab
