import Derived.Test.YtiemgkjmifpfcaaDoorAb24
set_option linter.unusedVariables false
set_option linter.unusedSimpArgs false
namespace Go.Ab
open Go
variable {K : Codes} {C : Cfg K}

/-- A method of a type, found whatever stands in the value. -/
def MethOk (P : Program) (t : TypeId) (name : String) (g : FuncId) : Prop := ∀ v w, (method (P.types.size + Made.depth) t v name).run P w = .ok (g, v) w

theorem MethOk.call {P : Program} {t : TypeId} {name : String} {g : FuncId} (h : MethOk P t name g) (v : Value) (vs : List Value) (w : World) : (callMethod (.iface t v) name ⟨vs⟩).run P w = (callFunc g ⟨v :: vs⟩).run P w := by
  simp [callMethod, Result.andThen]
  rw [h v w]

/-- A method of errors, by the functions of the three kinds. -/
theorem funI_of {name : String} {gc gs gp : FuncId} (hc : MethOk C.P C.I.cls name gc) (hs : MethOk C.P C.I.sec name gs) (hp : MethOk C.P C.I.plc name gp) {F Fc Fs Fp : SpecS}
    (kc : FunS C gc Fc) (ks : FunS C gs Fs) (kp : FunS C gp Fp)
    (hF : ∀ e ys Φ, F (.err e :: ys) Φ → match e with
      | .nil => False
      | .cls k => Fc (.int .i64 k :: ys) Φ
      | .sec n e => Fs (.el (.agg [.int .i64 n, .err e]) 0 :: ys) Φ
      | .plc n e => Fp (.el (.agg [.int .i64 n, .err e]) 0 :: ys) Φ) : FunI C name F := by
  intro Z e ys Φ h w v vs hZ hg hv hvs
  have h := hF e ys Φ h
  have ptr : ∀ (b : Nat) (n : Int) (e : Err) (ve : Value) (t : TypeId) (fr : Nat × Nat), ¬ Z b → w.heap[b]? = some (.cells #[.int .i64 n, ve] t fr) → RepErr C.I Z w e ve →
      RepF C.I Z w (.el (.agg [.int .i64 n, .err e]) 0) [.pointer (some ⟨b, 0, none⟩)] := by
    intro b n e ve t fr h1 h2 h3
    refine ⟨b, 0, #[.int .i64 n, ve], t, fr, [.int .i64 n, ve], rfl, h1, h2, ?_, fun j v hj => by simpa using hj⟩
    exact ⟨_, _, rfl, ⟨rfl, rfl⟩, rfl, _, _, rfl, ⟨rfl, h3.one⟩, ⟨ve, rfl, h3⟩, rfl⟩
  cases e with
  | nil => exact h.elim
  | cls k =>
    simp only [RepErr] at hv
    subst hv
    exact Runs.of_eq (hc.call _ vs w) (kc Z _ Φ h w _ hZ hg ⟨_, _, rfl, ⟨rfl, rfl⟩, hvs⟩)
  | sec n e =>
    obtain ⟨b, ve, t, fr, rfl, h1, h2, h3⟩ := hv
    exact Runs.of_eq (hs.call _ vs w) (ks Z _ Φ h w _ hZ hg ⟨_, _, rfl, ⟨ptr b n e ve t fr h1 h2 h3, rfl⟩, hvs⟩)
  | plc n e =>
    obtain ⟨b, ve, t, fr, rfl, h1, h2, h3⟩ := hv
    exact Runs.of_eq (hp.call _ vs w) (kp Z _ Φ h w _ hZ hg ⟨_, _, rfl, ⟨ptr b n e ve t fr h1 h2 h3, rfl⟩, hvs⟩)
end Go.Ab
