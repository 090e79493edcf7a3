import Derived.Test.YtiemgkjmifpfcaaDoorAb25
import Derived.Laws.Strings
set_option linter.unusedVariables false
set_option linter.unusedSimpArgs false
namespace Go.Ab
open Go
variable {K : Codes} {C : Cfg K}

/-- A law's walk: it returns true, and of what was there nothing has turned. -/
theorem law_walk {g : FuncId} {fn : Func} {code : Code} {F : SpecS} (hfn : FnOk C.P g fn code) (hf : FunS C g F) {ys : List PV} {vs : List Value} {w : World} (hF : F ys fun rs => rs = [.bool true])
    (hg : GlobOk C (fun _ => False) w) (hv : RepFs C.I (fun _ => False) w ys vs) :
    Calls C.P g ⟨vs⟩ w (fun e w' => e = .returned (.bool true) ∧ Go.RowKit.Below w.heap.size w w') := by
  rcases hf (fun _ => False) ys _ hF w vs (fun _ h => h.elim) hg hv with ⟨g', args, h1, h2⟩ | ⟨v, w', h1, _⟩
  · rw [hfn.call] at h1
    simp only [Result.ok.injEq, Next.enter.injEq, and_true] at h1
    obtain ⟨rfl, rfl⟩ := h1
    refine h2.mono fun e w' he => ?_
    cases e with
    | returned v =>
      obtain ⟨rs, rfl, hr, hm⟩ := he
      have := repV_bool hr
      subst this
      exact ⟨rfl, hm.os, hm.tape, hm.output, hm.size, hm.keep⟩
    | panicked c => exact he.elim
    | outgrown => exact he.elim
  · rw [hfn.call] at h1
    cases h1
end Go.Ab
