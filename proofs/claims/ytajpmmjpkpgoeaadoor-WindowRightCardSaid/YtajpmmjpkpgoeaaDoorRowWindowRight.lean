/-
  Of right windows each tick is its window's; their lengths are the ticks that somebody has.
  There is no condition. The frame of the row follows the kit's worked example of a tied card.
-/
import Derived.Test.YtajpmmjpkpgoeaaDoorRows
import Derived.Test.YtajpmmjpkpgoeaaDoorCards
import Derived.Test.YtajpmmjpkpgoeaaDoorTie
import Derived.SevenTiedAt
import Derived.LaidLaws
import Derived.LaidHandle
import Derived.Stop.Joined
import Derived.ChangeVars
import Derived.WalkKit
import Derived.ProofKit
import Derived.OpenShut
import Derived.ShutString
import Derived.Carry
import Derived.ChangeSame
import Derived.JoinedOf
import Derived.RowKit
import Derived.RowKitTokens
import Derived.Test.YtajpmmjpkpgoeaaDoorOp
import Derived.Test.YtajpmmjpkpgoeaaDoorLawWR
set_option linter.unusedVariables false
set_option linter.unusedSimpArgs false
set_option linter.unusedSectionVars false
namespace Go.Proofs.YtajpmmjpkpgoeaaDoor.windowRight
open Go.ChangeShapes Go.WideShapes Go.ChangeAt Go.RowKit Go.Ab Go.Ab.T
set_option linter.unusedVariables false
set_option maxRecDepth 100000
instance : DMode := ⟨false⟩
theorem own : ownKnob Tryd.prog.godebug = none := by kernel_rfl
theorem laidOut : laidOutB Tryd.prog = true := by kernel_rfl
def laid : List (String × DataW Unit) := [("errors.errorType", Rows.laid_errors_errorType)]
def tabs : List (String × DataW Unit) := []
theorem et : Tryd.prog.globalNamed "errors.errorType" = some 0 := by kernel_rfl
theorem rt : (Tryd.prog.cutTypes.find? (·.1 == "internal/reflectlite.rtype")).map (·.2) = some 84 := by kernel_rfl
theorem oneRow : ((List.range 128).filter fun t => Tryd.prog.rowNamed t [101, 114, 114, 111, 114]) = [30] := by kernel_rfl
theorem size : Tryd.prog.types.size = 128 := by kernel_rfl
theorem tabs_of_laid {W : World} (h : laidMetH Tryd.prog laid W) : laidMet Tryd.prog tabs W := by
  have h' : laidMet Tryd.prog tabs W ∧ handlesMet Tryd.prog (laid.filter fun x => x.2.handleName?.isSome) W := h
  exact h'.1
theorem at_errorType {W : World} (h : laidMetH Tryd.prog laid W) : GlobAt I (fun _ => False) W 0 (.iface 84 (.agg [.raw (.pointer (some ⟨1, 30, none⟩))])) := by
  have h' : laidMet Tryd.prog tabs W ∧ handlesMet Tryd.prog (laid.filter fun x => x.2.handleName?.isSome) W := h
  obtain ⟨name, u, ty, e1, e2, e3, e4, e5⟩ := h'.2 ("errors.errorType", Rows.laid_errors_errorType) (List.mem_filter.2 ⟨by simp [laid], rfl⟩)
  have en : name = [101, 114, 114, 111, 114] := (Option.some.inj e1).symm
  subst en
  obtain rfl := Option.some.inj (rt.symm.trans e2)
  have hm : ty ∈ (List.range 128).filter fun t => Tryd.prog.rowNamed t [101, 114, 114, 111, 114] := List.mem_filter.2 ⟨List.mem_range.2 (by rw [← size]; exact e3), e4⟩
  rw [oneRow] at hm
  obtain rfl := List.mem_singleton.1 hm
  have hh : typeHandle Tryd.prog 30 = .pointer (some ⟨1, 30, none⟩) := by kernel_rfl
  rw [hh] at e5
  obtain ⟨t, fr, hp⟩ := var_heap et e5
  exact globAt_of hp ⟨_, rfl, rfl, ⟨_, _, rfl, ⟨rfl, rfl⟩, ⟨rfl, rfl⟩, rfl⟩⟩ rfl
noncomputable def laidWorld (os : Os) : World :=
  let w0 := World.holding Tryd.prog os ⟨#[], #[], []⟩
  let w0 := { w0 with heap := w0.heap.modify 0 fun
      | .cells _ t frozen => .cells #[.iface 84 (.agg #[.pointer (some ⟨1, 30, none⟩)])] t frozen
      | o => o }
  w0
theorem laidWorld_met (os : Os) (args : Array Value) : laidMetH Tryd.prog laid ((laidWorld os).forCall (fun _ _ => 0) ⟨#[], args, []⟩).memory :=
  laidMetH_of_parts (laidMet_nil _ _) (by kernel_rfl)
theorem globs {W : World} (h : laidMetH Tryd.prog laid W) : GlobOk B (fun _ => False) W := by
  intro g x hx
  have hx : (match (generalizing := false) g with
    | 0 => some (.iface 84 (.agg [.raw (.pointer (some ⟨1, 30, none⟩))]))
    | _ => none) = some x := hx
  split at hx
  · cases hx; exact at_errorType h
  · cases hx
theorem walk (a0 : Int × Int × (List (Int × Int × Int)) × (List (Int × Int × Int))) (a1 : List Int) (h0 : g_o25 a0) (h1 : g_o26 a1) (w : World) (v0 v1 : Value) (hg : GlobOk B (fun _ => False) w) (r0 : RepF I NoM w (a_o25 a0) v0.cells.toList ∧ isAggV v0 = (a_o25 a0).isAgg) (r1 : RepF I NoM w (a_o26 a1) v1.cells.toList ∧ isAggV v1 = (a_o26 a1).isAgg) :
    Calls Tryd.prog 3 #[v0, v1] w fun e w' => e = .returned (.bool true) ∧ Below w.heap.size w w' := by
  have hF := pre_WindowRight a0 a1 h0 h1
  exact law_walk (C := B) fn_WindowRight ok_WR (ys := [a_o25 a0, a_o26 a1]) (vs := [v0, v1]) (w := w) hF hg ⟨_, _, rfl, r0, ⟨_, _, rfl, r1, rfl⟩⟩
theorem lifted (os : Os) (started : os.Started) (H : Type) (enc : TypeId × Value → H) :
    ReturnsInHanded {} Tryd.checked os 3 .any (fun w args => (Rows.windowRightSpec.pre enc Tryd.prog Tryd.f3 [] false w args ∧ laidMetH Tryd.prog laid w) ∧ sizedMet enc Tryd.prog Tryd.f3 (OpenSpec.ofChange Rows.windowRightSpec) false w args)
      (Rows.windowRightSpec.post enc Tryd.prog Tryd.f3 false true false false) := by
  refine returnsInHanded_of_change_and (C := Tryd.checked) (X := fun w _ => laidMetH Tryd.prog laid w) (fun _ _ _ hh h => h.of_heap hh) own started (by kernel_rfl) Tryd.func3
    (ChangeSpec.witness_at (enc := enc) (C := Tryd.checked) (os := os) (X := fun w _ => laidMetH Tryd.prog laid w) false (laidWorld os) #[.agg #[.int .i64 0, .int .i64 0, .slice none 0 0, .slice none 0 0], .slice none 0 0] 8 rfl (by kernel_rfl) (by kernel_rfl) (by kernel_rfl) (by kernel_rfl) (by kernel_rfl) (laidWorld_met os _)) ?_
  intro W base args ds gs before hval0 hW _ hz hL _
  have hval : ∀ (j : Nat) t v, Tryd.f3.params[j]? = some t → args[j]? = some v → Value.okWide Tryd.prog W .any base t v := hval0
  have hW' := hW
  obtain ⟨p, q, hA0, hV, rfl, hfz, hnd⟩ := hW
  have hA : DataW.TrodAll enc Tryd.prog W 0 (fun _ => true) true Tryd.f3.params.toList args.toList ds p := hA0
  rw [Tryd.params3] at hA hval
  obtain ⟨v0, vs0, d0, ds0, p0, q0, hargs, rfl, rfl, h0, r0⟩ := trodAll_cons hA
  obtain ⟨v1, vs1, d1, ds1, p1, q1, rfl, rfl, rfl, h1, r1⟩ := trodAll_cons r0
  obtain ⟨rfl, rfl, rfl⟩ := trodAll_nil r1
  obtain rfl : args = #[v0, v1] := by cases args; simp_all
  obtain ⟨rfl, rfl⟩ := trodVars_none hV
  obtain ⟨a0, g0, x0⟩ := op_o25.arg aa_o25 ae_o25 (hval 0 25 v0 rfl rfl) h0 (each_get hz 0 25 d0 (by kernel_rfl) rfl)
  obtain ⟨a1, g1, x1⟩ := op_o26.arg aa_o26 ae_o26 (hval 1 26 v1 rfl rfl) h1 (each_get hz 1 26 d1 (by kernel_rfl) rfl)
  clear hA0 hval0
  refine (walk a0 a1 g0 g1 W v0 v1 (globs hL) x0 x1).mono fun e W' ⟨he, bel⟩ => ?_
  subst he
  exact ⟨_, rfl, _, _, _, [], _, [], hW', trodAll_mk1 (shut_bool Tryd.underlying4 _), (trodAll_cons_mk (Below.trod laidOut (by kernel_rfl) (of_decide_eq_true (by kernel_rfl)) h0 bel (fun x hx => hW'.lt x (by simp [hx]))) (trodAll_cons_mk (Below.trod laidOut (by kernel_rfl) (of_decide_eq_true (by kernel_rfl)) h1 bel (fun x hx => hW'.lt x (by simp [hx]))) trodAll_mk0)), rfl, bel.frame _, fun h => by cases h⟩
theorem over : Rows.windowRightRow.holds Tryd.pinned (OpenSpec.ofChange Rows.windowRightSpec) :=
  OpenClaim.holds_of_wide 3 Tryd.f3 rfl rfl rfl rfl rfl rfl rfl ⟨rfl, rfl, rfl, rfl, rfl⟩ rfl rfl rfl rfl rfl (by kernel_rfl) Tryd.func3 (by kernel_rfl)
    (of_decide_eq_true (by kernel_rfl)) (by unfold Func.isWrapper; first | (rw [if_pos (by decide +kernel)]; kernel_rfl) | (rw [if_neg (by decide +kernel)]; exact ⟨rfl, rfl⟩))
    (fun os started H enc _ => lifted os started H enc)
theorem proved : Rows.WindowRightCardSaid :=
  Claim7.holds_tied_plain_at .later [] [.handle] true (true, "c221a8a375bc8929add83b2c3151084837fa08dad3e141fc95b573d341953eb1") true
    over (fun _ h => by cases h) (by kernel_rfl) (fun _ h => by cases h) windowRight_row_tie rfl ⟨rfl, rfl⟩ (by kernel_rfl) rfl
    (fun f fn hf hfn => by
      obtain rfl : f = 3 := (Option.some.inj ((show Tryd.prog.funcNamed "countwheel/countwheellaw13.WindowRight" = some 3 by kernel_rfl).symm.trans hf)).symm
      obtain rfl : fn = Tryd.f3 := (Option.some.inj (Tryd.func3.symm.trans hfn)).symm
      exact ⟨by kernel_rfl, fun j t ht => by
        rw [Tryd.params3] at ht
        have all : ∀ t ∈ #[25, 26], Tryd.prog.wantsStandIn t = false := by
          intro t ht
          simp only [List.mem_toArray, List.mem_cons, List.not_mem_nil, or_false] at ht
          rcases ht with rfl | rfl <;> kernel_rfl
        exact all t (Array.mem_of_getElem? ht)⟩)
    (by kernel_rfl)
end Go.Proofs.YtajpmmjpkpgoeaaDoor.windowRight
