/-
  Any module's bytes are the document's, and are decoded as it was, or what is wrong is told.
  There is no condition. The frame of the row follows the kit's worked example of a tied card.
-/
import Derived.Test.YthfagophoncabaaGreatDoorRows
import Derived.Test.YthfagophoncabaaGreatDoorCards
import Derived.Test.YthfagophoncabaaGreatDoorTie
import Derived.SevenTiedAt
import Derived.LaidLaws
import Derived.LaidHandle
import Derived.Stop.Joined
import Derived.ChangeVars
import Derived.WalkKit
import Derived.ProofKit
import Derived.OpenShut
import Derived.ShutString
import Derived.Carry
import Derived.ChangeSame
import Derived.JoinedOf
import Derived.RowKit
import Derived.RowKitTokens
import Derived.Test.YthfagophoncabaaGreatDoorOp
import Derived.Test.YthfagophoncabaaGreatDoorLaw12c
set_option linter.unusedVariables false
set_option linter.unusedSimpArgs false
set_option linter.unusedSectionVars false
namespace Go.Proofs.YthfagophoncabaaGreatDoor.imageEncodes
open Go.ChangeShapes Go.WideShapes Go.ChangeAt Go.RowKit Go.Ab Go.Ab.T
set_option linter.unusedVariables false
set_option maxRecDepth 100000
instance : DMode := ⟨false⟩
theorem own : ownKnob Tryz.prog.godebug = none := by kernel_rfl
theorem laidOut : laidOutB Tryz.prog = true := by kernel_rfl
def laid : List (String × DataW Unit) := [("errors.errorType", Rows.laid_errors_errorType)]
def tabs : List (String × DataW Unit) := []
theorem et : Tryz.prog.globalNamed "errors.errorType" = some 0 := by kernel_rfl
theorem rt : (Tryz.prog.cutTypes.find? (·.1 == "internal/reflectlite.rtype")).map (·.2) = some 238 := by kernel_rfl
theorem oneRow : ((List.range 302).filter fun t => Tryz.prog.rowNamed t [101, 114, 114, 111, 114]) = [39] := by kernel_rfl
theorem size : Tryz.prog.types.size = 302 := by kernel_rfl
theorem tabs_of_laid {W : World} (h : laidMetH Tryz.prog laid W) : laidMet Tryz.prog tabs W := by
  have h' : laidMet Tryz.prog tabs W ∧ handlesMet Tryz.prog (laid.filter fun x => x.2.handleName?.isSome) W := h
  exact h'.1
theorem at_errorType {W : World} (h : laidMetH Tryz.prog laid W) : GlobAt I (fun _ => False) W 0 (.iface 238 (.agg [.raw (.pointer (some ⟨1, 39, none⟩))])) := by
  have h' : laidMet Tryz.prog tabs W ∧ handlesMet Tryz.prog (laid.filter fun x => x.2.handleName?.isSome) W := h
  obtain ⟨name, u, ty, e1, e2, e3, e4, e5⟩ := h'.2 ("errors.errorType", Rows.laid_errors_errorType) (List.mem_filter.2 ⟨by simp [laid], rfl⟩)
  have en : name = [101, 114, 114, 111, 114] := (Option.some.inj e1).symm
  subst en
  obtain rfl := Option.some.inj (rt.symm.trans e2)
  have hm : ty ∈ (List.range 302).filter fun t => Tryz.prog.rowNamed t [101, 114, 114, 111, 114] := List.mem_filter.2 ⟨List.mem_range.2 (by rw [← size]; exact e3), e4⟩
  rw [oneRow] at hm
  obtain rfl := List.mem_singleton.1 hm
  have hh : typeHandle Tryz.prog 39 = .pointer (some ⟨1, 39, none⟩) := by kernel_rfl
  rw [hh] at e5
  obtain ⟨t, fr, hp⟩ := var_heap et e5
  exact globAt_of hp ⟨_, rfl, rfl, ⟨_, _, rfl, ⟨rfl, rfl⟩, ⟨rfl, rfl⟩, rfl⟩⟩ rfl
noncomputable def laidWorld (os : Os) : World :=
  let w0 := World.holding Tryz.prog os ⟨#[], #[], []⟩
  let w0 := { w0 with heap := w0.heap.modify 0 fun
      | .cells _ t frozen => .cells #[.iface 238 (.agg #[.pointer (some ⟨1, 39, none⟩)])] t frozen
      | o => o }
  w0
theorem laidWorld_met (os : Os) (args : Array Value) : laidMetH Tryz.prog laid ((laidWorld os).forCall (fun _ _ => 0) ⟨#[], args, []⟩).memory :=
  laidMetH_of_parts (laidMet_nil _ _) (by kernel_rfl)
theorem globs {W : World} (h : laidMetH Tryz.prog laid W) : GlobOk B (fun _ => False) W := by
  intro g x hx
  have hx : (match (generalizing := false) g with
    | 0 => some (.iface 238 (.agg [.raw (.pointer (some ⟨1, 39, none⟩))]))
    | _ => none) = some x := hx
  split at hx
  · cases hx; exact at_errorType h
  · cases hx
theorem walk (a0 : Int × Int × (List (Int × ByteArray × Bool × (List (Int × Bool)))) × (List (Int × Int × (List (Int × Int × Int)) × (List (Int × Int × Int)))) × (List (Int × Int)) × (List (Int × Int × Int))) (a1 : Int × Int × (List (Int × ByteArray × Bool × (List (Int × Bool)))) × (List (Int × Int × (List (Int × Int × Int)) × (List (Int × Int × Int)))) × (List (Int × Int)) × (List (Int × Int × Int))) (h0 : g_o28 a0) (h1 : g_o28 a1) (w : World) (v0 v1 : Value) (hg : GlobOk B (fun _ => False) w) (r0 : RepF I NoM w (a_o28 a0) v0.cells.toList ∧ isAggV v0 = (a_o28 a0).isAgg) (r1 : RepF I NoM w (a_o28 a1) v1.cells.toList ∧ isAggV v1 = (a_o28 a1).isAgg) :
    Calls Tryz.prog 5 #[v0, v1] w fun e w' => e = .returned (.bool true) ∧ Below w.heap.size w w' := by
  have hF := pre_ImageEncodes a0 a1 h0 h1
  exact law_walk (C := B) fn_ImageEncodes ok_IE (ys := [a_o28 a0, a_o28 a1]) (vs := [v0, v1]) (w := w) hF hg ⟨_, _, rfl, r0, ⟨_, _, rfl, r1, rfl⟩⟩
theorem lifted (os : Os) (started : os.Started) (H : Type) (enc : TypeId × Value → H) :
    ReturnsInHanded {} Tryz.checked os 5 .any (fun w args => (Rows.imageEncodesSpec.pre enc Tryz.prog Tryz.f5 [] false w args ∧ laidMetH Tryz.prog laid w) ∧ sizedMet enc Tryz.prog Tryz.f5 (OpenSpec.ofChange Rows.imageEncodesSpec) false w args)
      (Rows.imageEncodesSpec.post enc Tryz.prog Tryz.f5 false true false false) := by
  refine returnsInHanded_of_change_and (C := Tryz.checked) (X := fun w _ => laidMetH Tryz.prog laid w) (fun _ _ _ hh h => h.of_heap hh) own started (by kernel_rfl) Tryz.func5
    (ChangeSpec.witness_at (enc := enc) (C := Tryz.checked) (os := os) (X := fun w _ => laidMetH Tryz.prog laid w) false (laidWorld os) #[.agg #[.int .u64 0, .int .i64 0, .slice none 0 0, .slice none 0 0, .slice none 0 0, .slice none 0 0], .agg #[.int .u64 0, .int .i64 0, .slice none 0 0, .slice none 0 0, .slice none 0 0, .slice none 0 0]] 8 rfl (by kernel_rfl) (by kernel_rfl) (by kernel_rfl) (by kernel_rfl) (by kernel_rfl) (laidWorld_met os _)) ?_
  intro W base args ds gs before hval0 hW _ hz hL _
  have hval : ∀ (j : Nat) t v, Tryz.f5.params[j]? = some t → args[j]? = some v → Value.okWide Tryz.prog W .any base t v := hval0
  have hW' := hW
  obtain ⟨p, q, hA0, hV, rfl, hfz, hnd⟩ := hW
  have hA : DataW.TrodAll enc Tryz.prog W 0 (fun _ => true) true Tryz.f5.params.toList args.toList ds p := hA0
  rw [Tryz.params5] at hA hval
  obtain ⟨v0, vs0, d0, ds0, p0, q0, hargs, rfl, rfl, h0, r0⟩ := trodAll_cons hA
  obtain ⟨v1, vs1, d1, ds1, p1, q1, rfl, rfl, rfl, h1, r1⟩ := trodAll_cons r0
  obtain ⟨rfl, rfl, rfl⟩ := trodAll_nil r1
  obtain rfl : args = #[v0, v1] := by cases args; simp_all
  obtain ⟨rfl, rfl⟩ := trodVars_none hV
  obtain ⟨a0, g0, x0⟩ := op_o28.arg aa_o28 ae_o28 (hval 0 28 v0 rfl rfl) h0 (each_get hz 0 28 d0 (by kernel_rfl) rfl)
  obtain ⟨a1, g1, x1⟩ := op_o28.arg aa_o28 ae_o28 (hval 1 28 v1 rfl rfl) h1 (each_get hz 1 28 d1 (by kernel_rfl) rfl)
  clear hA0 hval0
  refine (walk a0 a1 g0 g1 W v0 v1 (globs hL) x0 x1).mono fun e W' ⟨he, bel⟩ => ?_
  subst he
  exact ⟨_, rfl, _, _, _, [], _, [], hW', trodAll_mk1 (shut_bool Tryz.underlying4 _), (trodAll_cons_mk (Below.trod laidOut (by kernel_rfl) (of_decide_eq_true (by kernel_rfl)) h0 bel (fun x hx => hW'.lt x (by simp [hx]))) (trodAll_cons_mk (Below.trod laidOut (by kernel_rfl) (of_decide_eq_true (by kernel_rfl)) h1 bel (fun x hx => hW'.lt x (by simp [hx]))) trodAll_mk0)), rfl, bel.frame _, fun h => by cases h⟩
theorem over : Rows.imageEncodesRow.holds Tryz.pinned (OpenSpec.ofChange Rows.imageEncodesSpec) :=
  OpenClaim.holds_of_wide 5 Tryz.f5 rfl rfl rfl rfl rfl rfl rfl ⟨rfl, rfl, rfl, rfl, rfl⟩ rfl rfl rfl rfl rfl (by kernel_rfl) Tryz.func5 (by kernel_rfl)
    (of_decide_eq_true (by kernel_rfl)) (by unfold Func.isWrapper; first | (rw [if_pos (by decide +kernel)]; kernel_rfl) | (rw [if_neg (by decide +kernel)]; exact ⟨rfl, rfl⟩))
    (fun os started H enc _ => lifted os started H enc)
theorem proved : Rows.ImageEncodesCardSaid :=
  Claim7.holds_tied_plain_at .later [] [.handle] true (true, "3cbed1efee02425c720beb66df23e287b24d7ac038164317934f804c5e636478") true
    over (fun _ h => by cases h) (by kernel_rfl) (fun _ h => by cases h) imageEncodes_row_tie rfl ⟨rfl, rfl⟩ (by kernel_rfl) rfl
    (fun f fn hf hfn => by
      obtain rfl : f = 5 := (Option.some.inj ((show Tryz.prog.funcNamed "countwheel/countwheellaw12.ImageEncodes" = some 5 by kernel_rfl).symm.trans hf)).symm
      obtain rfl : fn = Tryz.f5 := (Option.some.inj (Tryz.func5.symm.trans hfn)).symm
      exact ⟨by kernel_rfl, fun j t ht => by
        rw [Tryz.params5] at ht
        have all : ∀ t ∈ #[28, 28], Tryz.prog.wantsStandIn t = false := by
          intro t ht
          simp only [List.mem_toArray, List.mem_cons, List.not_mem_nil, or_false] at ht
          rcases ht with rfl | rfl <;> kernel_rfl
        exact all t (Array.mem_of_getElem? ht)⟩)
    (by kernel_rfl)
end Go.Proofs.YthfagophoncabaaGreatDoor.imageEncodes
