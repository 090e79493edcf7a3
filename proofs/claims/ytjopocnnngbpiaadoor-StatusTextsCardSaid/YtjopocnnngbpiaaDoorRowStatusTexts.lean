/-
  A status's text is the document's, and is parsed as it was; whatever text is parsed is the text of just that status.
  There is no condition. The frame of the row follows the kit's worked example of a tied card.
-/
import Derived.Test.YtjopocnnngbpiaaDoorRows
import Derived.Test.YtjopocnnngbpiaaDoorCards
import Derived.Test.YtjopocnnngbpiaaDoorTie
import Derived.SevenTiedAt
import Derived.LaidLaws
import Derived.LaidHandle
import Derived.Stop.Joined
import Derived.ChangeVars
import Derived.WalkKit
import Derived.ProofKit
import Derived.OpenShut
import Derived.ShutString
import Derived.Carry
import Derived.ChangeSame
import Derived.JoinedOf
import Derived.RowKit
import Derived.RowKitTokens
import Derived.Stop.LaidErr
import Derived.Test.YtjopocnnngbpiaaDoorOp
import Derived.Test.YtjopocnnngbpiaaDoorLaw23b
set_option linter.unusedVariables false
set_option linter.unusedSimpArgs false
set_option linter.unusedSectionVars false
namespace Go.Proofs.YtjopocnnngbpiaaDoor.statusTexts
open Go.ChangeShapes Go.WideShapes Go.ChangeAt Go.RowKit Go.Ab Go.Ab.T
set_option linter.unusedVariables false
set_option maxRecDepth 100000
instance : DMode := ⟨false⟩
theorem own : ownKnob Tryd.prog.godebug = none := by kernel_rfl
theorem laidOut : laidOutB Tryd.prog = true := by kernel_rfl
def laid : List (String × DataW Unit) := [("math/bits.deBruijn32tab", Rows.laid_math_bits_deBruijn32tab), ("math/bits.deBruijn64tab", Rows.laid_math_bits_deBruijn64tab), ("internal/strconv.uint64pow10", Rows.laid_internal_strconv_uint64pow10), ("unicode/utf8.acceptRanges", Rows.laid_unicode_utf8_acceptRanges), ("errors.errorType", Rows.laid_errors_errorType), ("strconv.ErrRange", Rows.laid_strconv_ErrRange), ("strconv.ErrSyntax", Rows.laid_strconv_ErrSyntax), ("unicode/utf8.first", Rows.laid_unicode_utf8_first)]
def tabs : List (String × DataW Unit) := [("math/bits.deBruijn32tab", Rows.laid_math_bits_deBruijn32tab), ("math/bits.deBruijn64tab", Rows.laid_math_bits_deBruijn64tab), ("internal/strconv.uint64pow10", Rows.laid_internal_strconv_uint64pow10), ("unicode/utf8.acceptRanges", Rows.laid_unicode_utf8_acceptRanges), ("strconv.ErrRange", Rows.laid_strconv_ErrRange), ("strconv.ErrSyntax", Rows.laid_strconv_ErrSyntax), ("unicode/utf8.first", Rows.laid_unicode_utf8_first)]
theorem et : Tryd.prog.globalNamed "errors.errorType" = some 0 := by kernel_rfl
theorem rt : (Tryd.prog.cutTypes.find? (·.1 == "internal/reflectlite.rtype")).map (·.2) = some 98 := by kernel_rfl
theorem oneRow : ((List.range 167).filter fun t => Tryd.prog.rowNamed t [101, 114, 114, 111, 114]) = [28] := by kernel_rfl
theorem size : Tryd.prog.types.size = 167 := by kernel_rfl
theorem tabs_of_laid {W : World} (h : laidMetH Tryd.prog laid W) : laidMet Tryd.prog tabs W := by
  have h' : laidMet Tryd.prog tabs W ∧ handlesMet Tryd.prog (laid.filter fun x => x.2.handleName?.isSome) W := h
  exact h'.1
theorem at_errorType {W : World} (h : laidMetH Tryd.prog laid W) : GlobAt I (fun _ => False) W 0 (.iface 98 (.agg [.raw (.pointer (some ⟨9, 28, none⟩))])) := by
  have h' : laidMet Tryd.prog tabs W ∧ handlesMet Tryd.prog (laid.filter fun x => x.2.handleName?.isSome) W := h
  obtain ⟨name, u, ty, e1, e2, e3, e4, e5⟩ := h'.2 ("errors.errorType", Rows.laid_errors_errorType) (List.mem_filter.2 ⟨by simp [laid], rfl⟩)
  have en : name = [101, 114, 114, 111, 114] := (Option.some.inj e1).symm
  subst en
  obtain rfl := Option.some.inj (rt.symm.trans e2)
  have hm : ty ∈ (List.range 167).filter fun t => Tryd.prog.rowNamed t [101, 114, 114, 111, 114] := List.mem_filter.2 ⟨List.mem_range.2 (by rw [← size]; exact e3), e4⟩
  rw [oneRow] at hm
  obtain rfl := List.mem_singleton.1 hm
  have hh : typeHandle Tryd.prog 28 = .pointer (some ⟨9, 28, none⟩) := by kernel_rfl
  rw [hh] at e5
  obtain ⟨t, fr, hp⟩ := var_heap et e5
  exact globAt_of hp ⟨_, rfl, rfl, ⟨_, _, rfl, ⟨rfl, rfl⟩, ⟨rfl, rfl⟩, rfl⟩⟩ rfl
theorem only_es (u : TypeId) (hu : Tryd.prog.typeName? 3 u = some "*errors.errorString") : u = 129 :=
  typeName_ptr_named (nm := "errors.errorString") (by kernel_rfl) (by kernel_rfl) (by decide) u (hu.trans (by rfl))
theorem gn_ErrRange : Tryd.prog.globalNamed "strconv.ErrRange" = some 3 := by kernel_rfl
theorem at_ErrRange {W : World} (h : laidMetH Tryd.prog laid W) : ∃ x : Value, (∃ te pe, x = .iface te pe) ∧ GlobAt I (fun _ => False) W 3 (.raw x) := by
  have h' : laidMet Tryd.prog (tabs.drop 4) W := laid_tail (laid_tail (laid_tail (laid_tail (tabs_of_laid h))))
  obtain ⟨a, s, hv, _⟩ := laid_sentinel (ti := 28) (tp := 129) (te := 131) (ts := 9) h' gn_ErrRange (by kernel_rfl) Tryd.underlying28 (fun u hu => only_es u hu) Tryd.underlying129 Tryd.underlying131 rfl rfl Tryd.underlying9 (by kernel_rfl) (by kernel_rfl)
  obtain ⟨t, fr, hp⟩ := var_heap gn_ErrRange hv
  exact ⟨_, ⟨_, _, rfl⟩, globAt_of hp ⟨rfl, rfl⟩ rfl⟩
theorem gn_ErrSyntax : Tryd.prog.globalNamed "strconv.ErrSyntax" = some 2 := by kernel_rfl
theorem at_ErrSyntax {W : World} (h : laidMetH Tryd.prog laid W) : ∃ x : Value, (∃ te pe, x = .iface te pe) ∧ GlobAt I (fun _ => False) W 2 (.raw x) := by
  have h' : laidMet Tryd.prog (tabs.drop 5) W := laid_tail (laid_tail (laid_tail (laid_tail (laid_tail (tabs_of_laid h)))))
  obtain ⟨a, s, hv, _⟩ := laid_sentinel (ti := 28) (tp := 129) (te := 131) (ts := 9) h' gn_ErrSyntax (by kernel_rfl) Tryd.underlying28 (fun u hu => only_es u hu) Tryd.underlying129 Tryd.underlying131 rfl rfl Tryd.underlying9 (by kernel_rfl) (by kernel_rfl)
  obtain ⟨t, fr, hp⟩ := var_heap gn_ErrSyntax hv
  exact ⟨_, ⟨_, _, rfl⟩, globAt_of hp ⟨rfl, rfl⟩ rfl⟩
theorem gn_uint64pow10 : Tryd.prog.globalNamed "internal/strconv.uint64pow10" = some 1 := by kernel_rfl
theorem at_uint64pow10 {W : World} (h : laidMetH Tryd.prog laid W) : GlobAt I (fun _ => False) W 1 (tabPV .u64 [1, 10, 100, 1000, 10000, 100000, 1000000, 10000000, 100000000, 1000000000, 10000000000, 100000000000, 1000000000000, 10000000000000, 100000000000000, 1000000000000000, 10000000000000000, 100000000000000000, 1000000000000000000, 10000000000000000000]) := by
  have h' : laidMet Tryd.prog (tabs.drop 2) W := laid_tail (laid_tail (tabs_of_laid h))
  have hT : Lib.TabIs Tryd.prog W "internal/strconv.uint64pow10" .u64 [1, 10, 100, 1000, 10000, 100000, 1000000, 10000000, 100000000, 1000000000, 10000000000, 100000000000, 1000000000000, 10000000000000, 100000000000000, 1000000000000000, 10000000000000000, 100000000000000000, 1000000000000000000, 10000000000000000000] := Lib.tabIs_of_head (t := 115) (e := 22) (n := 20) gn_uint64pow10 (by kernel_rfl) (by kernel_rfl) (by kernel_rfl) (by kernel_rfl) (by kernel_rfl) h'
  obtain ⟨t, fr, hp⟩ := var_heap gn_uint64pow10 hT
  exact globAt_of hp (rep_tab _ _) rfl
def cellsOf (d : DataW Unit) : Array Value := match d with
  | .agg ps => (ps.flatMap fun x => match x with
    | .lit (.int k n) => [Value.int k n]
    | .agg qs => qs.map fun y => match y with
      | .lit (.int k n) => Value.int k n
      | _ => Value.bool false
    | _ => [Value.bool false]).toArray
  | _ => #[]
def textOf (d : DataW Unit) : ByteArray := match d with
  | .iface _ (.ptr (.agg [.lit (.string l)])) => ⟨l.toArray⟩
  | _ => ByteArray.empty
noncomputable def low : Nat := (World.holding Tryd.prog default ⟨#[], #[], []⟩).heap.size
noncomputable def laidWorld (os : Os) : World :=
  let w0 := World.holding Tryd.prog os ⟨#[.cells #[.string (textOf Rows.laid_strconv_ErrRange)] 131, .cells #[.string (textOf Rows.laid_strconv_ErrSyntax)] 131], #[], []⟩
  let w0 := { w0 with heap := w0.heap.modify 3 fun
      | .cells _ t frozen => .cells #[.iface 129 (.pointer (some ⟨low + 0, 0, none⟩))] t frozen
      | o => o }
  let w0 := { w0 with heap := w0.heap.modify 2 fun
      | .cells _ t frozen => .cells #[.iface 129 (.pointer (some ⟨low + 1, 0, none⟩))] t frozen
      | o => o }
  let w0 := { w0 with heap := w0.heap.modify 5 fun
      | .cells _ t frozen => .cells (cellsOf Rows.laid_math_bits_deBruijn32tab) t frozen
      | o => o }
  let w0 := { w0 with heap := w0.heap.modify 6 fun
      | .cells _ t frozen => .cells (cellsOf Rows.laid_math_bits_deBruijn64tab) t frozen
      | o => o }
  let w0 := { w0 with heap := w0.heap.modify 1 fun
      | .cells _ t frozen => .cells (cellsOf Rows.laid_internal_strconv_uint64pow10) t frozen
      | o => o }
  let w0 := { w0 with heap := w0.heap.modify 8 fun
      | .cells _ t frozen => .cells (cellsOf Rows.laid_unicode_utf8_acceptRanges) t frozen
      | o => o }
  let w0 := { w0 with heap := w0.heap.modify 7 fun
      | .cells _ t frozen => .cells (cellsOf Rows.laid_unicode_utf8_first) t frozen
      | o => o }
  let w0 := { w0 with heap := w0.heap.modify 0 fun
      | .cells _ t frozen => .cells #[.iface 98 (.agg #[.pointer (some ⟨9, 28, none⟩)])] t frozen
      | o => o }
  w0
theorem laidWorld_met (os : Os) (args : Array Value) : laidMetH Tryd.prog laid ((laidWorld os).forCall (fun _ _ => 0) ⟨#[], args, []⟩).memory :=
  laidMetH_of_parts (laidMet_of_run' 400 (by kernel_rfl) (by kernel_rfl)) (by kernel_rfl)
theorem globs {W : World} (h : laidMetH Tryd.prog laid W) : ∃ E : EV, GlobOk (@B E) (fun _ => False) W := by
  obtain ⟨xs, hxs, gs⟩ := at_ErrSyntax h
  obtain ⟨xr, hxr, gr⟩ := at_ErrRange h
  refine ⟨⟨xs, xr, hxs, hxr⟩, ?_⟩
  intro g x hx
  have hx : (match (generalizing := false) g with
    | 0 => some (.iface 98 (.agg [.raw (.pointer (some ⟨9, 28, none⟩))]))
    | 1 => some (tabPV .u64 [1, 10, 100, 1000, 10000, 100000, 1000000, 10000000, 100000000, 1000000000, 10000000000, 100000000000, 1000000000000, 10000000000000, 100000000000000, 1000000000000000, 10000000000000000, 100000000000000000, 1000000000000000000, 10000000000000000000])
    | 3 => some (.raw xr)
    | 2 => some (.raw xs)
    | _ => none) = some x := hx
  split at hx
  · cases hx; exact at_errorType h
  · cases hx; exact at_uint64pow10 h
  · cases hx; exact gr
  · cases hx; exact gs
  · cases hx
theorem walk [EV] (a0 : Int × Int × Int) (a1 : ByteArray) (h0 : g_o24 a0) (h1 : g_o9 a1) (w : World) (v0 v1 : Value) (hg : GlobOk B (fun _ => False) w) (r0 : RepF I NoM w (a_o24 a0) v0.cells.toList ∧ isAggV v0 = (a_o24 a0).isAgg) (r1 : RepF I NoM w (a_o9 a1) v1.cells.toList ∧ isAggV v1 = (a_o9 a1).isAgg) :
    Calls Tryd.prog 3 #[v0, v1] w fun e w' => e = .returned (.bool true) ∧ Below w.heap.size w w' := by
  have hF := pre_StatusTexts a0 a1 h0 h1
  exact law_walk (C := B) fn_StatusTexts ok_STx (ys := [a_o24 a0, a_o9 a1]) (vs := [v0, v1]) (w := w) hF hg ⟨_, _, rfl, r0, ⟨_, _, rfl, r1, rfl⟩⟩
theorem lifted (os : Os) (started : os.Started) (H : Type) (enc : TypeId × Value → H) :
    ReturnsInHanded {} Tryd.checked os 3 .any (fun w args => (Rows.statusTextsSpec.pre enc Tryd.prog Tryd.f3 [] false w args ∧ laidMetH Tryd.prog laid w) ∧ sizedMet enc Tryd.prog Tryd.f3 (OpenSpec.ofChange Rows.statusTextsSpec) false w args)
      (Rows.statusTextsSpec.post enc Tryd.prog Tryd.f3 false true false false) := by
  refine returnsInHanded_of_change_and (C := Tryd.checked) (X := fun w _ => laidMetH Tryd.prog laid w) (fun _ _ _ hh h => h.of_heap hh) own started (by kernel_rfl) Tryd.func3
    (ChangeSpec.witness_at (enc := enc) (C := Tryd.checked) (os := os) (X := fun w _ => laidMetH Tryd.prog laid w) false (laidWorld os) #[.agg #[.int .u64 0, .int .i64 0, .int .i64 0], .string ByteArray.empty] 8 rfl (by kernel_rfl) (by kernel_rfl) (by kernel_rfl) (by kernel_rfl) (by kernel_rfl) (laidWorld_met os _)) ?_
  intro W base args ds gs before hval0 hW _ _ hL _
  have hval : ∀ (j : Nat) t v, Tryd.f3.params[j]? = some t → args[j]? = some v → Value.okWide Tryd.prog W .any base t v := hval0
  have hW' := hW
  obtain ⟨p, q, hA0, hV, rfl, hfz, hnd⟩ := hW
  have hA : DataW.TrodAll enc Tryd.prog W 0 (fun _ => true) true Tryd.f3.params.toList args.toList ds p := hA0
  rw [Tryd.params3] at hA hval
  obtain ⟨v0, vs0, d0, ds0, p0, q0, hargs, rfl, rfl, h0, r0⟩ := trodAll_cons hA
  obtain ⟨v1, vs1, d1, ds1, p1, q1, rfl, rfl, rfl, h1, r1⟩ := trodAll_cons r0
  obtain ⟨rfl, rfl, rfl⟩ := trodAll_nil r1
  obtain rfl : args = #[v0, v1] := by cases args; simp_all
  obtain ⟨rfl, rfl⟩ := trodVars_none hV
  obtain ⟨a0, g0, x0⟩ := op_o24.arg aa_o24 ae_o24 (hval 0 24 v0 rfl rfl) h0
  obtain ⟨a1, g1, x1⟩ := op_o9.arg aa_o9 ae_o9 (hval 1 9 v1 rfl rfl) h1
  obtain ⟨E, hE⟩ := globs hL
  clear hA0 hval0
  refine (walk a0 a1 g0 g1 W v0 v1 hE x0 x1).mono fun e W' ⟨he, bel⟩ => ?_
  subst he
  exact ⟨_, rfl, _, _, _, [], _, [], hW', trodAll_mk1 (shut_bool Tryd.underlying4 _), (trodAll_cons_mk (Below.trod laidOut (by kernel_rfl) (of_decide_eq_true (by kernel_rfl)) h0 bel (fun x hx => hW'.lt x (by simp [hx]))) (trodAll_cons_mk (Below.trod laidOut (by kernel_rfl) (of_decide_eq_true (by kernel_rfl)) h1 bel (fun x hx => hW'.lt x (by simp [hx]))) trodAll_mk0)), rfl, bel.frame _, fun h => by cases h⟩

theorem over : Rows.statusTextsRow.holds Tryd.pinned (OpenSpec.ofChange Rows.statusTextsSpec) :=
  OpenClaim.holds_of_wide 3 Tryd.f3 rfl rfl rfl rfl rfl rfl rfl ⟨rfl, rfl, rfl, rfl, rfl⟩ rfl rfl rfl rfl rfl (by kernel_rfl) Tryd.func3 (by kernel_rfl)
    (of_decide_eq_true (by kernel_rfl)) (by unfold Func.isWrapper; first | (rw [if_pos (by decide +kernel)]; kernel_rfl) | (rw [if_neg (by decide +kernel)]; exact ⟨rfl, rfl⟩))
    (fun os started H enc _ => lifted os started H enc)

theorem proved : Rows.StatusTextsCardSaid :=
  Claim7.holds_tied_plain_at .later [] [.data, .data, .data, .data, .handle, .sentinel, .sentinel, .pinned] true (true, "5368e868cf9c5ccd4aa61be9f8f3d5722184b561b6257ed76273883ce55cd265") true
    over (fun _ h => by cases h) (by kernel_rfl) (fun _ h => by cases h) statusTexts_row_tie rfl ⟨rfl, rfl⟩ (by kernel_rfl) rfl
    (fun f fn hf hfn => by
      obtain rfl : f = 3 := (Option.some.inj ((show Tryd.prog.funcNamed "countwheel/countwheellaw23.StatusTexts" = some 3 by kernel_rfl).symm.trans hf)).symm
      obtain rfl : fn = Tryd.f3 := (Option.some.inj (Tryd.func3.symm.trans hfn)).symm
      exact ⟨by kernel_rfl, fun j t ht => by
        rw [Tryd.params3] at ht
        have all : ∀ t ∈ #[24, 9], Tryd.prog.wantsStandIn t = false := by
          intro t ht
          simp only [List.mem_toArray, List.mem_cons, List.not_mem_nil, or_false] at ht
          rcases ht with rfl | rfl <;> kernel_rfl
        exact all t (Array.mem_of_getElem? ht)⟩)
    (by kernel_rfl)
end Go.Proofs.YtjopocnnngbpiaaDoor.statusTexts
