import Derived.Test.YtiemgkjmifpfcaaDoorAs2
import Derived.Test.YtiemgkjmifpfcaaDoorWindow
import Derived.Test.YtiemgkjmifpfcaaDoorOp
set_option linter.unusedVariables false
set_option linter.unusedSimpArgs false
namespace Go.Ab.T
open Go Go.Ab Go.Proofs
set_option maxRecDepth 100000
noncomputable def CW := base (fun g => match g with | 93 => some (lift 0 namesF) | 86 => some (lift 0 namesF) | _ => none) (fun g => match g with | 14 => some ofS | 70 => some nameS | 80 => some nameS | 45 => some newS | 47 => some atS | 79 => some inS | 87 => some idxIS | 71 => some hasIS | 44 => some hasIS | 72 => some fitsS | 46 => some wrongS | 13 => some CheckS | 12 => some rCheckS | _ => none) (fun _ => none)
theorem env_CW : EnvOk CW := env_of (by
    intro g F h
    split at h
    · cases h; exact of_ok
    · cases h; exact ok_Name
    · cases h; exact ok_rName
    · cases h; exact ok_New
    · cases h; exact ok_At
    · cases h; exact ok_In
    · cases h; exact ok_idxI
    · cases h; exact ok_cont
    · cases h; exact ok_rin
    · cases h; exact ok_fits
    · cases h; exact ok_wrong
    · cases h; exact ok_Check
    · cases h; exact ok_rCheck
    · cases h) (by
    intro g F h
    split at h
    · cases h; exact (lift_ok ok_rnames)
    · cases h; exact (lift_ok ok_names)
    · cases h) (fun g F h => (by cases h))
def trueS : SpecS := fun ys Φ => match ys with
  | [] => Φ [.bool true]
  | _ => False
theorem trueS_mono : MonoS trueS := by
  intro ys Φ Ψ h hF
  unfold trueS at hF ⊢
  split at hF
  · exact h _ hF
  · exact hF.elim
theorem trueS_inv {ys : List PV} {Φ : List PV → Prop} (h : trueS ys Φ) : ys = [] ∧ Φ [.bool true] := by
  unfold trueS at h
  split at h
  · exact ⟨rfl, h⟩
  · exact h.elim
theorem fn_awake13 : FnOk Tryd.prog 11 Tryd.f11 (bodyOf Tryd.f11) := ⟨by kernel_rfl, by kernel_rfl, by kernel_rfl⟩
noncomputable def ff_awake13 : Fun := ⟨Tryd.f11.ntmps, 0, Tryd.f11.results.toList, fun _ => none, fun _ => false, fun _ => []⟩
theorem nf_awake13 (A : KA Kd) (k : List PV → Heap Kd → Prop)  : evT CW ff_awake13 A k 400 false [.code (bodyOf Tryd.f11)] (startEnv 12 []) [] =
    (∃ (zs : List (Int × Int × Int)),
  List.map e_api_Window zs =
      [PV.agg [PV.int IntKind.i64 0, PV.int IntKind.i64 0, PV.int IntKind.i64 4],
        PV.agg [PV.int IntKind.i64 0, PV.int IntKind.i64 3, PV.int IntKind.i64 2]] ∧
    ∃ (zs_1 : List Int),
      List.map e_int zs_1 = [PV.int IntKind.i64 0] ∧
        ∃ (id : Int),
          ∃ (fr : Int),
            ∃ (ws : List Win),
              ∃ (ns : List Win),
                ∃ (ids : List Int),
                  PV.agg
                        [PV.int IntKind.i64 0, PV.int IntKind.i64 10, PV.sl (Int × Int × Int) e_api_Window zs,
                          PV.sl (Int × Int × Int) e_api_Need []] =
                      PV.agg
                        [PV.int IntKind.i64 id, PV.int IntKind.i64 fr, PV.sl (Int × Int × Int) e_api_Window ws,
                          PV.sl (Int × Int × Int) e_api_Need ns] ∧
                    PV.sl Int e_int zs_1 = PV.sl Int e_int ids ∧
                      (ids.length < 4611686018427387904 ∧ ws.length < 4611686018427387904) ∧
                        k
                          [PV.bool
                              ((ofE (errW (chkW fr ids (0, 0, 0) ws 0))).fst == 12 &&
                                ((ofE (errW (chkW fr ids (0, 0, 0) ws 0))).snd.fst == 0 &&
                                  ((ofE (errW (chkW fr ids (0, 0, 0) ws 0))).snd.snd == 1 && true)))]
                          []) := by kernel_rfl
theorem ok_awake13 : FunS B 11 trueS := by
  refine funS_of (N := 12) (f := ff_awake13) env_CW mixed fn_awake13 (by kernel_rfl) rfl rfl trueS_mono ?_
  intro A k ys hA hF
  obtain ⟨rfl, hk⟩ := trueS_inv hF; clear hF
  refine ⟨by kernel_rfl, hA 400 false _ _ _ (by_nf (nf_awake13 A k) ?_)⟩
  exact ⟨[(0, 0, 4), (0, 3, 2)], rfl, [0], rfl, 0, 10, _, [], _, rfl, rfl, ⟨by decide, by decide⟩, hk⟩
noncomputable def CW2 := base (fun g => match g with | 93 => some (lift 0 namesF) | 86 => some (lift 0 namesF) | _ => none) (fun g => match g with | 14 => some ofS | 70 => some nameS | 80 => some nameS | 45 => some newS | 47 => some atS | 79 => some inS | 87 => some idxIS | 71 => some hasIS | 44 => some hasIS | 72 => some fitsS | 46 => some wrongS | 13 => some CheckS | 12 => some rCheckS | 11 => some trueS | _ => none) (fun _ => none)
theorem env_CW2 : EnvOk CW2 := env_of (by
    intro g F h
    split at h
    · cases h; exact of_ok
    · cases h; exact ok_Name
    · cases h; exact ok_rName
    · cases h; exact ok_New
    · cases h; exact ok_At
    · cases h; exact ok_In
    · cases h; exact ok_idxI
    · cases h; exact ok_cont
    · cases h; exact ok_rin
    · cases h; exact ok_fits
    · cases h; exact ok_wrong
    · cases h; exact ok_Check
    · cases h; exact ok_rCheck
    · cases h; exact ok_awake13
    · cases h) (by
    intro g F h
    split at h
    · cases h; exact (lift_ok ok_rnames)
    · cases h; exact (lift_ok ok_names)
    · cases h) (fun g F h => (by cases h))
theorem fn_WindowChecks : FnOk Tryd.prog 3 Tryd.f3 (bodyOf Tryd.f3) := ⟨by kernel_rfl, by kernel_rfl, by kernel_rfl⟩
noncomputable def ff_WindowChecks : Fun := ⟨Tryd.f3.ntmps, 0, Tryd.f3.results.toList, fun _ => none, fun _ => false, fun _ => []⟩
theorem nf_WC (A : KA Kd) (k : List PV → Heap Kd → Prop) (id fr : Int) (ws : List Win) (ns : List Win) (ids : List Int) : evT CW2 ff_WindowChecks A k 400 false [.code (bodyOf Tryd.f3)] (startEnv 48 [.agg [.int .i64 id, .int .i64 fr, .sl _ e_api_Window ws, .sl _ e_api_Need ns], .sl _ e_int ids]) [] =
    (bif decide ((↑ws.length : Int) > 300) then k [PV.bool true] []
else
  bif decide ((↑ids.length : Int) > 60) then k [PV.bool true] []
  else
    ∃ (id_1 : Int),
      ∃ (fr_1 : Int),
        ∃ (ws_1 : List Win),
          ∃ (ns_1 : List Win),
            ∃ (ids_1 : List Int),
              PV.agg
                    [PV.int IntKind.i64 id, PV.int IntKind.i64 fr, PV.sl (Int × Int × Int) e_api_Window ws,
                      PV.sl (Int × Int × Int) e_api_Need ns] =
                  PV.agg
                    [PV.int IntKind.i64 id_1, PV.int IntKind.i64 fr_1, PV.sl (Int × Int × Int) e_api_Window ws_1,
                      PV.sl (Int × Int × Int) e_api_Need ns_1] ∧
                PV.sl Int e_int ids = PV.sl Int e_int ids_1 ∧
                  (ids_1.length < 4611686018427387904 ∧ ws_1.length < 4611686018427387904) ∧
                    ∃ (id_2 : Int),
                      ∃ (fr_2 : Int),
                        ∃ (ws_2 : List Win),
                          ∃ (ns_2 : List Win),
                            ∃ (ids_2 : List Int),
                              PV.agg
                                    [PV.int IntKind.i64 id, PV.int IntKind.i64 fr,
                                      PV.sl (Int × Int × Int) e_api_Window ws, PV.sl (Int × Int × Int) e_api_Need ns] =
                                  PV.agg
                                    [PV.int IntKind.i64 id_2, PV.int IntKind.i64 fr_2,
                                      PV.sl (Int × Int × Int) e_api_Window ws_2,
                                      PV.sl (Int × Int × Int) e_api_Need ns_2] ∧
                                PV.sl Int e_int ids = PV.sl Int e_int ids_2 ∧
                                  (ids_2.length < 4611686018427387904 ∧ ws_2.length < 4611686018427387904) ∧
                                    bif (chkW fr_1 ids_1 (0, 0, 0) ws_1 0).snd != 0 then
                                      bif
                                          (ofE (errW (chkW fr_2 ids_2 (0, 0, 0) ws_2 0))).fst ==
                                              (chkW fr_1 ids_1 (0, 0, 0) ws_1 0).snd &&
                                            ((ofE (errW (chkW fr_2 ids_2 (0, 0, 0) ws_2 0))).snd.fst == 0 &&
                                              ((ofE (errW (chkW fr_2 ids_2 (0, 0, 0) ws_2 0))).snd.snd ==
                                                  (chkW fr_1 ids_1 (0, 0, 0) ws_1 0).fst &&
                                                true)) then
                                        bif
                                            (errW (chkW fr_2 ids_2 (0, 0, 0) ws_2 0)).isNil ==
                                              ((chkW fr_1 ids_1 (0, 0, 0) ws_1 0).snd == 0) then
                                          k [PV.bool true] []
                                        else k [PV.bool false] []
                                      else k [PV.bool false] []
                                    else
                                      bif
                                          (ofE (errW (chkW fr_2 ids_2 (0, 0, 0) ws_2 0))).fst == 0 &&
                                            ((ofE (errW (chkW fr_2 ids_2 (0, 0, 0) ws_2 0))).snd.fst == 0 &&
                                              ((ofE (errW (chkW fr_2 ids_2 (0, 0, 0) ws_2 0))).snd.snd == 0 &&
                                                true)) then
                                        bif
                                            (errW (chkW fr_2 ids_2 (0, 0, 0) ws_2 0)).isNil ==
                                              ((chkW fr_1 ids_1 (0, 0, 0) ws_1 0).snd == 0) then
                                          k [PV.bool true] []
                                        else k [PV.bool false] []
                                      else k [PV.bool false] []) := by kernel_rfl
def lawWCS : SpecS := fun ys Φ => match ys with
  | [x_0, x_1] => ∃ (id : Int), ∃ (fr : Int), ∃ (ws : List Win), ∃ (ns : List Win), ∃ (ids : List Int), x_0 = .agg [.int .i64 id, .int .i64 fr, .sl _ e_api_Window ws, .sl _ e_api_Need ns] ∧ x_1 = .sl _ e_int ids ∧ Φ [.bool true]
  | _ => False
theorem lawWCS_mono : MonoS lawWCS := by
  intro ys Φ Ψ h hF
  unfold lawWCS at hF ⊢
  split at hF
  · obtain ⟨a0, a1, a2, a3, a4, q0, q1, hk⟩ := hF; exact ⟨a0, a1, a2, a3, a4, q0, q1, h _ hk⟩
  · exact hF.elim
theorem lawWCS_inv {ys : List PV} {Φ : List PV → Prop} (h : lawWCS ys Φ) : ∃ (id : Int) (fr : Int) (ws : List Win) (ns : List Win) (ids : List Int), ys = [.agg [.int .i64 id, .int .i64 fr, .sl _ e_api_Window ws, .sl _ e_api_Need ns], .sl _ e_int ids] ∧ Φ [.bool true] := by
  unfold lawWCS at h
  split at h
  · obtain ⟨a0, a1, a2, a3, a4, q0, q1, hz⟩ := h
    subst q0
    subst q1
    exact ⟨a0, a1, a2, a3, a4, rfl, hz⟩
  · exact h.elim
theorem ofE_errW (c : Int × Int) : ofE (errW c) = bif c.2 == 0 then (0, 0, 0) else (c.2, 0, c.1) := by
  unfold errW
  cases c.2 == 0 <;> rfl
theorem isNil_errW (c : Int × Int) : (errW c).isNil = (c.2 == 0) := by
  unfold errW
  cases c.2 == 0 <;> rfl
theorem ok_WC : FunS B 3 lawWCS := by
  refine funS_of (N := 48) (f := ff_WindowChecks) env_CW2 mixed fn_WindowChecks (by kernel_rfl) rfl rfl lawWCS_mono ?_
  intro A k ys hA hF
  obtain ⟨id, fr, ws, ns, ids, rfl, hk⟩ := lawWCS_inv hF; clear hF
  refine ⟨by kernel_rfl, hA 400 false _ _ _ (by_nf (nf_WC A k id fr ws ns ids) ?_)⟩
  cases h1 : decide ((ws.length : Int) > 300) with
  | true => exact hk
  | false =>
    cases h2 : decide ((ids.length : Int) > 60) with
    | true => exact hk
    | false =>
      rw [decide_eq_false_iff_not] at h1 h2
      refine ⟨id, fr, ws, ns, ids, rfl, rfl, ⟨by omega, by omega⟩, id, fr, ws, ns, ids, rfl, rfl, ⟨by omega, by omega⟩, ?_⟩
      generalize chkW fr ids (0, 0, 0) ws 0 = c
      rw [ofE_errW, isNil_errW]
      cases h3 : c.2 == 0 with
      | true =>
        have : (c.2 != 0) = false := by simp [bne, h3]
        rw [this]; exact hk
      | false =>
        have : (c.2 != 0) = true := by simp [bne, h3]
        rw [this]
        simpa using hk
theorem pre_WindowChecks (x : Int × Int × List (Int × Int × Int) × List (Int × Int × Int)) (ids : List Int) (_ : g_o25 x) (_ : g_o26 ids) : lawWCS [a_o25 x, a_o26 ids] fun rs => rs = [.bool true] :=
  ⟨_, _, _, _, _, rfl, rfl, rfl⟩
end Go.Ab.T
