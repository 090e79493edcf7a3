import Derived.Test.YtiemgkjmifpfcabDoorReader
import Derived.Test.YtiemgkjmifpfcabDoorRef05
import Derived.Test.YtiemgkjmifpfcabDoorName0
set_option linter.unusedVariables false
set_option linter.unusedSimpArgs false
namespace Go.Ab.T
open Go Go.Ab Go.Proofs
set_option maxRecDepth 100000
set_option maxHeartbeats 4000000
noncomputable def G0 := base (fun g => match g with | 86 => some (lift 0 namesF) | 92 => some (lift 0 namesF) | 7 => some (lift 0 NewS) | 9 => some (lift 1 EnterS) | 71 => some (lift 1 FailS) | 37 => some (lift 1 NeedS) | 52 => some (lift 1 ErrS) | 70 => some (lift 1 numberS) | 36 => some (lift 1 U8S) | 51 => some (lift 1 U16S) | 49 => some (lift 1 U32S) | 50 => some (lift 1 U64S) | 38 => some (lift 1 TextS) | _ => none) (fun g => match g with | 77 => some nameS | 68 => some nameS | 45 => some newS | 44 => some atS | 43 => some inS | 88 => some sizeS | 85 => some rSizeS | 87 => some getS | 67 => some getS | 18 => some ofS | 12 => some FaultS | 13 => some PlaceS | 22 => some LeftS | 33 => some rFailS | 32 => some rNumS | 34 => some rTextS | 66 => some mayS | 69 => some letS | 31 => some rightS | 35 => some rightS | _ => none) (fun _ => none)
theorem env_G0 : EnvOk G0 := env_of (by
    intro g F h
    split at h
    · cases h; exact ok_Name
    · cases h; exact ok_rName
    · cases h; exact ok_New
    · cases h; exact ok_At
    · cases h; exact ok_In
    · cases h; exact ok_size
    · cases h; exact ok_rSize
    · cases h; exact ok_Get
    · cases h; exact ok_rGet
    · cases h; exact of_ok
    · cases h; exact ok_rFault
    · cases h; exact ok_Place
    · cases h; exact ok_Left
    · cases h; exact ok_rFail
    · cases h; exact ok_rNum
    · cases h; exact ok_rText
    · cases h; exact ok_may
    · cases h; exact ok_letter
    · cases h; exact ok_right
    · cases h; exact ok_rright
    · cases h) (by
    intro g F h
    split at h
    · cases h; exact (lift_ok ok_rnames)
    · cases h; exact (lift_ok ok_names)
    · cases h; exact (lift_ok ok_rNew)
    · cases h; exact (lift_ok ok_Enter)
    · cases h; exact (lift_ok ok_Fail)
    · cases h; exact (lift_ok ok_Need)
    · cases h; exact (lift_ok ok_rErr)
    · cases h; exact (lift_ok ok_number)
    · cases h; exact (lift_ok ok_U8)
    · cases h; exact (lift_ok ok_U16)
    · cases h; exact (lift_ok ok_U32)
    · cases h; exact (lift_ok ok_U64)
    · cases h; exact (lift_ok ok_Text)
    · cases h) (fun g F h => (by cases h))
def nGetS : List PV → Heap Kd → (List PV → Heap Kd → Prop) → Prop := fun ys L k => match ys, L with
  | [.ptr 0 0], [.box [.str s, .int .i64 a, .int .i64 sec, .err e]] => (0 ≤ a ∧ a ≤ (s.size : Int) ∧ s.size < 4611686018427387904) ∧ k [.str (nmT s a sec e)] [.box [.str s, .int .i64 (nmAt s a sec e), .int .i64 sec, .err (nmE s a sec e)]]
  | _, _ => False
theorem nGetS_inv {ys : List PV} {L : Heap Kd} {k : List PV → Heap Kd → Prop} (h : nGetS ys L k) : ∃ (s : ByteArray) (a : Int) (sec : Int) (e : Err), ys = [.ptr 0 0] ∧ L = [.box [.str s, .int .i64 a, .int .i64 sec, .err e]] ∧ (0 ≤ a ∧ a ≤ (s.size : Int) ∧ s.size < 4611686018427387904) ∧ k [.str (nmT s a sec e)] [.box [.str s, .int .i64 (nmAt s a sec e), .int .i64 sec, .err (nmE s a sec e)]] := by
  unfold nGetS at h
  split at h
  · exact ⟨_, _, _, _, rfl, rfl, h⟩
  · exact h.elim
theorem fn_nGet : FnOk Tryd.prog 11 Tryd.f11 (bodyOf Tryd.f11) := ⟨by kernel_rfl, by kernel_rfl, by kernel_rfl⟩
noncomputable def ff_nGet : Fun := ⟨Tryd.f11.ntmps, 1, Tryd.f11.results.toList, fun _ => none, fun _ => false, fun _ => []⟩
theorem nf_nGet (A : KA Kd) (k : List PV → Heap Kd → Prop) (s : ByteArray) (a sec : Int) (e : Err) : evT G0 ff_nGet A k 400 false [.code (bodyOf Tryd.f11)] (startEnv 30 [.ptr 0 0]) [.box [.str s, .int .i64 a, .int .i64 sec, .err e]] =
    (((0 : Int) ≤ a ∧ a ≤ (↑s.size : Int) ∧ s.size < (4611686018427387904 : Nat)) ∧
  bif decide (rdV s a (1 : Int) e ≥ (1 : Int)) then
    bif !(needE (rdE s a (1 : Int) sec e) (decide (rdV s a (1 : Int) e ≤ (16 : Int))) sec (7 : Int) a).isNil then
      k [PV.str (ByteArray.mk #[])]
        [AObj.box
            [PV.str s, PV.int IntKind.i64 (rdAt s a (1 : Int) e), PV.int IntKind.i64 sec,
              PV.err (needE (rdE s a (1 : Int) sec e) (decide (rdV s a (1 : Int) e ≤ (16 : Int))) sec (7 : Int) a)]]
    else
      ((0 : Int) ≤ rdAt s a (1 : Int) e ∧
          rdAt s a (1 : Int) e ≤ (↑s.size : Int) ∧ s.size < (4611686018427387904 : Nat)) ∧
        bif
            !(needE
                  (rdE s (rdAt s a (1 : Int) e) (max (rdV s a (1 : Int) e) (0 : Int)) sec
                    (needE (rdE s a (1 : Int) sec e) (decide (rdV s a (1 : Int) e ≤ (16 : Int))) sec (7 : Int) a))
                  (rightN
                    (rdT s (rdAt s a (1 : Int) e) (max (rdV s a (1 : Int) e) (0 : Int))
                      (needE (rdE s a (1 : Int) sec e) (decide (rdV s a (1 : Int) e ≤ (16 : Int))) sec (7 : Int) a)))
                  sec (7 : Int) a).isNil then
          k [PV.str (ByteArray.mk #[])]
            [AObj.box
                [PV.str s,
                  PV.int IntKind.i64
                    (rdAt s (rdAt s a (1 : Int) e) (max (rdV s a (1 : Int) e) (0 : Int))
                      (needE (rdE s a (1 : Int) sec e) (decide (rdV s a (1 : Int) e ≤ (16 : Int))) sec (7 : Int) a)),
                  PV.int IntKind.i64 sec,
                  PV.err
                    (needE
                      (rdE s (rdAt s a (1 : Int) e) (max (rdV s a (1 : Int) e) (0 : Int)) sec
                        (needE (rdE s a (1 : Int) sec e) (decide (rdV s a (1 : Int) e ≤ (16 : Int))) sec (7 : Int) a))
                      (rightN
                        (rdT s (rdAt s a (1 : Int) e) (max (rdV s a (1 : Int) e) (0 : Int))
                          (needE (rdE s a (1 : Int) sec e) (decide (rdV s a (1 : Int) e ≤ (16 : Int))) sec (7 : Int)
                            a)))
                      sec (7 : Int) a)]]
        else
          k
            [PV.str
                (rdT s (rdAt s a (1 : Int) e) (max (rdV s a (1 : Int) e) (0 : Int))
                  (needE (rdE s a (1 : Int) sec e) (decide (rdV s a (1 : Int) e ≤ (16 : Int))) sec (7 : Int) a))]
            [AObj.box
                [PV.str s,
                  PV.int IntKind.i64
                    (rdAt s (rdAt s a (1 : Int) e) (max (rdV s a (1 : Int) e) (0 : Int))
                      (needE (rdE s a (1 : Int) sec e) (decide (rdV s a (1 : Int) e ≤ (16 : Int))) sec (7 : Int) a)),
                  PV.int IntKind.i64 sec,
                  PV.err
                    (needE
                      (rdE s (rdAt s a (1 : Int) e) (max (rdV s a (1 : Int) e) (0 : Int)) sec
                        (needE (rdE s a (1 : Int) sec e) (decide (rdV s a (1 : Int) e ≤ (16 : Int))) sec (7 : Int) a))
                      (rightN
                        (rdT s (rdAt s a (1 : Int) e) (max (rdV s a (1 : Int) e) (0 : Int))
                          (needE (rdE s a (1 : Int) sec e) (decide (rdV s a (1 : Int) e ≤ (16 : Int))) sec (7 : Int)
                            a)))
                      sec (7 : Int) a)]]
  else
    bif !(needE (rdE s a (1 : Int) sec e) false sec (7 : Int) a).isNil then
      k [PV.str (ByteArray.mk #[])]
        [AObj.box
            [PV.str s, PV.int IntKind.i64 (rdAt s a (1 : Int) e), PV.int IntKind.i64 sec,
              PV.err (needE (rdE s a (1 : Int) sec e) false sec (7 : Int) a)]]
    else
      ((0 : Int) ≤ rdAt s a (1 : Int) e ∧
          rdAt s a (1 : Int) e ≤ (↑s.size : Int) ∧ s.size < (4611686018427387904 : Nat)) ∧
        bif
            !(needE
                  (rdE s (rdAt s a (1 : Int) e) (max (rdV s a (1 : Int) e) (0 : Int)) sec
                    (needE (rdE s a (1 : Int) sec e) false sec (7 : Int) a))
                  (rightN
                    (rdT s (rdAt s a (1 : Int) e) (max (rdV s a (1 : Int) e) (0 : Int))
                      (needE (rdE s a (1 : Int) sec e) false sec (7 : Int) a)))
                  sec (7 : Int) a).isNil then
          k [PV.str (ByteArray.mk #[])]
            [AObj.box
                [PV.str s,
                  PV.int IntKind.i64
                    (rdAt s (rdAt s a (1 : Int) e) (max (rdV s a (1 : Int) e) (0 : Int))
                      (needE (rdE s a (1 : Int) sec e) false sec (7 : Int) a)),
                  PV.int IntKind.i64 sec,
                  PV.err
                    (needE
                      (rdE s (rdAt s a (1 : Int) e) (max (rdV s a (1 : Int) e) (0 : Int)) sec
                        (needE (rdE s a (1 : Int) sec e) false sec (7 : Int) a))
                      (rightN
                        (rdT s (rdAt s a (1 : Int) e) (max (rdV s a (1 : Int) e) (0 : Int))
                          (needE (rdE s a (1 : Int) sec e) false sec (7 : Int) a)))
                      sec (7 : Int) a)]]
        else
          k
            [PV.str
                (rdT s (rdAt s a (1 : Int) e) (max (rdV s a (1 : Int) e) (0 : Int))
                  (needE (rdE s a (1 : Int) sec e) false sec (7 : Int) a))]
            [AObj.box
                [PV.str s,
                  PV.int IntKind.i64
                    (rdAt s (rdAt s a (1 : Int) e) (max (rdV s a (1 : Int) e) (0 : Int))
                      (needE (rdE s a (1 : Int) sec e) false sec (7 : Int) a)),
                  PV.int IntKind.i64 sec,
                  PV.err
                    (needE
                      (rdE s (rdAt s a (1 : Int) e) (max (rdV s a (1 : Int) e) (0 : Int)) sec
                        (needE (rdE s a (1 : Int) sec e) false sec (7 : Int) a))
                      (rightN
                        (rdT s (rdAt s a (1 : Int) e) (max (rdV s a (1 : Int) e) (0 : Int))
                          (needE (rdE s a (1 : Int) sec e) false sec (7 : Int) a)))
                      sec (7 : Int) a)]]) := by kernel_rfl
theorem ok_nGet : FunF B 11 1 nGetS := by
  refine funF_of (N := 30) (f := ff_nGet) env_G0 mixed fn_nGet (by kernel_rfl) (by kernel_rfl) ?_
  intro A k ys L hA hF
  obtain ⟨s, a, sec, e, rfl, rfl, ⟨h0, h1, h2⟩, hk⟩ := nGetS_inv hF; clear hF
  refine ⟨by kernel_rfl, (hA.nf (nf_nGet A k s a sec e) ?_)⟩
  obtain ⟨q0, q1⟩ := rdAt_le (e := e) (n := 1) h0 h1 (by omega)
  refine ⟨⟨h0, h1, h2⟩, ?_⟩
  have hK : nmK s a sec e = needE (rdE s a 1 sec e) (decide (rdV s a 1 e ≥ 1) && decide (rdV s a 1 e ≤ 16)) sec 7 a := rfl
  unfold nmT nmAt at hk
  have hE : nmE s a sec e = bif (nmK s a sec e).isNil then needE (rdE s (rdAt s a 1 e) (max (rdV s a 1 e) 0) sec (nmK s a sec e)) (rightN (rdT s (rdAt s a 1 e) (max (rdV s a 1 e) 0) (nmK s a sec e))) sec 7 a else nmK s a sec e := rfl
  rw [hE] at hk
  clear hE
  rw [hK] at hk
  clear hK
  cases c1 : decide (rdV s a 1 e ≥ 1) with
  | true =>
    rw [c1, Bool.true_and] at hk
    generalize hx : needE (rdE s a 1 sec e) (decide (rdV s a 1 e ≤ 16)) sec 7 a = x at hk ⊢
    cases c2 : x.isNil with
    | false => rw [c2] at hk; simp only [cond_false, c2] at hk; exact hk
    | true =>
      rw [c2] at hk; simp only [cond_true] at hk
      refine ⟨⟨q0, q1, h2⟩, ?_⟩
      generalize hy : needE (rdE s (rdAt s a 1 e) (max (rdV s a 1 e) 0) sec x) (rightN (rdT s (rdAt s a 1 e) (max (rdV s a 1 e) 0) x)) sec 7 a = y at hk ⊢
      cases c3 : y.isNil with
      | false => rw [c3] at hk; exact hk
      | true => rw [c3] at hk; exact hk
  | false =>
    rw [c1, Bool.false_and] at hk
    generalize hx : needE (rdE s a 1 sec e) false sec 7 a = x at hk ⊢
    cases c2 : x.isNil with
    | false => rw [c2] at hk; simp only [cond_false, c2] at hk; exact hk
    | true =>
      rw [c2] at hk; simp only [cond_true] at hk
      refine ⟨⟨q0, q1, h2⟩, ?_⟩
      generalize hy : needE (rdE s (rdAt s a 1 e) (max (rdV s a 1 e) 0) sec x) (rightN (rdT s (rdAt s a 1 e) (max (rdV s a 1 e) 0) x)) sec 7 a = y at hk ⊢
      cases c3 : y.isNil with
      | false => rw [c3] at hk; exact hk
      | true => rw [c3] at hk; exact hk
def rGetNS : SpecS := fun ys Φ => match ys with
  | [.agg [.str s, .int .i64 a, .int .i64 sec, .int .i64 f1, .int .i64 f2, .int .i64 f3]] => ((0 ≤ a ∧ a ≤ (s.size : Int) ∧ s.size < 4611686018427387904) ∧ GoodF (f1, f2, f3)) ∧ Φ [.agg [.str s, .int .i64 (nmAt s a sec (toE (f1, f2, f3))), .int .i64 sec, .int .i64 (ofE (nmE s a sec (toE (f1, f2, f3)))).1, .int .i64 (ofE (nmE s a sec (toE (f1, f2, f3)))).2.1, .int .i64 (ofE (nmE s a sec (toE (f1, f2, f3)))).2.2], .str (nmT s a sec (toE (f1, f2, f3)))]
  | _ => False
theorem rGetNS_mono : MonoS rGetNS := by
  intro ys Φ Ψ h hF
  unfold rGetNS at hF ⊢
  split at hF
  · obtain ⟨hp, hk⟩ := hF; exact ⟨hp, h _ hk⟩
  · exact hF.elim
theorem rGetNS_inv {ys : List PV} {Φ : List PV → Prop} (h : rGetNS ys Φ) : ∃ (s : ByteArray) (a : Int) (sec : Int) (f1 : Int) (f2 : Int) (f3 : Int), ys = [.agg [.str s, .int .i64 a, .int .i64 sec, .int .i64 f1, .int .i64 f2, .int .i64 f3]] ∧ ((0 ≤ a ∧ a ≤ (s.size : Int) ∧ s.size < 4611686018427387904) ∧ GoodF (f1, f2, f3)) ∧ Φ [.agg [.str s, .int .i64 (nmAt s a sec (toE (f1, f2, f3))), .int .i64 sec, .int .i64 (ofE (nmE s a sec (toE (f1, f2, f3)))).1, .int .i64 (ofE (nmE s a sec (toE (f1, f2, f3)))).2.1, .int .i64 (ofE (nmE s a sec (toE (f1, f2, f3)))).2.2], .str (nmT s a sec (toE (f1, f2, f3)))] := by
  unfold rGetNS at h
  split at h
  · exact ⟨_, _, _, _, _, _, rfl, h⟩
  · exact h.elim
theorem fn_rGetN : FnOk Tryd.prog 10 Tryd.f10 (bodyOf Tryd.f10) := ⟨by kernel_rfl, by kernel_rfl, by kernel_rfl⟩
noncomputable def ff_rGetN : Fun := ⟨Tryd.f10.ntmps, 0, Tryd.f10.results.toList, fun _ => none, fun _ => false, fun _ => []⟩
theorem nf_rGetN (A : KA Kd) (k : List PV → Heap Kd → Prop) (s : ByteArray) (a sec f1 f2 f3 : Int) : evT G0 ff_rGetN A k 400 false [.code (bodyOf Tryd.f10)] (startEnv 51 [.agg [.str s, .int .i64 a, .int .i64 sec, .int .i64 f1, .int .i64 f2, .int .i64 f3]]) [] =
    (s.size < (4611686018427387904 : Nat) ∧
  bif (nF s a (1 : Int) sec (f1, f2, f3)).fst == (0 : Int) then
    bif nV s a (1 : Int) (f1, f2, f3) == (0 : Int) then
      k
        [PV.agg
            [PV.str s, PV.int IntKind.i64 (nAt s a (1 : Int) (f1, f2, f3)), PV.int IntKind.i64 sec,
              PV.int IntKind.i64
                (rFail
                    ((nF s a (1 : Int) sec (f1, f2, f3)).fst, (nF s a (1 : Int) sec (f1, f2, f3)).snd.fst,
                      (nF s a (1 : Int) sec (f1, f2, f3)).snd.snd)
                    sec (7 : Int) a).fst,
              PV.int IntKind.i64
                (rFail
                      ((nF s a (1 : Int) sec (f1, f2, f3)).fst, (nF s a (1 : Int) sec (f1, f2, f3)).snd.fst,
                        (nF s a (1 : Int) sec (f1, f2, f3)).snd.snd)
                      sec (7 : Int) a).snd.fst,
              PV.int IntKind.i64
                (rFail
                      ((nF s a (1 : Int) sec (f1, f2, f3)).fst, (nF s a (1 : Int) sec (f1, f2, f3)).snd.fst,
                        (nF s a (1 : Int) sec (f1, f2, f3)).snd.snd)
                      sec (7 : Int) a).snd.snd],
          PV.str (ByteArray.mk #[])]
        []
    else
      bif decide (nV s a (1 : Int) (f1, f2, f3) > (16 : Int)) then
        k
          [PV.agg
              [PV.str s, PV.int IntKind.i64 (nAt s a (1 : Int) (f1, f2, f3)), PV.int IntKind.i64 sec,
                PV.int IntKind.i64
                  (rFail
                      ((nF s a (1 : Int) sec (f1, f2, f3)).fst, (nF s a (1 : Int) sec (f1, f2, f3)).snd.fst,
                        (nF s a (1 : Int) sec (f1, f2, f3)).snd.snd)
                      sec (7 : Int) a).fst,
                PV.int IntKind.i64
                  (rFail
                        ((nF s a (1 : Int) sec (f1, f2, f3)).fst, (nF s a (1 : Int) sec (f1, f2, f3)).snd.fst,
                          (nF s a (1 : Int) sec (f1, f2, f3)).snd.snd)
                        sec (7 : Int) a).snd.fst,
                PV.int IntKind.i64
                  (rFail
                        ((nF s a (1 : Int) sec (f1, f2, f3)).fst, (nF s a (1 : Int) sec (f1, f2, f3)).snd.fst,
                          (nF s a (1 : Int) sec (f1, f2, f3)).snd.snd)
                        sec (7 : Int) a).snd.snd],
            PV.str (ByteArray.mk #[])]
          []
      else
        ((0 : Int) ≤ nAt s a (1 : Int) (f1, f2, f3) ∧
            nAt s a (1 : Int) (f1, f2, f3) ≤ (↑s.size : Int) ∧ s.size < (4611686018427387904 : Nat)) ∧
          bif
              (tF s (nAt s a (1 : Int) (f1, f2, f3)) (IntKind.i64.wrap (nV s a (1 : Int) (f1, f2, f3))) sec
                    ((nF s a (1 : Int) sec (f1, f2, f3)).fst, (nF s a (1 : Int) sec (f1, f2, f3)).snd.fst,
                      (nF s a (1 : Int) sec (f1, f2, f3)).snd.snd)).fst ==
                (0 : Int) then
            bif
                !rightN
                    (tT s (nAt s a (1 : Int) (f1, f2, f3)) (IntKind.i64.wrap (nV s a (1 : Int) (f1, f2, f3)))
                      ((nF s a (1 : Int) sec (f1, f2, f3)).fst, (nF s a (1 : Int) sec (f1, f2, f3)).snd.fst,
                        (nF s a (1 : Int) sec (f1, f2, f3)).snd.snd)) then
              k
                [PV.agg
                    [PV.str s,
                      PV.int IntKind.i64
                        (tAt s (nAt s a (1 : Int) (f1, f2, f3)) (IntKind.i64.wrap (nV s a (1 : Int) (f1, f2, f3)))
                          ((nF s a (1 : Int) sec (f1, f2, f3)).fst, (nF s a (1 : Int) sec (f1, f2, f3)).snd.fst,
                            (nF s a (1 : Int) sec (f1, f2, f3)).snd.snd)),
                      PV.int IntKind.i64 sec,
                      PV.int IntKind.i64
                        (rFail
                            ((tF s (nAt s a (1 : Int) (f1, f2, f3)) (IntKind.i64.wrap (nV s a (1 : Int) (f1, f2, f3)))
                                  sec
                                  ((nF s a (1 : Int) sec (f1, f2, f3)).fst, (nF s a (1 : Int) sec (f1, f2, f3)).snd.fst,
                                    (nF s a (1 : Int) sec (f1, f2, f3)).snd.snd)).fst,
                              (tF s (nAt s a (1 : Int) (f1, f2, f3)) (IntKind.i64.wrap (nV s a (1 : Int) (f1, f2, f3)))
                                    sec
                                    ((nF s a (1 : Int) sec (f1, f2, f3)).fst,
                                      (nF s a (1 : Int) sec (f1, f2, f3)).snd.fst,
                                      (nF s a (1 : Int) sec (f1, f2, f3)).snd.snd)).snd.fst,
                              (tF s (nAt s a (1 : Int) (f1, f2, f3)) (IntKind.i64.wrap (nV s a (1 : Int) (f1, f2, f3)))
                                    sec
                                    ((nF s a (1 : Int) sec (f1, f2, f3)).fst,
                                      (nF s a (1 : Int) sec (f1, f2, f3)).snd.fst,
                                      (nF s a (1 : Int) sec (f1, f2, f3)).snd.snd)).snd.snd)
                            sec (7 : Int) a).fst,
                      PV.int IntKind.i64
                        (rFail
                              ((tF s (nAt s a (1 : Int) (f1, f2, f3)) (IntKind.i64.wrap (nV s a (1 : Int) (f1, f2, f3)))
                                    sec
                                    ((nF s a (1 : Int) sec (f1, f2, f3)).fst,
                                      (nF s a (1 : Int) sec (f1, f2, f3)).snd.fst,
                                      (nF s a (1 : Int) sec (f1, f2, f3)).snd.snd)).fst,
                                (tF s (nAt s a (1 : Int) (f1, f2, f3))
                                      (IntKind.i64.wrap (nV s a (1 : Int) (f1, f2, f3))) sec
                                      ((nF s a (1 : Int) sec (f1, f2, f3)).fst,
                                        (nF s a (1 : Int) sec (f1, f2, f3)).snd.fst,
                                        (nF s a (1 : Int) sec (f1, f2, f3)).snd.snd)).snd.fst,
                                (tF s (nAt s a (1 : Int) (f1, f2, f3))
                                      (IntKind.i64.wrap (nV s a (1 : Int) (f1, f2, f3))) sec
                                      ((nF s a (1 : Int) sec (f1, f2, f3)).fst,
                                        (nF s a (1 : Int) sec (f1, f2, f3)).snd.fst,
                                        (nF s a (1 : Int) sec (f1, f2, f3)).snd.snd)).snd.snd)
                              sec (7 : Int) a).snd.fst,
                      PV.int IntKind.i64
                        (rFail
                              ((tF s (nAt s a (1 : Int) (f1, f2, f3)) (IntKind.i64.wrap (nV s a (1 : Int) (f1, f2, f3)))
                                    sec
                                    ((nF s a (1 : Int) sec (f1, f2, f3)).fst,
                                      (nF s a (1 : Int) sec (f1, f2, f3)).snd.fst,
                                      (nF s a (1 : Int) sec (f1, f2, f3)).snd.snd)).fst,
                                (tF s (nAt s a (1 : Int) (f1, f2, f3))
                                      (IntKind.i64.wrap (nV s a (1 : Int) (f1, f2, f3))) sec
                                      ((nF s a (1 : Int) sec (f1, f2, f3)).fst,
                                        (nF s a (1 : Int) sec (f1, f2, f3)).snd.fst,
                                        (nF s a (1 : Int) sec (f1, f2, f3)).snd.snd)).snd.fst,
                                (tF s (nAt s a (1 : Int) (f1, f2, f3))
                                      (IntKind.i64.wrap (nV s a (1 : Int) (f1, f2, f3))) sec
                                      ((nF s a (1 : Int) sec (f1, f2, f3)).fst,
                                        (nF s a (1 : Int) sec (f1, f2, f3)).snd.fst,
                                        (nF s a (1 : Int) sec (f1, f2, f3)).snd.snd)).snd.snd)
                              sec (7 : Int) a).snd.snd],
                  PV.str (ByteArray.mk #[])]
                []
            else
              k
                [PV.agg
                    [PV.str s,
                      PV.int IntKind.i64
                        (tAt s (nAt s a (1 : Int) (f1, f2, f3)) (IntKind.i64.wrap (nV s a (1 : Int) (f1, f2, f3)))
                          ((nF s a (1 : Int) sec (f1, f2, f3)).fst, (nF s a (1 : Int) sec (f1, f2, f3)).snd.fst,
                            (nF s a (1 : Int) sec (f1, f2, f3)).snd.snd)),
                      PV.int IntKind.i64 sec,
                      PV.int IntKind.i64
                        (tF s (nAt s a (1 : Int) (f1, f2, f3)) (IntKind.i64.wrap (nV s a (1 : Int) (f1, f2, f3))) sec
                            ((nF s a (1 : Int) sec (f1, f2, f3)).fst, (nF s a (1 : Int) sec (f1, f2, f3)).snd.fst,
                              (nF s a (1 : Int) sec (f1, f2, f3)).snd.snd)).fst,
                      PV.int IntKind.i64
                        (tF s (nAt s a (1 : Int) (f1, f2, f3)) (IntKind.i64.wrap (nV s a (1 : Int) (f1, f2, f3))) sec
                              ((nF s a (1 : Int) sec (f1, f2, f3)).fst, (nF s a (1 : Int) sec (f1, f2, f3)).snd.fst,
                                (nF s a (1 : Int) sec (f1, f2, f3)).snd.snd)).snd.fst,
                      PV.int IntKind.i64
                        (tF s (nAt s a (1 : Int) (f1, f2, f3)) (IntKind.i64.wrap (nV s a (1 : Int) (f1, f2, f3))) sec
                              ((nF s a (1 : Int) sec (f1, f2, f3)).fst, (nF s a (1 : Int) sec (f1, f2, f3)).snd.fst,
                                (nF s a (1 : Int) sec (f1, f2, f3)).snd.snd)).snd.snd],
                  PV.str
                    (tT s (nAt s a (1 : Int) (f1, f2, f3)) (IntKind.i64.wrap (nV s a (1 : Int) (f1, f2, f3)))
                      ((nF s a (1 : Int) sec (f1, f2, f3)).fst, (nF s a (1 : Int) sec (f1, f2, f3)).snd.fst,
                        (nF s a (1 : Int) sec (f1, f2, f3)).snd.snd))]
                []
          else
            k
              [PV.agg
                  [PV.str s,
                    PV.int IntKind.i64
                      (tAt s (nAt s a (1 : Int) (f1, f2, f3)) (IntKind.i64.wrap (nV s a (1 : Int) (f1, f2, f3)))
                        ((nF s a (1 : Int) sec (f1, f2, f3)).fst, (nF s a (1 : Int) sec (f1, f2, f3)).snd.fst,
                          (nF s a (1 : Int) sec (f1, f2, f3)).snd.snd)),
                    PV.int IntKind.i64 sec,
                    PV.int IntKind.i64
                      (tF s (nAt s a (1 : Int) (f1, f2, f3)) (IntKind.i64.wrap (nV s a (1 : Int) (f1, f2, f3))) sec
                          ((nF s a (1 : Int) sec (f1, f2, f3)).fst, (nF s a (1 : Int) sec (f1, f2, f3)).snd.fst,
                            (nF s a (1 : Int) sec (f1, f2, f3)).snd.snd)).fst,
                    PV.int IntKind.i64
                      (tF s (nAt s a (1 : Int) (f1, f2, f3)) (IntKind.i64.wrap (nV s a (1 : Int) (f1, f2, f3))) sec
                            ((nF s a (1 : Int) sec (f1, f2, f3)).fst, (nF s a (1 : Int) sec (f1, f2, f3)).snd.fst,
                              (nF s a (1 : Int) sec (f1, f2, f3)).snd.snd)).snd.fst,
                    PV.int IntKind.i64
                      (tF s (nAt s a (1 : Int) (f1, f2, f3)) (IntKind.i64.wrap (nV s a (1 : Int) (f1, f2, f3))) sec
                            ((nF s a (1 : Int) sec (f1, f2, f3)).fst, (nF s a (1 : Int) sec (f1, f2, f3)).snd.fst,
                              (nF s a (1 : Int) sec (f1, f2, f3)).snd.snd)).snd.snd],
                PV.str
                  (tT s (nAt s a (1 : Int) (f1, f2, f3)) (IntKind.i64.wrap (nV s a (1 : Int) (f1, f2, f3)))
                    ((nF s a (1 : Int) sec (f1, f2, f3)).fst, (nF s a (1 : Int) sec (f1, f2, f3)).snd.fst,
                      (nF s a (1 : Int) sec (f1, f2, f3)).snd.snd))]
              []
  else
    ((0 : Int) ≤ nAt s a (1 : Int) (f1, f2, f3) ∧
        nAt s a (1 : Int) (f1, f2, f3) ≤ (↑s.size : Int) ∧ s.size < (4611686018427387904 : Nat)) ∧
      bif
          (tF s (nAt s a (1 : Int) (f1, f2, f3)) (IntKind.i64.wrap (nV s a (1 : Int) (f1, f2, f3))) sec
                ((nF s a (1 : Int) sec (f1, f2, f3)).fst, (nF s a (1 : Int) sec (f1, f2, f3)).snd.fst,
                  (nF s a (1 : Int) sec (f1, f2, f3)).snd.snd)).fst ==
            (0 : Int) then
        bif
            !rightN
                (tT s (nAt s a (1 : Int) (f1, f2, f3)) (IntKind.i64.wrap (nV s a (1 : Int) (f1, f2, f3)))
                  ((nF s a (1 : Int) sec (f1, f2, f3)).fst, (nF s a (1 : Int) sec (f1, f2, f3)).snd.fst,
                    (nF s a (1 : Int) sec (f1, f2, f3)).snd.snd)) then
          k
            [PV.agg
                [PV.str s,
                  PV.int IntKind.i64
                    (tAt s (nAt s a (1 : Int) (f1, f2, f3)) (IntKind.i64.wrap (nV s a (1 : Int) (f1, f2, f3)))
                      ((nF s a (1 : Int) sec (f1, f2, f3)).fst, (nF s a (1 : Int) sec (f1, f2, f3)).snd.fst,
                        (nF s a (1 : Int) sec (f1, f2, f3)).snd.snd)),
                  PV.int IntKind.i64 sec,
                  PV.int IntKind.i64
                    (rFail
                        ((tF s (nAt s a (1 : Int) (f1, f2, f3)) (IntKind.i64.wrap (nV s a (1 : Int) (f1, f2, f3))) sec
                              ((nF s a (1 : Int) sec (f1, f2, f3)).fst, (nF s a (1 : Int) sec (f1, f2, f3)).snd.fst,
                                (nF s a (1 : Int) sec (f1, f2, f3)).snd.snd)).fst,
                          (tF s (nAt s a (1 : Int) (f1, f2, f3)) (IntKind.i64.wrap (nV s a (1 : Int) (f1, f2, f3))) sec
                                ((nF s a (1 : Int) sec (f1, f2, f3)).fst, (nF s a (1 : Int) sec (f1, f2, f3)).snd.fst,
                                  (nF s a (1 : Int) sec (f1, f2, f3)).snd.snd)).snd.fst,
                          (tF s (nAt s a (1 : Int) (f1, f2, f3)) (IntKind.i64.wrap (nV s a (1 : Int) (f1, f2, f3))) sec
                                ((nF s a (1 : Int) sec (f1, f2, f3)).fst, (nF s a (1 : Int) sec (f1, f2, f3)).snd.fst,
                                  (nF s a (1 : Int) sec (f1, f2, f3)).snd.snd)).snd.snd)
                        sec (7 : Int) a).fst,
                  PV.int IntKind.i64
                    (rFail
                          ((tF s (nAt s a (1 : Int) (f1, f2, f3)) (IntKind.i64.wrap (nV s a (1 : Int) (f1, f2, f3))) sec
                                ((nF s a (1 : Int) sec (f1, f2, f3)).fst, (nF s a (1 : Int) sec (f1, f2, f3)).snd.fst,
                                  (nF s a (1 : Int) sec (f1, f2, f3)).snd.snd)).fst,
                            (tF s (nAt s a (1 : Int) (f1, f2, f3)) (IntKind.i64.wrap (nV s a (1 : Int) (f1, f2, f3)))
                                  sec
                                  ((nF s a (1 : Int) sec (f1, f2, f3)).fst, (nF s a (1 : Int) sec (f1, f2, f3)).snd.fst,
                                    (nF s a (1 : Int) sec (f1, f2, f3)).snd.snd)).snd.fst,
                            (tF s (nAt s a (1 : Int) (f1, f2, f3)) (IntKind.i64.wrap (nV s a (1 : Int) (f1, f2, f3)))
                                  sec
                                  ((nF s a (1 : Int) sec (f1, f2, f3)).fst, (nF s a (1 : Int) sec (f1, f2, f3)).snd.fst,
                                    (nF s a (1 : Int) sec (f1, f2, f3)).snd.snd)).snd.snd)
                          sec (7 : Int) a).snd.fst,
                  PV.int IntKind.i64
                    (rFail
                          ((tF s (nAt s a (1 : Int) (f1, f2, f3)) (IntKind.i64.wrap (nV s a (1 : Int) (f1, f2, f3))) sec
                                ((nF s a (1 : Int) sec (f1, f2, f3)).fst, (nF s a (1 : Int) sec (f1, f2, f3)).snd.fst,
                                  (nF s a (1 : Int) sec (f1, f2, f3)).snd.snd)).fst,
                            (tF s (nAt s a (1 : Int) (f1, f2, f3)) (IntKind.i64.wrap (nV s a (1 : Int) (f1, f2, f3)))
                                  sec
                                  ((nF s a (1 : Int) sec (f1, f2, f3)).fst, (nF s a (1 : Int) sec (f1, f2, f3)).snd.fst,
                                    (nF s a (1 : Int) sec (f1, f2, f3)).snd.snd)).snd.fst,
                            (tF s (nAt s a (1 : Int) (f1, f2, f3)) (IntKind.i64.wrap (nV s a (1 : Int) (f1, f2, f3)))
                                  sec
                                  ((nF s a (1 : Int) sec (f1, f2, f3)).fst, (nF s a (1 : Int) sec (f1, f2, f3)).snd.fst,
                                    (nF s a (1 : Int) sec (f1, f2, f3)).snd.snd)).snd.snd)
                          sec (7 : Int) a).snd.snd],
              PV.str (ByteArray.mk #[])]
            []
        else
          k
            [PV.agg
                [PV.str s,
                  PV.int IntKind.i64
                    (tAt s (nAt s a (1 : Int) (f1, f2, f3)) (IntKind.i64.wrap (nV s a (1 : Int) (f1, f2, f3)))
                      ((nF s a (1 : Int) sec (f1, f2, f3)).fst, (nF s a (1 : Int) sec (f1, f2, f3)).snd.fst,
                        (nF s a (1 : Int) sec (f1, f2, f3)).snd.snd)),
                  PV.int IntKind.i64 sec,
                  PV.int IntKind.i64
                    (tF s (nAt s a (1 : Int) (f1, f2, f3)) (IntKind.i64.wrap (nV s a (1 : Int) (f1, f2, f3))) sec
                        ((nF s a (1 : Int) sec (f1, f2, f3)).fst, (nF s a (1 : Int) sec (f1, f2, f3)).snd.fst,
                          (nF s a (1 : Int) sec (f1, f2, f3)).snd.snd)).fst,
                  PV.int IntKind.i64
                    (tF s (nAt s a (1 : Int) (f1, f2, f3)) (IntKind.i64.wrap (nV s a (1 : Int) (f1, f2, f3))) sec
                          ((nF s a (1 : Int) sec (f1, f2, f3)).fst, (nF s a (1 : Int) sec (f1, f2, f3)).snd.fst,
                            (nF s a (1 : Int) sec (f1, f2, f3)).snd.snd)).snd.fst,
                  PV.int IntKind.i64
                    (tF s (nAt s a (1 : Int) (f1, f2, f3)) (IntKind.i64.wrap (nV s a (1 : Int) (f1, f2, f3))) sec
                          ((nF s a (1 : Int) sec (f1, f2, f3)).fst, (nF s a (1 : Int) sec (f1, f2, f3)).snd.fst,
                            (nF s a (1 : Int) sec (f1, f2, f3)).snd.snd)).snd.snd],
              PV.str
                (tT s (nAt s a (1 : Int) (f1, f2, f3)) (IntKind.i64.wrap (nV s a (1 : Int) (f1, f2, f3)))
                  ((nF s a (1 : Int) sec (f1, f2, f3)).fst, (nF s a (1 : Int) sec (f1, f2, f3)).snd.fst,
                    (nF s a (1 : Int) sec (f1, f2, f3)).snd.snd))]
            []
      else
        k
          [PV.agg
              [PV.str s,
                PV.int IntKind.i64
                  (tAt s (nAt s a (1 : Int) (f1, f2, f3)) (IntKind.i64.wrap (nV s a (1 : Int) (f1, f2, f3)))
                    ((nF s a (1 : Int) sec (f1, f2, f3)).fst, (nF s a (1 : Int) sec (f1, f2, f3)).snd.fst,
                      (nF s a (1 : Int) sec (f1, f2, f3)).snd.snd)),
                PV.int IntKind.i64 sec,
                PV.int IntKind.i64
                  (tF s (nAt s a (1 : Int) (f1, f2, f3)) (IntKind.i64.wrap (nV s a (1 : Int) (f1, f2, f3))) sec
                      ((nF s a (1 : Int) sec (f1, f2, f3)).fst, (nF s a (1 : Int) sec (f1, f2, f3)).snd.fst,
                        (nF s a (1 : Int) sec (f1, f2, f3)).snd.snd)).fst,
                PV.int IntKind.i64
                  (tF s (nAt s a (1 : Int) (f1, f2, f3)) (IntKind.i64.wrap (nV s a (1 : Int) (f1, f2, f3))) sec
                        ((nF s a (1 : Int) sec (f1, f2, f3)).fst, (nF s a (1 : Int) sec (f1, f2, f3)).snd.fst,
                          (nF s a (1 : Int) sec (f1, f2, f3)).snd.snd)).snd.fst,
                PV.int IntKind.i64
                  (tF s (nAt s a (1 : Int) (f1, f2, f3)) (IntKind.i64.wrap (nV s a (1 : Int) (f1, f2, f3))) sec
                        ((nF s a (1 : Int) sec (f1, f2, f3)).fst, (nF s a (1 : Int) sec (f1, f2, f3)).snd.fst,
                          (nF s a (1 : Int) sec (f1, f2, f3)).snd.snd)).snd.snd],
            PV.str
              (tT s (nAt s a (1 : Int) (f1, f2, f3)) (IntKind.i64.wrap (nV s a (1 : Int) (f1, f2, f3)))
                ((nF s a (1 : Int) sec (f1, f2, f3)).fst, (nF s a (1 : Int) sec (f1, f2, f3)).snd.fst,
                  (nF s a (1 : Int) sec (f1, f2, f3)).snd.snd))]
          []) := by kernel_rfl
theorem ok_rGetN : FunS B 10 rGetNS := by
  refine funS_of (N := 51) (f := ff_rGetN) env_G0 mixed fn_rGetN (by kernel_rfl) (by kernel_rfl) (by kernel_rfl) rGetNS_mono ?_
  intro A k ys hA hF
  obtain ⟨s, a, sec, f1, f2, f3, rfl, ⟨⟨h0, h1, h2⟩, hgf⟩, hk⟩ := rGetNS_inv hF; clear hF
  refine ⟨by kernel_rfl, (hA.nf (nf_rGetN A k s a sec f1 f2 f3) ?_)⟩
  obtain ⟨e, hg, hf⟩ := hgf.ex
  rw [hf, hg.toE] at hk
  rw [hf]
  have z1 : sizeOk 1 = true := rfl
  rw [hg.nV h0 h1 z1, hg.nAt h0 h1 z1, hg.nF sec h0 h1 z1]
  simp only [F3_eta]
  obtain ⟨q0, q1⟩ := rdAt_le (e := e) (n := 1) h0 h1 (by omega)
  obtain ⟨v0, v1⟩ := rdV_lt s a 1 e
  have hv : rdE s a 1 sec e = rdE s a 1 sec e := rfl
  have hg1 : GoodE (rdE s a 1 sec e) := hg.rd s a 1 sec
  have hn := rdE_nil s a 1 sec e
  have hb : (rdE s a 1 sec e).isNil = false → rdV s a 1 e = 0 := fun h => by
    rw [hn] at h; unfold rdV; rw [h]; rfl
  unfold nmT nmAt at hk
  have hE : nmE s a sec e = bif (nmK s a sec e).isNil then needE (rdE s (rdAt s a 1 e) (max (rdV s a 1 e) 0) sec (nmK s a sec e)) (rightN (rdT s (rdAt s a 1 e) (max (rdV s a 1 e) 0) (nmK s a sec e))) sec 7 a else nmK s a sec e := rfl
  rw [hE] at hk
  clear hE
  have hK : nmK s a sec e = needE (rdE s a 1 sec e) (decide (rdV s a 1 e ≥ 1) && decide (rdV s a 1 e ≤ 16)) sec 7 a := rfl
  rw [hK] at hk
  clear hK
  generalize rdE s a 1 sec e = e1 at *
  generalize rdAt s a 1 e = a1 at *
  have v1 : rdV s a 1 e < 256 := v1
  generalize rdV s a 1 e = v at *
  refine ⟨h2, ?_⟩
  rw [hg1.nil_iff]
  cases c1 : e1.isNil with
  | false =>
    obtain rfl : v = 0 := hb c1
    rw [needE_bad c1, c1] at hk
    simp only [cond_false, c1] at hk
    have w0 : IntKind.i64.wrap 0 = 0 := by decide
    have t1 : tF s a1 0 sec (ofE e1) = ofE e1 := rfl
    have t4 : tOk s a1 0 (ofE e1) = false := by unfold tOk; rw [hg1.nil_iff, c1]; rfl
    have t2 : tAt s a1 0 (ofE e1) = a1 := by unfold tAt; rw [t4]; rfl
    have t3 : tT s a1 0 (ofE e1) = ⟨#[]⟩ := by unfold tT; rw [t4]; rfl
    rw [w0, t1, t2, t3, hg1.nil_iff, c1]
    exact ⟨⟨q0, q1, h2⟩, hk⟩
  | true =>
    obtain rfl := isNil_eq c1
    have f0 : rFail (ofE .nil) sec 7 a = ofE (.sec sec (.plc a (.cls 7))) := rfl
    rw [f0]
    cases c2 : v == 0 with
    | true =>
      have : decide (v ≥ 1) = false := by simp at c2 ⊢; omega
      rw [this] at hk; exact hk
    | false =>
      have d1 : decide (v ≥ 1) = true := by simp at c2 ⊢; omega
      cases c3 : decide (v > 16) with
      | true =>
        have : decide (v ≤ 16) = false := by simp at c3 ⊢; omega
        rw [this, Bool.and_false] at hk; exact hk
      | false =>
        have d2 : decide (v ≤ 16) = true := by simp at c3 ⊢; omega
        have d3 : needE Err.nil (true && true) sec 7 a = .nil := rfl
        have d4 : Err.nil.isNil = true := rfl
        rw [d1, d2, d3, d4] at hk
        simp only [cond_true] at hk
        have hp : 0 < v := by simp at d1; omega
        have hm : max v 0 = v := by omega
        rw [hm] at hk
        have t1 := GoodE.nil.tF (s := s) (a := a1) (n := v) sec q1
        have t2 := GoodE.nil.tAt (s := s) (a := a1) (n := v) q1
        have t3 : tT s a1 v (ofE .nil) = rdT s a1 v .nil := by unfold tT rdT; rw [GoodE.nil.tOk hp]
        rw [hm] at t1 t2
        rw [wrap_id v (by omega) (by omega), t1, t2, t3]
        refine ⟨⟨q0, q1, h2⟩, ?_⟩
        have hg3 : GoodE (rdE s a1 v sec .nil) := GoodE.nil.rd _ _ _ _
        have hn3 := rdE_nil s a1 v sec .nil
        have hb3 : (rdE s a1 v sec .nil).isNil = false → rdT s a1 v .nil = ⟨#[]⟩ := fun h => by
          rw [hn3] at h; unfold rdT; rw [h]; rfl
        generalize rdE s a1 v sec .nil = e3 at *
        generalize rdT s a1 v .nil = t at *
        rw [hg3.nil_iff]
        cases c4 : e3.isNil with
        | false =>
          rw [needE_bad c4, c4] at hk
          rw [hb3 c4]; exact hk
        | true =>
          obtain rfl := isNil_eq c4
          rw [f0]
          cases c5 : rightN t with
          | false => rw [c5] at hk; exact hk
          | true => rw [c5] at hk; exact hk
end Go.Ab.T
