import Derived.Test.YtiemgkjmifpfcaaDoorLaw05
set_option linter.unusedVariables false
set_option linter.unusedSimpArgs false
namespace Go.Ab.T
open Go Go.Ab Go.Proofs
set_option maxRecDepth 100000
set_option maxHeartbeats 4000000
noncomputable def L1b := base (fun g => match g with | 93 => some (lift 0 namesF) | 86 => some (lift 0 namesF) | 15 => some (lift 0 NewS) | 17 => some (lift 1 EnterS) | 52 => some (lift 1 FailS) | 49 => some (lift 1 NeedS) | 22 => some (lift 1 ErrS) | 50 => some (lift 1 numberS) | 20 => some (lift 1 U8S) | 26 => some (lift 1 U16S) | 27 => some (lift 1 U32S) | 28 => some (lift 1 U64S) | 18 => some (lift 1 TextS) | _ => none) (fun g => match g with | 70 => some nameS | 80 => some nameS | 45 => some newS | 47 => some atS | 79 => some inS | 91 => some sizeS | 92 => some rSizeS | 77 => some getS | 78 => some getS | 14 => some ofS | 19 => some FaultS | 21 => some PlaceS | 23 => some LeftS | 53 => some rFailS | 51 => some rNumS | 41 => some rTextS | 16 => some trueS | _ => none) (fun _ => none)
theorem env_L1b : EnvOk L1b := env_of (by
    intro g F h
    split at h
    · cases h; exact ok_Name
    · cases h; exact ok_rName
    · cases h; exact ok_New
    · cases h; exact ok_At
    · cases h; exact ok_In
    · cases h; exact ok_size
    · cases h; exact ok_rSize
    · cases h; exact ok_Get
    · cases h; exact ok_rGet
    · cases h; exact of_ok
    · cases h; exact ok_rFault
    · cases h; exact ok_Place
    · cases h; exact ok_Left
    · cases h; exact ok_rFail
    · cases h; exact ok_rNum
    · cases h; exact ok_rText
    · cases h; exact ok_awake05
    · cases h) (by
    intro g F h
    split at h
    · cases h; exact (lift_ok ok_rnames)
    · cases h; exact (lift_ok ok_names)
    · cases h; exact (lift_ok ok_rNew)
    · cases h; exact (lift_ok ok_Enter)
    · cases h; exact (lift_ok ok_Fail)
    · cases h; exact (lift_ok ok_Need)
    · cases h; exact (lift_ok ok_rErr)
    · cases h; exact (lift_ok ok_number)
    · cases h; exact (lift_ok ok_U8)
    · cases h; exact (lift_ok ok_U16)
    · cases h; exact (lift_ok ok_U32)
    · cases h; exact (lift_ok ok_U64)
    · cases h; exact (lift_ok ok_Text)
    · cases h) (fun g F h => (by cases h))
theorem fn_one : FnOk Tryd.prog 24 Tryd.f24 (bodyOf Tryd.f24) := ⟨by kernel_rfl, by kernel_rfl, by kernel_rfl⟩
noncomputable def ff_one : Fun := ⟨Tryd.f24.ntmps, 1, Tryd.f24.results.toList, fun _ => none, fun _ => false, fun i => match i with | 4 => [0,3] | 7 => [0,3] | 10 => [0,3] | 13 => [0,3] | 16 => [0,3] | 26 => [0,3] | _ => []⟩
theorem nf_one (A : KA Kd) (k : List PV → Heap Kd → Prop) (s : ByteArray) (a sec : Int) (e : Err) (f1 f2 f3 kd n kk : Int) (t : Bool) : evT L1b ff_one A k 400 false [.code (bodyOf Tryd.f24)] (startEnv 136 [.ptr 0 0, .agg [.str s, .int .i64 a, .int .i64 sec, .int .i64 f1, .int .i64 f2, .int .i64 f3], .agg [.int .i64 kd, .int .i64 n, .int .i64 kk, .bool t]]) [.box [.str s, .int .i64 a, .int .i64 sec, .err e]] =
    (bif kd == (1 : Int) then
  s.size < (4611686018427387904 : Nat) ∧
    ((0 : Int) ≤ a ∧ a ≤ (↑s.size : Int) ∧ s.size < (4611686018427387904 : Nat)) ∧
      k
        [PV.agg
            [PV.str s, PV.int IntKind.i64 (nAt s a (1 : Int) (f1, f2, f3)), PV.int IntKind.i64 sec,
              PV.int IntKind.i64 (nF s a (1 : Int) sec (f1, f2, f3)).fst,
              PV.int IntKind.i64 (nF s a (1 : Int) sec (f1, f2, f3)).snd.fst,
              PV.int IntKind.i64 (nF s a (1 : Int) sec (f1, f2, f3)).snd.snd],
          PV.bool (IntKind.u64.wrap (rdV s a (1 : Int) e) == nV s a (1 : Int) (f1, f2, f3))]
        [AObj.box
            [PV.str s, PV.int IntKind.i64 (rdAt s a (1 : Int) e), PV.int IntKind.i64 sec,
              PV.err (rdE s a (1 : Int) sec e)]]
else
  bif kd == (2 : Int) then
    s.size < (4611686018427387904 : Nat) ∧
      ((0 : Int) ≤ a ∧ a ≤ (↑s.size : Int) ∧ s.size < (4611686018427387904 : Nat)) ∧
        k
          [PV.agg
              [PV.str s, PV.int IntKind.i64 (nAt s a (2 : Int) (f1, f2, f3)), PV.int IntKind.i64 sec,
                PV.int IntKind.i64 (nF s a (2 : Int) sec (f1, f2, f3)).fst,
                PV.int IntKind.i64 (nF s a (2 : Int) sec (f1, f2, f3)).snd.fst,
                PV.int IntKind.i64 (nF s a (2 : Int) sec (f1, f2, f3)).snd.snd],
            PV.bool (IntKind.u64.wrap (rdV s a (2 : Int) e) == nV s a (2 : Int) (f1, f2, f3))]
          [AObj.box
              [PV.str s, PV.int IntKind.i64 (rdAt s a (2 : Int) e), PV.int IntKind.i64 sec,
                PV.err (rdE s a (2 : Int) sec e)]]
  else
    bif kd == (3 : Int) then
      s.size < (4611686018427387904 : Nat) ∧
        ((0 : Int) ≤ a ∧ a ≤ (↑s.size : Int) ∧ s.size < (4611686018427387904 : Nat)) ∧
          k
            [PV.agg
                [PV.str s, PV.int IntKind.i64 (nAt s a (4 : Int) (f1, f2, f3)), PV.int IntKind.i64 sec,
                  PV.int IntKind.i64 (nF s a (4 : Int) sec (f1, f2, f3)).fst,
                  PV.int IntKind.i64 (nF s a (4 : Int) sec (f1, f2, f3)).snd.fst,
                  PV.int IntKind.i64 (nF s a (4 : Int) sec (f1, f2, f3)).snd.snd],
              PV.bool (IntKind.u64.wrap (rdV s a (4 : Int) e) == nV s a (4 : Int) (f1, f2, f3))]
            [AObj.box
                [PV.str s, PV.int IntKind.i64 (rdAt s a (4 : Int) e), PV.int IntKind.i64 sec,
                  PV.err (rdE s a (4 : Int) sec e)]]
    else
      bif kd == (4 : Int) then
        s.size < (4611686018427387904 : Nat) ∧
          ((0 : Int) ≤ a ∧ a ≤ (↑s.size : Int) ∧ s.size < (4611686018427387904 : Nat)) ∧
            k
              [PV.agg
                  [PV.str s, PV.int IntKind.i64 (nAt s a (8 : Int) (f1, f2, f3)), PV.int IntKind.i64 sec,
                    PV.int IntKind.i64 (nF s a (8 : Int) sec (f1, f2, f3)).fst,
                    PV.int IntKind.i64 (nF s a (8 : Int) sec (f1, f2, f3)).snd.fst,
                    PV.int IntKind.i64 (nF s a (8 : Int) sec (f1, f2, f3)).snd.snd],
                PV.bool (rdV s a (8 : Int) e == nV s a (8 : Int) (f1, f2, f3))]
              [AObj.box
                  [PV.str s, PV.int IntKind.i64 (rdAt s a (8 : Int) e), PV.int IntKind.i64 sec,
                    PV.err (rdE s a (8 : Int) sec e)]]
      else
        bif kd == (5 : Int) then
          ((0 : Int) ≤ a ∧ a ≤ (↑s.size : Int) ∧ s.size < (4611686018427387904 : Nat)) ∧
            ((0 : Int) ≤ a ∧ a ≤ (↑s.size : Int) ∧ s.size < (4611686018427387904 : Nat)) ∧
              k
                [PV.agg
                    [PV.str s, PV.int IntKind.i64 (tAt s a n (f1, f2, f3)), PV.int IntKind.i64 sec,
                      PV.int IntKind.i64 (tF s a n sec (f1, f2, f3)).fst,
                      PV.int IntKind.i64 (tF s a n sec (f1, f2, f3)).snd.fst,
                      PV.int IntKind.i64 (tF s a n sec (f1, f2, f3)).snd.snd],
                  PV.bool ((rdT s a (max n (0 : Int)) e).toList == (tT s a n (f1, f2, f3)).toList)]
                [AObj.box
                    [PV.str s, PV.int IntKind.i64 (rdAt s a (max n (0 : Int)) e), PV.int IntKind.i64 sec,
                      PV.err (rdE s a (max n (0 : Int)) sec e)]]
        else
          bif kd == (6 : Int) then
            k
              [PV.agg
                  [PV.str s, PV.int IntKind.i64 a, PV.int IntKind.i64 n, PV.int IntKind.i64 f1, PV.int IntKind.i64 f2,
                    PV.int IntKind.i64 f3],
                PV.bool true]
              [AObj.box [PV.str s, PV.int IntKind.i64 a, PV.int IntKind.i64 n, PV.err e]]
          else
            bif kd == (7 : Int) then
              k
                [PV.agg
                    [PV.str s, PV.int IntKind.i64 a, PV.int IntKind.i64 sec,
                      PV.int IntKind.i64 (rFail (f1, f2, f3) sec kk n).fst,
                      PV.int IntKind.i64 (rFail (f1, f2, f3) sec kk n).snd.fst,
                      PV.int IntKind.i64 (rFail (f1, f2, f3) sec kk n).snd.snd],
                  PV.bool true]
                [AObj.box [PV.str s, PV.int IntKind.i64 a, PV.int IntKind.i64 sec, PV.err (failR e sec kk n)]]
            else
              bif kd == (8 : Int) then
                bif !t then
                  k
                    [PV.agg
                        [PV.str s, PV.int IntKind.i64 a, PV.int IntKind.i64 sec,
                          PV.int IntKind.i64 (rFail (f1, f2, f3) sec kk n).fst,
                          PV.int IntKind.i64 (rFail (f1, f2, f3) sec kk n).snd.fst,
                          PV.int IntKind.i64 (rFail (f1, f2, f3) sec kk n).snd.snd],
                      PV.bool ((needE e t sec kk n).isNil == ((rFail (f1, f2, f3) sec kk n).fst == (0 : Int)))]
                    [AObj.box [PV.str s, PV.int IntKind.i64 a, PV.int IntKind.i64 sec, PV.err (needE e t sec kk n)]]
                else
                  k
                    [PV.agg
                        [PV.str s, PV.int IntKind.i64 a, PV.int IntKind.i64 sec, PV.int IntKind.i64 f1,
                          PV.int IntKind.i64 f2, PV.int IntKind.i64 f3],
                      PV.bool ((needE e t sec kk n).isNil == (f1 == (0 : Int)))]
                    [AObj.box [PV.str s, PV.int IntKind.i64 a, PV.int IntKind.i64 sec, PV.err (needE e t sec kk n)]]
              else
                k
                  [PV.agg
                      [PV.str s, PV.int IntKind.i64 a, PV.int IntKind.i64 sec, PV.int IntKind.i64 f1,
                        PV.int IntKind.i64 f2, PV.int IntKind.i64 f3],
                    PV.bool true]
                  [AObj.box [PV.str s, PV.int IntKind.i64 a, PV.int IntKind.i64 sec, PV.err e]]) := by kernel_rfl
def oneS : List PV → Heap Kd → (List PV → Heap Kd → Prop) → Prop := fun ys L k => match ys, L with
  | [.ptr 0 0, .agg [.str s, .int .i64 a, .int .i64 sec, .int .i64 f1, .int .i64 f2, .int .i64 f3], .agg [.int .i64 kd, .int .i64 n, .int .i64 kk, .bool t]], [.box [.str s2, .int .i64 a2, .int .i64 sec2, .err e]] =>
    (s2 = s ∧ a2 = a ∧ sec2 = sec ∧ (f1, f2, f3) = ofE e ∧ GoodE e ∧ 0 ≤ a ∧ a ≤ (s.size : Int) ∧ s.size < 4611686018427387904) ∧
      ∀ (a1 sec1 : Int) (e1 : Err), GoodE e1 → 0 ≤ a1 → a1 ≤ (s.size : Int) →
        k [.agg [.str s, .int .i64 a1, .int .i64 sec1, .int .i64 (ofE e1).1, .int .i64 (ofE e1).2.1, .int .i64 (ofE e1).2.2], .bool true] [.box [.str s, .int .i64 a1, .int .i64 sec1, .err e1]]
  | _, _ => False
theorem ok_one : FunF B 24 1 oneS := by
  refine funF_of (N := 136) (f := ff_one) env_L1b mixed fn_one (by kernel_rfl) (by kernel_rfl) ?_
  intro A k ys L hA hF
  unfold oneS at hF
  split at hF
  · rename_i s a sec f1 f2 f3 kd n kk t s2 a2 sec2 e
    obtain ⟨⟨rfl, rfl, rfl, hf, hg, h0, h1, h2⟩, hk⟩ := hF
    refine ⟨by kernel_rfl, (hA.nf (nf_one A k s2 a2 sec2 e f1 f2 f3 kd n kk t) ?_)⟩
    rw [hf]
    obtain rfl : f1 = (ofE e).1 := congrArg (·.1) hf
    obtain rfl : f2 = (ofE e).2.1 := congrArg (·.2.1) hf
    obtain rfl : f3 = (ofE e).2.2 := congrArg (·.2.2) hf
    have num : ∀ m : Int, sizeOk m = true → k [PV.agg [PV.str s2, PV.int .i64 (nAt s2 a2 m (ofE e)), PV.int .i64 sec2, PV.int .i64 (nF s2 a2 m sec2 (ofE e)).1, PV.int .i64 (nF s2 a2 m sec2 (ofE e)).2.1, PV.int .i64 (nF s2 a2 m sec2 (ofE e)).2.2], PV.bool true]
        [AObj.box [PV.str s2, PV.int .i64 (rdAt s2 a2 m e), PV.int .i64 sec2, PV.err (rdE s2 a2 m sec2 e)]] := by
      intro m hm
      rw [hg.nAt h0 h1 hm, hg.nF sec2 h0 h1 hm]
      have hm1 := sizeOk_cases hm
      obtain ⟨q0, q1⟩ := rdAt_le (e := e) (n := m) h0 h1 (by omega)
      exact hk _ _ _ (hg.rd _ _ _ _) q0 q1
    have val : ∀ m : Int, sizeOk m = true → (IntKind.u64.wrap (rdV s2 a2 m e) == nV s2 a2 m (ofE e)) = true ∧ (rdV s2 a2 m e == nV s2 a2 m (ofE e)) = true := by
      intro m hm
      obtain ⟨q0, q1⟩ := rdV_bound s2 a2 m e hm
      rw [hg.nV h0 h1 hm, u64_id _ q0 q1]
      simp
    cases c1 : kd == 1 with
    | true => rw [(val 1 rfl).1]; exact ⟨h2, ⟨h0, h1, h2⟩, num 1 rfl⟩
    | false =>
    cases c2 : kd == 2 with
    | true => rw [(val 2 rfl).1]; exact ⟨h2, ⟨h0, h1, h2⟩, num 2 rfl⟩
    | false =>
    cases c3 : kd == 3 with
    | true => rw [(val 4 rfl).1]; exact ⟨h2, ⟨h0, h1, h2⟩, num 4 rfl⟩
    | false =>
    cases c4 : kd == 4 with
    | true => rw [(val 8 rfl).2]; exact ⟨h2, ⟨h0, h1, h2⟩, num 8 rfl⟩
    | false =>
    cases c5 : kd == 5 with
    | true =>
      rw [hg.tAt h1, hg.tF sec2 h1, hg.tT h0]
      obtain ⟨q0, q1⟩ := rdAt_le (e := e) (n := max n 0) h0 h1 (by omega)
      exact ⟨⟨h0, h1, h2⟩, ⟨h0, h1, h2⟩, hk _ _ _ (hg.rd _ _ _ _) q0 q1⟩
    | false =>
    cases c6 : kd == 6 with
    | true => exact hk _ _ _ hg h0 h1
    | false =>
    cases c7 : kd == 7 with
    | true =>
      rw [← hg.ofE_fail]
      exact hk _ _ _ (hg.fail _ _ _) h0 h1
    | false =>
    cases c8 : kd == 8 with
    | true =>
      cases t with
      | false =>
        have e1 : needE e false sec2 kk n = failR e sec2 kk n := rfl
        rw [e1, ← hg.ofE_fail, (hg.fail sec2 kk n).nil_iff, beq_self_eq_true]
        exact hk _ _ _ (hg.fail _ _ _) h0 h1
      | true =>
        have e1 : needE e true sec2 kk n = e := rfl
        rw [e1, hg.nil_iff, beq_self_eq_true]
        exact hk _ _ _ hg h0 h1
    | false => exact hk _ _ _ hg h0 h1
  · exact hF.elim
noncomputable def L2 := base (fun g => match g with | 93 => some (lift 0 namesF) | 86 => some (lift 0 namesF) | 15 => some (lift 0 NewS) | 17 => some (lift 1 EnterS) | 52 => some (lift 1 FailS) | 49 => some (lift 1 NeedS) | 22 => some (lift 1 ErrS) | 50 => some (lift 1 numberS) | 20 => some (lift 1 U8S) | 26 => some (lift 1 U16S) | 27 => some (lift 1 U32S) | 28 => some (lift 1 U64S) | 18 => some (lift 1 TextS) | 24 => some (lift 1 oneS) | _ => none) (fun g => match g with | 70 => some nameS | 80 => some nameS | 45 => some newS | 47 => some atS | 79 => some inS | 91 => some sizeS | 92 => some rSizeS | 77 => some getS | 78 => some getS | 14 => some ofS | 19 => some FaultS | 21 => some PlaceS | 23 => some LeftS | 53 => some rFailS | 51 => some rNumS | 41 => some rTextS | 16 => some trueS | _ => none) (fun _ => none)
theorem env_L2 : EnvOk L2 := env_of (by
    intro g F h
    split at h
    · cases h; exact ok_Name
    · cases h; exact ok_rName
    · cases h; exact ok_New
    · cases h; exact ok_At
    · cases h; exact ok_In
    · cases h; exact ok_size
    · cases h; exact ok_rSize
    · cases h; exact ok_Get
    · cases h; exact ok_rGet
    · cases h; exact of_ok
    · cases h; exact ok_rFault
    · cases h; exact ok_Place
    · cases h; exact ok_Left
    · cases h; exact ok_rFail
    · cases h; exact ok_rNum
    · cases h; exact ok_rText
    · cases h; exact ok_awake05
    · cases h) (by
    intro g F h
    split at h
    · cases h; exact (lift_ok ok_rnames)
    · cases h; exact (lift_ok ok_names)
    · cases h; exact (lift_ok ok_rNew)
    · cases h; exact (lift_ok ok_Enter)
    · cases h; exact (lift_ok ok_Fail)
    · cases h; exact (lift_ok ok_Need)
    · cases h; exact (lift_ok ok_rErr)
    · cases h; exact (lift_ok ok_number)
    · cases h; exact (lift_ok ok_U8)
    · cases h; exact (lift_ok ok_U16)
    · cases h; exact (lift_ok ok_U32)
    · cases h; exact (lift_ok ok_U64)
    · cases h; exact (lift_ok ok_Text)
    · cases h; exact (lift_ok ok_one)
    · cases h) (fun g F h => (by cases h))
theorem fn_ReaderReads : FnOk Tryd.prog 5 Tryd.f5 (bodyOf Tryd.f5) := ⟨by kernel_rfl, by kernel_rfl, by kernel_rfl⟩
noncomputable def ff_ReaderReads : Fun := ⟨Tryd.f5.ntmps, 0, Tryd.f5.results.toList, fun i => match i with | 6 => some [0, 5, 6, 32, 33, 34] | _ => none, fun _ => false, fun i => match i with | 10 => [0] | _ => []⟩
theorem nf_RR_a (A : KA Kd) (k : List PV → Heap Kd → Prop) (s : ByteArray) (l : List (Int × Int × Int × Bool)) : evT L2 ff_ReaderReads A k 400 false [.code (bodyOf Tryd.f5)] (startEnv 84 [.str s, .sl _ e_countwheellaw05_Op l]) [] =
    (bif decide ((↑s.size : Int) > (300 : Int)) then k [PV.bool true] []
else
  bif decide ((↑l.length : Int) > (60 : Int)) then k [PV.bool true] []
  else
    A (td Tryd.f5 (6 : Nat))
      (envAt (84 : Nat)
        [((0 : Nat), PV.str s), ((5 : Nat), PV.ptr (0 : Nat) (0 : Nat)), ((6 : Nat), PV.ptr (1 : Nat) (0 : Nat)),
          ((32 : Nat), PV.sl (Int × Int × Int × Bool) e_countwheellaw05_Op l),
          ((33 : Nat), PV.int IntKind.i64 (↑l.length : Int)), ((34 : Nat), PV.int IntKind.i64 (0 : Int))])
      [AObj.box [PV.str s, PV.int IntKind.i64 (0 : Int), PV.int IntKind.i64 (0 : Int), PV.err Err.nil],
        AObj.box
          [PV.str s, PV.int IntKind.i64 (0 : Int), PV.int IntKind.i64 (0 : Int), PV.int IntKind.i64 (0 : Int),
            PV.int IntKind.i64 (0 : Int), PV.int IntKind.i64 (0 : Int)]]) := by kernel_rfl
theorem nf_RR_b (A : KA Kd) (k : List PV → Heap Kd → Prop) (s : ByteArray) (l : List (Int × Int × Int × Bool)) (a sec i : Int) (e : Err) : evT L2 ff_ReaderReads A k 400 true (td Tryd.f5 6) (envAt 84 [(0, .str s), (5, .ptr 0 0), (6, .ptr 1 0), (32, .sl _ e_countwheellaw05_Op l), (33, .int .i64 l.length), (34, .int .i64 i)]) [.box [.str s, .int .i64 a, .int .i64 sec, .err e], .box [.str s, .int .i64 a, .int .i64 sec, .int .i64 (ofE e).1, .int .i64 (ofE e).2.1, .int .i64 (ofE e).2.2]] =
    (bif decide (i < (↑l.length : Int)) then
  ((0 : Int) ≤ i ∧ i < (↑l.length : Int)) ∧
    ∀ (y : Int × Int × Int × Bool),
      l[i.toNat]? = some y →
        (s = s ∧
            a = a ∧
              sec = sec ∧
                ((ofE e).fst, (ofE e).snd.fst, (ofE e).snd.snd) = ofE e ∧
                  GoodE e ∧ (0 : Int) ≤ a ∧ a ≤ (↑s.size : Int) ∧ s.size < (4611686018427387904 : Nat)) ∧
          ∀ (a1 sec1 : Int) (e1 : Err),
            GoodE e1 →
              (0 : Int) ≤ a1 →
                a1 ≤ (↑s.size : Int) →
                  bif
                      !((ofE e1).fst == (ofE e1).fst &&
                          ((ofE e1).snd.fst == (ofE e1).snd.fst && ((ofE e1).snd.snd == (ofE e1).snd.snd && true))) then
                    k [PV.bool false] []
                  else
                    bif a1 != a1 then k [PV.bool false] []
                    else
                      ((0 : Int) ≤ a1 ∧ a1 ≤ (↑s.size : Int) ∧ s.size < (4611686018427387904 : Nat)) ∧
                        bif (↑s.size : Int) - a1 != IntKind.i64.wrap ((↑s.size : Int) - a1) then k [PV.bool false] []
                        else
                          bif !(!e1.isNil) == ((ofE e1).fst != (0 : Int)) then k [PV.bool false] []
                          else
                            A (td Tryd.f5 (6 : Nat))
                              (envAt (84 : Nat)
                                [((0 : Nat), PV.str s), ((5 : Nat), PV.ptr (0 : Nat) (0 : Nat)),
                                  ((6 : Nat), PV.ptr (1 : Nat) (0 : Nat)),
                                  ((32 : Nat), PV.sl (Int × Int × Int × Bool) e_countwheellaw05_Op l),
                                  ((33 : Nat), PV.int IntKind.i64 (↑l.length : Int)),
                                  ((34 : Nat), PV.int IntKind.i64 (IntKind.i64.wrap (i + (1 : Int))))])
                              [AObj.box [PV.str s, PV.int IntKind.i64 a1, PV.int IntKind.i64 sec1, PV.err e1],
                                AObj.box
                                  [PV.str s, PV.int IntKind.i64 a1, PV.int IntKind.i64 sec1,
                                    PV.int IntKind.i64 (ofE e1).fst, PV.int IntKind.i64 (ofE e1).snd.fst,
                                    PV.int IntKind.i64 (ofE e1).snd.snd]]
else k [PV.bool true] []) := by kernel_rfl
def lawRRS : SpecS := fun ys Φ => match ys with
  | [.str s, x_1] => ∃ (l : List (Int × Int × Int × Bool)), x_1 = .sl _ e_countwheellaw05_Op l ∧ Φ [.bool true]
  | _ => False
theorem lawRRS_mono : MonoS lawRRS := by
  intro ys Φ Ψ h hF
  unfold lawRRS at hF ⊢
  split at hF
  · obtain ⟨a0, q0, hk⟩ := hF; exact ⟨a0, q0, h _ hk⟩
  · exact hF.elim
theorem lawRRS_inv {ys : List PV} {Φ : List PV → Prop} (h : lawRRS ys Φ) : ∃ (s : ByteArray) (l : List (Int × Int × Int × Bool)), ys = [.str s, .sl _ e_countwheellaw05_Op l] ∧ Φ [.bool true] := by
  unfold lawRRS at h
  split at h
  · obtain ⟨a0, q0, hz⟩ := h
    subst q0
    exact ⟨_, a0, rfl, hz⟩
  · exact h.elim
theorem ok_RR : FunS B 5 lawRRS := by
  refine funS_of (N := 84) (f := ff_ReaderReads) env_L2 mixed fn_ReaderReads (by kernel_rfl) (by kernel_rfl) (by kernel_rfl) lawRRS_mono ?_
  intro A k ys hA hF
  obtain ⟨s, l, rfl, hk⟩ := lawRRS_inv hF; clear hF
  refine ⟨by kernel_rfl, (hA.nf (nf_RR_a A k s l) ?_)⟩
  cases h1 : decide ((s.size : Int) > 300) with
  | true => exact hk
  | false =>
    cases h2 : decide ((l.length : Int) > 60) with
    | true => exact hk
    | false =>
      rw [decide_eq_false_iff_not] at h1 h2
      refine down_loop l (fun i => ∀ (a sec : Int) (e : Err), GoodE e → 0 ≤ a → a ≤ (s.size : Int) → A (td Tryd.f5 6) (envAt 84 [(0, .str s), (5, .ptr 0 0), (6, .ptr 1 0), (32, .sl _ e_countwheellaw05_Op l), (33, .int .i64 l.length), (34, .int .i64 (i : Int))])
        [.box [.str s, .int .i64 a, .int .i64 sec, .err e], .box [.str s, .int .i64 a, .int .i64 sec, .int .i64 (ofE e).1, .int .i64 (ofE e).2.1, .int .i64 (ofE e).2.2]]) ?_ ?_ 0 (Nat.zero_le _) 0 0 .nil .nil (Int.le_refl _) (by omega)
      · intro a sec e he h0 h3
        refine (hA.nf (nf_RR_b A k s l a sec _ e) ?_)
        rw [ilt_false (Nat.lt_irrefl _)]
        exact hk
      · intro i y hy ih a sec e he h0 h3
        refine (hA.nf (nf_RR_b A k s l a sec _ e) ?_)
        have hlt := lt_of_get hy
        rw [ilt_true hlt]
        refine get_at hy ⟨⟨rfl, rfl, rfl, rfl, he, h0, h3, by omega⟩, fun a1 sec1 e1 he1 h01 h31 => ?_⟩
        rw [wrap_id ((s.size : Int) - a1) (by omega) (by omega), wrap_succ (by omega)]
        have e2 : ((ofE e1).1 != 0) = !e1.isNil := by rw [bne, he1.nil_iff]
        rw [e2]
        simp only [beq_self_eq_true, bne_self_eq_false, Bool.and_true, Bool.not_true, cond_false]
        exact ⟨⟨h01, h31, by omega⟩, ih a1 sec1 e1 he1 h01 h31⟩
  
theorem pre_ReaderReads (s : ByteArray) (l : List (Int × Int × Int × Bool)) (_ : g_o9 s) (_ : g_o46 l) : lawRRS [a_o9 s, a_o46 l] fun rs => rs = [.bool true] :=
  ⟨_, rfl, rfl⟩
end Go.Ab.T
