import Derived.Test.YtiemgkjmifpfcaaDoorReader
import Derived.Test.YtiemgkjmifpfcaaDoorRef05
import Derived.Test.YtiemgkjmifpfcaaDoorOp
set_option linter.unusedVariables false
set_option linter.unusedSimpArgs false
namespace Go.Ab.T
open Go Go.Ab Go.Proofs
set_option maxRecDepth 100000
set_option maxHeartbeats 4000000
noncomputable def L0 := base (fun g => match g with | 93 => some (lift 0 namesF) | 86 => some (lift 0 namesF) | 15 => some (lift 0 NewS) | 17 => some (lift 1 EnterS) | 52 => some (lift 1 FailS) | 49 => some (lift 1 NeedS) | 22 => some (lift 1 ErrS) | 50 => some (lift 1 numberS) | 20 => some (lift 1 U8S) | 26 => some (lift 1 U16S) | 27 => some (lift 1 U32S) | 28 => some (lift 1 U64S) | 18 => some (lift 1 TextS) | _ => none) (fun g => match g with | 70 => some nameS | 80 => some nameS | 45 => some newS | 47 => some atS | 79 => some inS | 91 => some sizeS | 92 => some rSizeS | 77 => some getS | 78 => some getS | 14 => some ofS | 19 => some FaultS | 21 => some PlaceS | 23 => some LeftS | 53 => some rFailS | 51 => some rNumS | 41 => some rTextS | _ => none) (fun _ => none)
theorem env_L0 : EnvOk L0 := env_of (by
    intro g F h
    split at h
    · cases h; exact ok_Name
    · cases h; exact ok_rName
    · cases h; exact ok_New
    · cases h; exact ok_At
    · cases h; exact ok_In
    · cases h; exact ok_size
    · cases h; exact ok_rSize
    · cases h; exact ok_Get
    · cases h; exact ok_rGet
    · cases h; exact of_ok
    · cases h; exact ok_rFault
    · cases h; exact ok_Place
    · cases h; exact ok_Left
    · cases h; exact ok_rFail
    · cases h; exact ok_rNum
    · cases h; exact ok_rText
    · cases h) (by
    intro g F h
    split at h
    · cases h; exact (lift_ok ok_rnames)
    · cases h; exact (lift_ok ok_names)
    · cases h; exact (lift_ok ok_rNew)
    · cases h; exact (lift_ok ok_Enter)
    · cases h; exact (lift_ok ok_Fail)
    · cases h; exact (lift_ok ok_Need)
    · cases h; exact (lift_ok ok_rErr)
    · cases h; exact (lift_ok ok_number)
    · cases h; exact (lift_ok ok_U8)
    · cases h; exact (lift_ok ok_U16)
    · cases h; exact (lift_ok ok_U32)
    · cases h; exact (lift_ok ok_U64)
    · cases h; exact (lift_ok ok_Text)
    · cases h) (fun g F h => (by cases h))
def trueS : SpecS := fun ys Φ => match ys with
  | [] => Φ [.bool true]
  | _ => False
theorem trueS_mono : MonoS trueS := by
  intro ys Φ Ψ h hF
  unfold trueS at hF ⊢
  split at hF
  · exact h _ hF
  · exact hF.elim
theorem trueS_inv {ys : List PV} {Φ : List PV → Prop} (h : trueS ys Φ) : ys = [] ∧ Φ [.bool true] := by
  unfold trueS at h
  split at h
  · exact ⟨rfl, h⟩
  · exact h.elim
theorem fn_awake05 : FnOk Tryd.prog 16 Tryd.f16 (bodyOf Tryd.f16) := ⟨by kernel_rfl, by kernel_rfl, by kernel_rfl⟩
noncomputable def ff_awake05 : Fun := ⟨Tryd.f16.ntmps, 0, Tryd.f16.results.toList, fun _ => none, fun _ => false, fun _ => []⟩
theorem nf_awake05 (A : KA Kd) (k : List PV → Heap Kd → Prop)  : evT L0 ff_awake05 A k 400 false [.code (bodyOf Tryd.f16)] (startEnv 25 []) [] =
    (((0 : Int) ≤ (0 : Int) ∧
    (0 : Int) ≤ (↑(ByteArray.mk #[(1 : UInt8), (2 : UInt8), (3 : UInt8)]).size : Int) ∧
      (ByteArray.mk #[(1 : UInt8), (2 : UInt8), (3 : UInt8)]).size < (4611686018427387904 : Nat)) ∧
  ((0 : Int) ≤ rdAt (ByteArray.mk #[(1 : UInt8), (2 : UInt8), (3 : UInt8)]) (0 : Int) (2 : Int) Err.nil ∧
      rdAt (ByteArray.mk #[(1 : UInt8), (2 : UInt8), (3 : UInt8)]) (0 : Int) (2 : Int) Err.nil ≤
          (↑(ByteArray.mk #[(1 : UInt8), (2 : UInt8), (3 : UInt8)]).size : Int) ∧
        (ByteArray.mk #[(1 : UInt8), (2 : UInt8), (3 : UInt8)]).size < (4611686018427387904 : Nat)) ∧
    k
      [PV.bool
          ((ofE
                  (rdE (ByteArray.mk #[(1 : UInt8), (2 : UInt8), (3 : UInt8)])
                    (rdAt (ByteArray.mk #[(1 : UInt8), (2 : UInt8), (3 : UInt8)]) (0 : Int) (2 : Int) Err.nil) (2 : Int)
                    (2 : Int)
                    (rdE (ByteArray.mk #[(1 : UInt8), (2 : UInt8), (3 : UInt8)]) (0 : Int) (2 : Int) (2 : Int)
                      Err.nil))).fst ==
              (2 : Int) &&
            ((ofE
                      (rdE (ByteArray.mk #[(1 : UInt8), (2 : UInt8), (3 : UInt8)])
                        (rdAt (ByteArray.mk #[(1 : UInt8), (2 : UInt8), (3 : UInt8)]) (0 : Int) (2 : Int) Err.nil)
                        (2 : Int) (2 : Int)
                        (rdE (ByteArray.mk #[(1 : UInt8), (2 : UInt8), (3 : UInt8)]) (0 : Int) (2 : Int) (2 : Int)
                          Err.nil))).snd.fst ==
                (2 : Int) &&
              ((ofE
                        (rdE (ByteArray.mk #[(1 : UInt8), (2 : UInt8), (3 : UInt8)])
                          (rdAt (ByteArray.mk #[(1 : UInt8), (2 : UInt8), (3 : UInt8)]) (0 : Int) (2 : Int) Err.nil)
                          (2 : Int) (2 : Int)
                          (rdE (ByteArray.mk #[(1 : UInt8), (2 : UInt8), (3 : UInt8)]) (0 : Int) (2 : Int) (2 : Int)
                            Err.nil))).snd.snd ==
                  (2 : Int) &&
                true)))]
      []) := by kernel_rfl
theorem ok_awake05 : FunS B 16 trueS := by
  refine funS_of (N := 25) (f := ff_awake05) env_L0 mixed fn_awake05 (by kernel_rfl) (by kernel_rfl) (by kernel_rfl) trueS_mono ?_
  intro A k ys hA hF
  obtain ⟨rfl, hk⟩ := trueS_inv hF; clear hF
  refine ⟨by kernel_rfl, (hA.nf (nf_awake05 A k) ?_)⟩
  exact by_nf (q := ((0 : Int) ≤ 0 ∧ (0 : Int) ≤ 3 ∧ 3 < 4611686018427387904) ∧ ((0 : Int) ≤ 2 ∧ (2 : Int) ≤ 3 ∧ 3 < 4611686018427387904) ∧ k [.bool true] []) (by kernel_rfl) ⟨by decide, by decide, hk⟩
noncomputable def L1 := base (fun g => match g with | 93 => some (lift 0 namesF) | 86 => some (lift 0 namesF) | 15 => some (lift 0 NewS) | 17 => some (lift 1 EnterS) | 52 => some (lift 1 FailS) | 49 => some (lift 1 NeedS) | 22 => some (lift 1 ErrS) | 50 => some (lift 1 numberS) | 20 => some (lift 1 U8S) | 26 => some (lift 1 U16S) | 27 => some (lift 1 U32S) | 28 => some (lift 1 U64S) | 18 => some (lift 1 TextS) | _ => none) (fun g => match g with | 70 => some nameS | 80 => some nameS | 45 => some newS | 47 => some atS | 79 => some inS | 91 => some sizeS | 92 => some rSizeS | 77 => some getS | 78 => some getS | 14 => some ofS | 19 => some FaultS | 21 => some PlaceS | 23 => some LeftS | 53 => some rFailS | 51 => some rNumS | 41 => some rTextS | 16 => some trueS | _ => none) (fun _ => none)
theorem env_L1 : EnvOk L1 := env_of (by
    intro g F h
    split at h
    · cases h; exact ok_Name
    · cases h; exact ok_rName
    · cases h; exact ok_New
    · cases h; exact ok_At
    · cases h; exact ok_In
    · cases h; exact ok_size
    · cases h; exact ok_rSize
    · cases h; exact ok_Get
    · cases h; exact ok_rGet
    · cases h; exact of_ok
    · cases h; exact ok_rFault
    · cases h; exact ok_Place
    · cases h; exact ok_Left
    · cases h; exact ok_rFail
    · cases h; exact ok_rNum
    · cases h; exact ok_rText
    · cases h; exact ok_awake05
    · cases h) (by
    intro g F h
    split at h
    · cases h; exact (lift_ok ok_rnames)
    · cases h; exact (lift_ok ok_names)
    · cases h; exact (lift_ok ok_rNew)
    · cases h; exact (lift_ok ok_Enter)
    · cases h; exact (lift_ok ok_Fail)
    · cases h; exact (lift_ok ok_Need)
    · cases h; exact (lift_ok ok_rErr)
    · cases h; exact (lift_ok ok_number)
    · cases h; exact (lift_ok ok_U8)
    · cases h; exact (lift_ok ok_U16)
    · cases h; exact (lift_ok ok_U32)
    · cases h; exact (lift_ok ok_U64)
    · cases h; exact (lift_ok ok_Text)
    · cases h) (fun g F h => (by cases h))
theorem fn_ReaderPieces : FnOk Tryd.prog 4 Tryd.f4 (bodyOf Tryd.f4) := ⟨by kernel_rfl, by kernel_rfl, by kernel_rfl⟩
noncomputable def ff_ReaderPieces : Fun := ⟨Tryd.f4.ntmps, 0, Tryd.f4.results.toList, fun i => match i with | 7 => some [0, 2, 7, 8, 35, 36, 37] | _ => none, fun _ => false, fun _ => []⟩
theorem nf_RP_a (A : KA Kd) (k : List PV → Heap Kd → Prop) (s : ByteArray) (l : List Int) (sec : Int) : evT L1 ff_ReaderPieces A k 400 false [.code (bodyOf Tryd.f4)] (startEnv 114 [.str s, .sl _ e_int l, .int .i64 sec]) [] =
    (bif decide ((↑s.size : Int) > (300 : Int)) then k [PV.bool true] []
else
  bif decide ((↑l.length : Int) > (60 : Int)) then k [PV.bool true] []
  else
    A (td Tryd.f4 (7 : Nat))
      (envAt (114 : Nat)
        [((0 : Nat), PV.str s), ((2 : Nat), PV.int IntKind.i64 sec), ((7 : Nat), PV.ptr (0 : Nat) (0 : Nat)),
          ((8 : Nat), PV.int IntKind.i64 (0 : Int)), ((35 : Nat), PV.sl Int e_int l),
          ((36 : Nat), PV.int IntKind.i64 (↑l.length : Int)), ((37 : Nat), PV.int IntKind.i64 (0 : Int))])
      [AObj.box [PV.str s, PV.int IntKind.i64 (0 : Int), PV.int IntKind.i64 sec, PV.err Err.nil]]) := by kernel_rfl
theorem nf_RP_b (A : KA Kd) (k : List PV → Heap Kd → Prop) (s : ByteArray) (l : List Int) (sec a i : Int) : evT L1 ff_ReaderPieces A k 400 true (td Tryd.f4 7) (envAt 114 [(0, .str s), (2, .int .i64 sec), (7, .ptr 0 0), (8, .int .i64 a), (35, .sl _ e_int l), (36, .int .i64 l.length), (37, .int .i64 i)]) [.box [.str s, .int .i64 a, .int .i64 sec, .err .nil]] =
    (bif decide (i < (↑l.length : Int)) then
  ((0 : Int) ≤ i ∧ i < (↑l.length : Int)) ∧
    ∀ (y : Int),
      l[i.toNat]? = some y →
        ((0 : Int) ≤ a ∧ a ≤ (↑s.size : Int) ∧ s.size < (4611686018427387904 : Nat)) ∧
          bif decide (mmI true y (0 : Int) > IntKind.i64.wrap ((↑s.size : Int) - a)) then
            bif (rdT s a (max y (0 : Int)) Err.nil).toList == (ByteArray.mk #[]).toList then
              bif
                  (ofE (rdE s a (max y (0 : Int)) sec Err.nil)).fst == (2 : Int) &&
                    ((ofE (rdE s a (max y (0 : Int)) sec Err.nil)).snd.fst == sec &&
                      ((ofE (rdE s a (max y (0 : Int)) sec Err.nil)).snd.snd == a && true)) then
                ((0 : Int) ≤ rdAt s a (max y (0 : Int)) Err.nil ∧
                    rdAt s a (max y (0 : Int)) Err.nil ≤ (↑s.size : Int) ∧ s.size < (4611686018427387904 : Nat)) ∧
                  bif
                      (rdT s (rdAt s a (max y (0 : Int)) Err.nil) (max (0 : Int) (0 : Int))
                            (rdE s a (max y (0 : Int)) sec Err.nil)).toList ==
                        (ByteArray.mk #[]).toList then
                    ((0 : Int) ≤
                          rdAt s (rdAt s a (max y (0 : Int)) Err.nil) (max (0 : Int) (0 : Int))
                            (rdE s a (max y (0 : Int)) sec Err.nil) ∧
                        rdAt s (rdAt s a (max y (0 : Int)) Err.nil) (max (0 : Int) (0 : Int))
                              (rdE s a (max y (0 : Int)) sec Err.nil) ≤
                            (↑s.size : Int) ∧
                          s.size < (4611686018427387904 : Nat)) ∧
                      bif
                          rdV s
                              (rdAt s (rdAt s a (max y (0 : Int)) Err.nil) (max (0 : Int) (0 : Int))
                                (rdE s a (max y (0 : Int)) sec Err.nil))
                              (1 : Int)
                              (rdE s (rdAt s a (max y (0 : Int)) Err.nil) (max (0 : Int) (0 : Int)) sec
                                (rdE s a (max y (0 : Int)) sec Err.nil)) ==
                            (0 : Int) then
                        bif
                            rdAt s
                                (rdAt s (rdAt s a (max y (0 : Int)) Err.nil) (max (0 : Int) (0 : Int))
                                  (rdE s a (max y (0 : Int)) sec Err.nil))
                                (1 : Int)
                                (rdE s (rdAt s a (max y (0 : Int)) Err.nil) (max (0 : Int) (0 : Int)) sec
                                  (rdE s a (max y (0 : Int)) sec Err.nil)) ==
                              a then
                          k [PV.bool true] []
                        else k [PV.bool false] []
                      else k [PV.bool false] []
                  else k [PV.bool false] []
              else k [PV.bool false] []
            else k [PV.bool false] []
          else
            ((0 : Int) ≤ a ∧
                a ≤ IntKind.i64.wrap (a + mmI true y (0 : Int)) ∧
                  IntKind.i64.wrap (a + mmI true y (0 : Int)) ≤ (↑s.size : Int)) ∧
              bif
                  !(rdT s a (max y (0 : Int)) Err.nil).toList ==
                      (s.extract a.toNat (IntKind.i64.wrap (a + mmI true y (0 : Int))).toNat).toList then
                k [PV.bool false] []
              else
                bif !(rdE s a (max y (0 : Int)) sec Err.nil).isNil then k [PV.bool false] []
                else
                  A (td Tryd.f4 (7 : Nat))
                    (envAt (114 : Nat)
                      [((0 : Nat), PV.str s), ((2 : Nat), PV.int IntKind.i64 sec),
                        ((7 : Nat), PV.ptr (0 : Nat) (0 : Nat)),
                        ((8 : Nat), PV.int IntKind.i64 (IntKind.i64.wrap (a + mmI true y (0 : Int)))),
                        ((35 : Nat), PV.sl Int e_int l), ((36 : Nat), PV.int IntKind.i64 (↑l.length : Int)),
                        ((37 : Nat), PV.int IntKind.i64 (IntKind.i64.wrap (i + (1 : Int))))])
                    [AObj.box
                        [PV.str s, PV.int IntKind.i64 (rdAt s a (max y (0 : Int)) Err.nil), PV.int IntKind.i64 sec,
                          PV.err (rdE s a (max y (0 : Int)) sec Err.nil)]]
else
  bif a == a then
    ((0 : Int) ≤ a ∧ a ≤ (↑s.size : Int) ∧ s.size < (4611686018427387904 : Nat)) ∧
      bif (↑s.size : Int) - a == IntKind.i64.wrap ((↑s.size : Int) - a) then k [PV.bool true] []
      else k [PV.bool false] []
  else k [PV.bool false] []) := by kernel_rfl
def lawRPS : SpecS := fun ys Φ => match ys with
  | [.str s, x_1, .int .i64 sec] => ∃ (l : List Int), x_1 = .sl _ e_int l ∧ Φ [.bool true]
  | _ => False
theorem lawRPS_mono : MonoS lawRPS := by
  intro ys Φ Ψ h hF
  unfold lawRPS at hF ⊢
  split at hF
  · obtain ⟨a0, q0, hk⟩ := hF; exact ⟨a0, q0, h _ hk⟩
  · exact hF.elim
theorem lawRPS_inv {ys : List PV} {Φ : List PV → Prop} (h : lawRPS ys Φ) : ∃ (s : ByteArray) (l : List Int) (sec : Int), ys = [.str s, .sl _ e_int l, .int .i64 sec] ∧ Φ [.bool true] := by
  unfold lawRPS at h
  split at h
  · obtain ⟨a0, q0, hz⟩ := h
    subst q0
    exact ⟨_, a0, _, rfl, hz⟩
  · exact h.elim
theorem ok_RP : FunS B 4 lawRPS := by
  refine funS_of (N := 114) (f := ff_ReaderPieces) env_L1 mixed fn_ReaderPieces (by kernel_rfl) (by kernel_rfl) (by kernel_rfl) lawRPS_mono ?_
  intro A k ys hA hF
  obtain ⟨s, l, sec, rfl, hk⟩ := lawRPS_inv hF; clear hF
  refine ⟨by kernel_rfl, (hA.nf (nf_RP_a A k s l sec) ?_)⟩
  cases h1 : decide ((s.size : Int) > 300) with
  | true => exact hk
  | false =>
    cases h2 : decide ((l.length : Int) > 60) with
    | true => exact hk
    | false =>
      rw [decide_eq_false_iff_not] at h1 h2
      refine down_loop l (fun i => ∀ p : Nat, p ≤ s.size → A (td Tryd.f4 7) (envAt 114 [(0, .str s), (2, .int .i64 sec), (7, .ptr 0 0), (8, .int .i64 (p : Int)), (35, .sl _ e_int l), (36, .int .i64 l.length), (37, .int .i64 (i : Int))])
        [.box [.str s, .int .i64 (p : Int), .int .i64 sec, .err .nil]]) ?_ ?_ 0 (Nat.zero_le _) 0 (Nat.zero_le _)
      · intro p hp
        refine (hA.nf (nf_RP_b A k s l sec _ _) ?_)
        rw [ilt_false (Nat.lt_irrefl _), wrap_id ((s.size : Int) - p) (by omega) (by omega), beq_self_eq_true, beq_self_eq_true]
        exact ⟨⟨by omega, by omega, by omega⟩, hk⟩
      · intro i y hy ih p hp
        refine (hA.nf (nf_RP_b A k s l sec _ _) ?_)
        have hlt := lt_of_get hy
        rw [ilt_true hlt]
        refine get_at hy ⟨⟨by omega, by omega, by omega⟩, ?_⟩
        rw [mmI_max, wrap_id ((s.size : Int) - p) (by omega) (by omega)]
        obtain ⟨m, hm⟩ : ∃ m, m = max y 0 := ⟨_, rfl⟩
        rw [← hm]
        by_cases hfit : m ≤ (s.size : Int) - p
        · have hd : decide (m > (s.size : Int) - p) = false := decide_eq_false (by omega)
          obtain ⟨_, e1, e2, e3⟩ := rd_fits s p m sec hfit
          rw [hd, e1, e2, e3, wrap_id ((p : Int) + m) (by omega) (by omega), beq_self_eq_true]
          refine ⟨⟨by omega, by omega, by omega⟩, ?_⟩
          obtain ⟨q, hq⟩ : ∃ q : Nat, (p : Int) + m = (q : Int) := ⟨((p : Int) + m).toNat, by omega⟩
          rw [hq, wrap_succ (by omega)]
          exact ih q (by omega)
        · have hd : decide (m > (s.size : Int) - p) = true := decide_eq_true (by omega)
          obtain ⟨_, e1, e2, e3⟩ := rd_short s p m sec hfit
          have hb : (Err.sec sec (.plc p (.cls 2))).isNil = false := rfl
          obtain ⟨_, g1, g2, g3⟩ := rd_bad s p (max 0 0) sec hb
          rw [hd, e1, e2, e3, g1, g2, g3]
          obtain ⟨g4, g5, _, _⟩ := rd_bad s p 1 sec hb
          rw [g4, g5, ofE_spc, beq_self_eq_true, beq_self_eq_true, beq_self_eq_true, beq_self_eq_true]
          exact ⟨⟨by omega, by omega, by omega⟩, ⟨by omega, by omega, by omega⟩, hk⟩
theorem pre_ReaderPieces (s : ByteArray) (l : List Int) (sec : Int) (_ : g_o9 s) (_ : g_o26 l) (_ : g_o3 sec) : lawRPS [a_o9 s, a_o26 l, a_o3 sec] fun rs => rs = [.bool true] :=
  ⟨_, rfl, rfl⟩
end Go.Ab.T
