import Derived.Test.YtiemgkjmifpfcabDoorLaw09a
import Derived.Test.YtiemgkjmifpfcabDoorSched4
import Derived.Test.YtiemgkjmifpfcabDoorMaB
set_option linter.unusedVariables false
set_option linter.unusedSimpArgs false
namespace Go.Ab.T
open Go Go.Ab Go.Proofs
set_option maxRecDepth 100000
set_option maxHeartbeats 4000000
noncomputable def H7 := base (fun g => match g with | 86 => some (lift 0 namesF) | 92 => some (lift 0 namesF) | 39 => some (lift 0 cloneS) | 40 => some (eitherOwn (lift 1 putIS) (lift 0 putS)) | 54 => some (lift 1 sPutS) | 55 => some (lift 1 prWindowS) | 56 => some (lift 1 prNeedS) | 25 => some (frzAll B (lift 0 sPutAS)) | 7 => some (lift 0 NewS) | 9 => some (lift 1 EnterS) | 71 => some (lift 1 FailS) | 37 => some (lift 1 NeedS) | 52 => some (lift 1 ErrS) | 70 => some (lift 1 numberS) | 36 => some (lift 1 U8S) | 51 => some (lift 1 U16S) | 49 => some (lift 1 U32S) | 50 => some (lift 1 U64S) | 38 => some (lift 1 TextS) | 59 => some (lift 1 tkS) | 60 => some (lift 1 rowsWS) | 62 => some (lift 1 rowsNS) | 28 => some (lift 1 sReadS) | 65 => some (lift 0 rMany9S) | 30 => some (lift 0 rGet9S) | _ => none) (fun g => match g with | 77 => some nameS | 68 => some nameS | 45 => some newS | 44 => some atS | 43 => some inS | 88 => some sizeS | 85 => some rSizeS | 87 => some getS | 67 => some getS | 72 => some fitsS | 48 => some r01TS | 78 => some wiS | 83 => some wiS | 81 => some num3S | 82 => some num3S | 79 => some rrWindowS | 80 => some rrNeedS | 58 => some num9S | 53 => some schRS | 57 => some schRS | 26 => some rWrong9S | 27 => some rText9S | 18 => some ofS | 12 => some FaultS | 13 => some PlaceS | 22 => some LeftS | 61 => some mk3S | 63 => some mk3S | 29 => some rSame9S | 23 => some long9S | 24 => some trueS | 33 => some rFailS | 32 => some rNumS | 34 => some rTextS | 64 => some rTk9S | 84 => some rRow9S | _ => none) (fun _ => none)
theorem env_H7 : EnvOk H7 := env_of (by
    intro g F h
    split at h
    · cases h; exact ok_Name
    · cases h; exact ok_rName
    · cases h; exact ok_New
    · cases h; exact ok_At
    · cases h; exact ok_In
    · cases h; exact ok_size
    · cases h; exact ok_rSize
    · cases h; exact ok_Get
    · cases h; exact ok_rGet
    · cases h; exact ok_fits
    · cases h; exact ok_r01T
    · cases h; exact ok_within
    · cases h; exact ok_rin
    · cases h; exact ok_numWindow
    · cases h; exact ok_numNeed
    · cases h; exact ok_rrWindow
    · cases h; exact ok_rrNeed
    · cases h; exact ok_num9
    · cases h; exact ok_schR
    · cases h; exact ok_rschR
    · cases h; exact ok_rWrong9
    · cases h; exact ok_rText9
    · cases h; exact of_ok
    · cases h; exact ok_rFault
    · cases h; exact ok_Place
    · cases h; exact ok_Left
    · cases h; exact ok_mkW
    · cases h; exact ok_mkN
    · cases h; exact ok_rSame9
    · cases h; exact ok_long9
    · cases h; exact ok_awake9
    · cases h; exact ok_rFail
    · cases h; exact ok_rNum
    · cases h; exact ok_rText
    · cases h; exact ok_rTk9
    · cases h; exact ok_rRow9
    · cases h) (by
    intro g F h
    split at h
    · cases h; exact (lift_ok ok_rnames)
    · cases h; exact (lift_ok ok_names)
    · cases h; exact (lift_ok ok_clone)
    · cases h; exact (eitherOwn_ok (lift_ok ok_putI) (lift_ok ok_put))
    · cases h; exact (lift_ok ok_sPut)
    · cases h; exact (lift_ok ok_prWindow)
    · cases h; exact (lift_ok ok_prNeed)
    · cases h; exact (frzAll_ok (lift_ok ok_sPutA))
    · cases h; exact (lift_ok ok_rNew)
    · cases h; exact (lift_ok ok_Enter)
    · cases h; exact (lift_ok ok_Fail)
    · cases h; exact (lift_ok ok_Need)
    · cases h; exact (lift_ok ok_rErr)
    · cases h; exact (lift_ok ok_number)
    · cases h; exact (lift_ok ok_U8)
    · cases h; exact (lift_ok ok_U16)
    · cases h; exact (lift_ok ok_U32)
    · cases h; exact (lift_ok ok_U64)
    · cases h; exact (lift_ok ok_Text)
    · cases h; exact (lift_ok ok_tk)
    · cases h; exact (lift_ok ok_rowsW)
    · cases h; exact (lift_ok ok_rowsN)
    · cases h; exact (lift_ok ok_sRead)
    · cases h; exact (lift_ok ok_rMany9)
    · cases h; exact (lift_ok ok_rGet9)
    · cases h) (fun g F h => (by cases h))
theorem fn_SchedsReads : FnOk Tryd.prog 6 Tryd.f6 (bodyOf Tryd.f6) := ⟨by kernel_rfl, by kernel_rfl, by kernel_rfl⟩
noncomputable def ff_SchedsReads : Fun := ⟨Tryd.f6.ntmps, 0, Tryd.f6.results.toList, fun _ => none, fun _ => false, fun _ => []⟩
theorem nf_SchedsReads (A : KA Kd) (k : List PV → Heap Kd → Prop) (s : ByteArray) (n : Int) : evT H7 ff_SchedsReads A k 400 false [.code (bodyOf Tryd.f6)] (startEnv 79 [.str s, .int .i64 n]) [] = (bif decide ((↑s.size : Int) > (1000 : Int)) then k [PV.bool true] []
else ((0 : Int) ≤ (0 : Int) ∧ (0 : Int) ≤ (↑s.size : Int) ∧ s.size < (1099511627776 : Nat) ∧ n ≤ (9223372036854775807 : Int)) ∧ ((((0 : Int) ≤ (0 : Int) ∧ (0 : Int) ≤ (↑s.size : Int) ∧ s.size < (1099511627776 : Nat)) ∧ GoodF ((0 : Int), (0 : Int), (0 : Int))) ∧ n ≤ (9223372036854775807 : Int)) ∧ ∃ (l : List Sch), PV.sl (Int × Int × (List (Int × Int × Int)) × (List (Int × Int × Int))) e_api_Schedule (Bool.rec ((fun (_ : Unit) => []) ()) ((fun (_ : Unit) => schsV s n.toNat (-1 : Int) ((0 : Int), Err.nil)) ()) (schsX s n.toNat (-1 : Int) ((0 : Int), Err.nil)).snd.isNil) = PV.sl (Int × Int × List (Int × Int × Int) × List (Int × Int × Int)) e_api_Schedule l ∧ PV.sl (Int × Int × (List (Int × Int × Int)) × (List (Int × Int × Int))) e_api_Schedule (Bool.rec ((fun (_ : Unit) => []) ()) ((fun (_ : Unit) => schsV s n.toNat (-1 : Int) ((0 : Int), toE ((0 : Int), (0 : Int), (0 : Int)))) ()) (schsX s n.toNat (-1 : Int) ((0 : Int), toE ((0 : Int), (0 : Int), (0 : Int)))).snd.isNil) = PV.sl (Int × Int × List (Int × Int × Int) × List (Int × Int × Int)) e_api_Schedule l ∧ (l.length < (4611686018427387904 : Nat) ∧ ∀ (x : Sch), x ∈ l → x.snd.snd.fst.length < (4611686018427387904 : Nat) ∧ x.snd.snd.snd.length < (4611686018427387904 : Nat)) ∧ bif !((ofE (schsX s n.toNat (-1 : Int) ((0 : Int), Err.nil)).snd).fst == (ofE (schsX s n.toNat (-1 : Int) ((0 : Int), toE ((0 : Int), (0 : Int), (0 : Int)))).snd).fst && ((ofE (schsX s n.toNat (-1 : Int) ((0 : Int), Err.nil)).snd).snd.fst == (ofE (schsX s n.toNat (-1 : Int) ((0 : Int), toE ((0 : Int), (0 : Int), (0 : Int)))).snd).snd.fst && ((ofE (schsX s n.toNat (-1 : Int) ((0 : Int), Err.nil)).snd).snd.snd == (ofE (schsX s n.toNat (-1 : Int) ((0 : Int), toE ((0 : Int), (0 : Int), (0 : Int)))).snd).snd.snd && true))) then k [PV.bool false] [] else bif (schsX s n.toNat (-1 : Int) ((0 : Int), Err.nil)).fst != (schsX s n.toNat (-1 : Int) ((0 : Int), toE ((0 : Int), (0 : Int), (0 : Int)))).fst then k [PV.bool false] [] else bif !(schsX s n.toNat (-1 : Int) ((0 : Int), Err.nil)).snd.isNil then k [PV.bool true] [] else ∃ (b : List UInt8), ∃ (l : List Sch), PV.sl UInt8 e_uint8 [] = PV.sl UInt8 e_uint8 b ∧ PV.sl (Int × Int × (List (Int × Int × Int)) × (List (Int × Int × Int))) e_api_Schedule (Bool.rec ((fun (_ : Unit) => []) ()) ((fun (_ : Unit) => schsV s n.toNat (-1 : Int) ((0 : Int), Err.nil)) ()) (schsX s n.toNat (-1 : Int) ((0 : Int), Err.nil)).snd.isNil) = PV.sl (Int × Int × List (Int × Int × Int) × List (Int × Int × Int)) e_api_Schedule l ∧ (b.length < (1000000 : Nat) ∧ l.length < (100000 : Nat) ∧ ∀ (x : Sch), x ∈ l → x.snd.snd.fst.length < (4611686018427387904 : Nat) ∧ x.snd.snd.snd.length < (4611686018427387904 : Nat)) ∧ bif (schsE none (0 : Nat) l).isNil then ((∀ (y : UInt8), y ∈ outS b (schsE none (0 : Nat) l) b (schsB l) → isU8 (e_uint8 y) = true) ∧ ((0 : Int) ≤ (0 : Int) ∧ (0 : Int) ≤ (schsX s n.toNat (-1 : Int) ((0 : Int), toE ((0 : Int), (0 : Int), (0 : Int)))).fst ∧ (schsX s n.toNat (-1 : Int) ((0 : Int), toE ((0 : Int), (0 : Int), (0 : Int)))).fst ≤ (↑s.size : Int)) ∧ bif (strPV (List.map e_uint8 (outS b (schsE none (0 : Nat) l) b (schsB l)))).toList == (s.extract (Int.toNat (0 : Int)) (schsX s n.toNat (-1 : Int) ((0 : Int), toE ((0 : Int), (0 : Int), (0 : Int)))).fst.toNat).toList then k [PV.bool true] [] else k [PV.bool false] []) ∧ ((0 : Int) ≤ (0 : Int) ∧ (0 : Int) ≤ (schsX s n.toNat (-1 : Int) ((0 : Int), toE ((0 : Int), (0 : Int), (0 : Int)))).fst ∧ (schsX s n.toNat (-1 : Int) ((0 : Int), toE ((0 : Int), (0 : Int), (0 : Int)))).fst ≤ (↑s.size : Int)) ∧ (∀ (y : UInt8), y ∈ outS b (schsE none (0 : Nat) l) b (schsB l) → isU8 (e_uint8 y) = true) ∧ bif (strPV (List.map e_uint8 (outS b (schsE none (0 : Nat) l) b (schsB l)))).toList == (s.extract (Int.toNat (0 : Int)) (schsX s n.toNat (-1 : Int) ((0 : Int), toE ((0 : Int), (0 : Int), (0 : Int)))).fst.toNat).toList then k [PV.bool true] [] else k [PV.bool false] [] else k [PV.bool false] []) := by kernel_rfl
def lawSRS : SpecS := fun ys Φ => match ys with
  | [.str s, .int .i64 n] => (n ≤ 9223372036854775807) ∧ Φ [.bool true]
  | _ => False
theorem lawSRS_mono : MonoS lawSRS := by
  intro ys Φ Ψ h hF
  unfold lawSRS at hF ⊢
  split at hF
  · obtain ⟨hp, hk⟩ := hF; exact ⟨hp, h _ hk⟩
  · exact hF.elim
theorem lawSRS_inv {ys : List PV} {Φ : List PV → Prop} (h : lawSRS ys Φ) : ∃ (s : ByteArray) (n : Int), ys = [.str s, .int .i64 n] ∧ (n ≤ 9223372036854775807) ∧ Φ [.bool true] := by
  unfold lawSRS at h
  split at h
  · exact ⟨_, _, rfl, h⟩
  · exact h.elim
theorem ok_SR : FunS B 6 lawSRS := by
  refine funS_of (N := 79) (f := ff_SchedsReads) env_H7 mixed fn_SchedsReads (by kernel_rfl) (by kernel_rfl) (by kernel_rfl) lawSRS_mono ?_
  intro A k ys hA hF
  obtain ⟨s, n, rfl, hn, hk⟩ := lawSRS_inv hF; clear hF
  refine ⟨by kernel_rfl, (hA.nf (nf_SchedsReads A k s n) ?_)⟩
  cases hl : decide ((s.size : Int) > 1000) with
  | true => exact hk
  | false =>
  rw [decide_eq_false_iff_not] at hl
  rw [cond_false]
  have e0 : toE (0, 0, 0) = Err.nil := rfl
  have hx0 : hIn s ((0 : Int), Err.nil) := ⟨Int.le_refl _, by show (0 : Int) ≤ s.size; omega⟩
  have hx := hIn.schs n.toNat (-1) hx0
  have f0 : (0 : Int) ≤ 0 ∧ (0 : Int) ≤ (s.size : Int) ∧ s.size < 1099511627776 := ⟨Int.le_refl _, by omega, by omega⟩
  have hres : (resS s n.toNat (0, .nil)) = bif (schsX s n.toNat (-1) (0, .nil)).2.isNil then schsV s n.toNat (-1) (0, .nil) else [] := rfl
  have hgood : (resS s n.toNat (0, .nil)).length ≤ 1000 ∧ (∀ x, x ∈ resS s n.toNat (0, .nil) → OkS x) ∧ ((schsX s n.toNat (-1) (0, .nil)).2.isNil = true → (schsE none 0 (resS s n.toNat (0, .nil))).isNil = true ∧ Seg s 0 (schsX s n.toNat (-1) (0, .nil)).1 (schsB (resS s n.toNat (0, .nil)))) := by
    rw [hres]
    cases c : (schsX s n.toNat (-1) (0, .nil)).2.isNil with
    | false => exact ⟨Nat.zero_le _, fun x hx => (by cases hx), fun h => (by cases h)⟩
    | true =>
      obtain ⟨g1, g2⟩ := seg_schs n.toNat (-1) (0, .nil) none 0 hx0 rfl c
      have h1 := seg_len g1
      have h2 := schsB_ge (schsV s n.toNat (-1) (0, .nil))
      exact ⟨by show (schsV s n.toNat (-1) (0, .nil)).length ≤ 1000; omega, schsE_ok _ none 0 g2, fun _ => ⟨g2, g1⟩⟩
  obtain ⟨g1, g2, g3⟩ := hgood
  have hw : ∀ x, x ∈ resS s n.toNat (0, .nil) → x.2.2.1.length < 4611686018427387904 ∧ x.2.2.2.length < 4611686018427387904 := fun x hx => by
    obtain ⟨_, _, o3, _, o5, _⟩ := g2 x hx
    exact ⟨by omega, by omega⟩
  refine ⟨⟨f0.1, f0.2.1, f0.2.2, hn⟩, ⟨⟨f0, GoodF.mk .nil⟩, hn⟩, resS s n.toNat (0, .nil), by kernel_rfl, by kernel_rfl, ⟨by omega, hw⟩, ?_⟩
  rw [e0]
  simp only [beq_self_eq_true, bne_self_eq_false, Bool.and_self, Bool.not_true, cond_false]
  cases c : (schsX s n.toNat (-1) (0, .nil)).2.isNil with
  | false => exact hk
  | true =>
    rw [Bool.not_true, cond_false]
    obtain ⟨g4, g5⟩ := g3 c
    have hresT : resS s n.toNat (0, .nil) = schsV s n.toNat (-1) (0, .nil) := by rw [hres, c]; rfl
    have hsl : PV.sl Sch e_api_Schedule (schsV s n.toNat (-1) (0, .nil)) = PV.sl Sch e_api_Schedule (resS s n.toNat (0, .nil)) := by rw [hresT]
    refine ⟨[], resS s n.toNat (0, .nil), rfl, hsl, ⟨by decide, by omega, hw⟩, ?_⟩
    rw [g4, cond_true]
    have hO : outS [] (schsE none 0 (resS s n.toNat (0, .nil))) [] (schsB (resS s n.toNat (0, .nil))) = schsB (resS s n.toNat (0, .nil)) := by unfold outS; rw [g4]; rfl
    rw [hO, strPV_e, seg_text g5, beq_self_eq_true]
    exact ⟨⟨fun _ _ => rfl, ⟨Int.le_refl _, hx.1, hx.2⟩, hk⟩, ⟨Int.le_refl _, hx.1, hx.2⟩, fun _ _ => rfl, hk⟩
theorem pre_SchedsReads (s : ByteArray) (n : Int) (_ : g_o9 s) (hn : g_o3 n) : lawSRS [a_o9 s, a_o3 n] fun rs => rs = [.bool true] := by
  have w : (Lit.int .i64 n).wf = true := hn
  simp [Lit.wf, IntKind.min, IntKind.max, IntKind.signed, IntKind.bits] at w
  have h : n ≤ 9223372036854775807 := by omega
  exact ⟨h, rfl⟩
end Go.Ab.T
