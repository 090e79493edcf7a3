import Derived.Test.YtiflhpcbnnnddaaDoorParts3
import Derived.Test.YtiflhpcbnnnddaaDoorOp
set_option linter.unusedVariables false
set_option linter.unusedSimpArgs false
namespace Go.Ab.T
open Go Go.Ab Go.Proofs
set_option maxRecDepth 100000
set_option maxHeartbeats 4000000
noncomputable def PD0 := base (fun g => match g with | 40 => some (lift 0 namesF) | 54 => some (lift 0 namesF) | 20 => some (lift 0 cloneS) | 42 => some (eitherOwn (lift 1 putIS) (lift 0 putS)) | 44 => some (eitherOwn (lift 1 nPutIS) (lift 0 nPutS)) | 10 => some (lift 0 NewS) | 29 => some (lift 1 EnterS) | 51 => some (lift 1 FailS) | 33 => some (lift 1 NeedS) | 30 => some (lift 1 ErrS) | 50 => some (lift 1 numberS) | 32 => some (lift 1 U8S) | 53 => some (lift 1 U32S) | 52 => some (lift 1 TextS) | 23 => some (lift 1 pPutS) | 7 => some (frzAll B (lift 0 pPutAS)) | 34 => some (lift 1 truthS) | 35 => some (lift 1 nGetS) | 36 => some (lift 1 cellsS) | 12 => some (lift 1 pReadS) | _ => none) (fun g => match g with | 39 => some nameS | 18 => some nameS | 17 => some newS | 16 => some atS | 22 => some inS | 62 => some sizeS | 61 => some getS | 56 => some fitsS | 55 => some mayS | 57 => some letS | 41 => some rightS | 45 => some rightS | 26 => some r01TS | 43 => some bitS | 21 => some prtRS | 24 => some prtRS | 9 => some ofS | 31 => some PlaceS | 14 => some LeftS | 27 => some rTruS | 28 => some rTx6S | 8 => some rWrong8S | 11 => some rText8S | 37 => some rSC8S | 13 => some rSame8S | 5 => some long8S | _ => none) (fun _ => none)
theorem env_PD0 : EnvOk PD0 := env_of (by
    intro g F h
    split at h
    · cases h; exact ok_Name
    · cases h; exact ok_rName
    · cases h; exact ok_New
    · cases h; exact ok_At
    · cases h; exact ok_In
    · cases h; exact ok_size
    · cases h; exact ok_Get
    · cases h; exact ok_fits
    · cases h; exact ok_may
    · cases h; exact ok_letter
    · cases h; exact ok_right
    · cases h; exact ok_rright
    · cases h; exact ok_r01T
    · cases h; exact ok_bit
    · cases h; exact ok_prtR
    · cases h; exact ok_rprtR
    · cases h; exact of_ok
    · cases h; exact ok_Place
    · cases h; exact ok_Left
    · cases h; exact ok_rTru
    · cases h; exact ok_rTx6
    · cases h; exact ok_rWrong8
    · cases h; exact ok_rText8
    · cases h; exact ok_rSC8
    · cases h; exact ok_rSame8
    · cases h; exact ok_long8
    · cases h) (by
    intro g F h
    split at h
    · cases h; exact (lift_ok ok_rnames)
    · cases h; exact (lift_ok ok_names)
    · cases h; exact (lift_ok ok_clone)
    · cases h; exact (eitherOwn_ok (lift_ok ok_putI) (lift_ok ok_put))
    · cases h; exact (eitherOwn_ok (lift_ok ok_nPutI) (lift_ok ok_nPut))
    · cases h; exact (lift_ok ok_rNew)
    · cases h; exact (lift_ok ok_Enter)
    · cases h; exact (lift_ok ok_Fail)
    · cases h; exact (lift_ok ok_Need)
    · cases h; exact (lift_ok ok_rErr)
    · cases h; exact (lift_ok ok_number)
    · cases h; exact (lift_ok ok_U8)
    · cases h; exact (lift_ok ok_U32)
    · cases h; exact (lift_ok ok_Text)
    · cases h; exact (lift_ok ok_pPut)
    · cases h; exact (frzAll_ok (lift_ok ok_pPutA))
    · cases h; exact (lift_ok ok_truth)
    · cases h; exact (lift_ok ok_nGet)
    · cases h; exact (lift_ok ok_cells)
    · cases h; exact (lift_ok ok_pRead)
    · cases h) (fun g F h => (by cases h))
def trueS8 : SpecS := fun ys Φ => match ys with
  | [] => Φ [.bool true]
  | _ => False
theorem trueS8_mono : MonoS trueS8 := by
  intro ys Φ Ψ h hF
  unfold trueS8 at hF ⊢
  split at hF
  · exact h _ hF
  · exact hF.elim
theorem trueS8_inv {ys : List PV} {Φ : List PV → Prop} (h : trueS8 ys Φ) : ys = [] ∧ Φ [.bool true] := by
  unfold trueS8 at h
  split at h
  · exact ⟨rfl, h⟩
  · exact h.elim
theorem fn_awake8 : FnOk Tryd.prog 6 Tryd.f6 (bodyOf Tryd.f6) := ⟨by kernel_rfl, by kernel_rfl, by kernel_rfl⟩
noncomputable def ff_awake8 : Fun := ⟨Tryd.f6.ntmps, 0, Tryd.f6.results.toList, fun _ => none, fun _ => false, fun _ => []⟩
theorem nf_awake8 (A : KA Kd) (k : List PV → Heap Kd → Prop)  : evT PD0 ff_awake8 A k 400 false [.code (bodyOf Tryd.f6)] (startEnv 16 []) [] = (∃ (zs : List (Int × ByteArray × Bool × (List (Int × Bool)))), List.map e_api_Partition zs = [PV.agg [PV.int IntKind.i64 (3 : Int), PV.str (ByteArray.mk #[(78 : UInt8), (65 : UInt8), (86 : UInt8)]), PV.bool true, PV.sl (Int × Bool) e_api_Cell []]] ∧ ∃ (b : List UInt8), ∃ (l : List Prt), PV.sl UInt8 e_uint8 [] = PV.sl UInt8 e_uint8 b ∧ PV.sl (Int × ByteArray × Bool × (List (Int × Bool))) e_api_Partition zs = PV.sl (Int × ByteArray × Bool × List (Int × Bool)) e_api_Partition l ∧ (b.length < (1000000 : Nat) ∧ l.length < (100000 : Nat) ∧ ∀ (x : Prt), x ∈ l → ∀ (c : Cl), c ∈ x.snd.snd.snd → (0 : Int) ≤ c.fst ∧ c.fst < (4294967296 : Int)) ∧ bif (prtsE none (0 : Nat) l).isNil then (∀ (y : UInt8), y ∈ outP b (prtsE none (0 : Nat) l) b (prtsB l) → isU8 (e_uint8 y) = true) ∧ k [PV.bool ((strPV (List.map e_uint8 (outP b (prtsE none (0 : Nat) l) b (prtsB l)))).toList == (ByteArray.mk #[(3 : UInt8), (1 : UInt8), (3 : UInt8), (78 : UInt8), (65 : UInt8), (86 : UInt8), (0 : UInt8)]).toList)] [] else k [PV.bool false] []) := by kernel_rfl
theorem ok_awake8 : FunS B 6 trueS8 := by
  refine funS_of (N := 16) (f := ff_awake8) env_PD0 mixed fn_awake8 (by kernel_rfl) (by kernel_rfl) (by kernel_rfl) trueS8_mono ?_
  intro A k ys hA hF
  obtain ⟨rfl, hk⟩ := trueS8_inv hF; clear hF
  refine ⟨by kernel_rfl, (hA.nf (nf_awake8 A k) ?_)⟩
  have hE : (prtsE none 0 [(3, ⟨#[78, 65, 86]⟩, true, [])]).isNil = true := by decide
  have e : outP [] (prtsE none 0 [(3, ⟨#[78, 65, 86]⟩, true, [])]) [] (prtsB [(3, ⟨#[78, 65, 86]⟩, true, [])]) = [3, 1, 3, 78, 65, 86, 0] := by decide
  refine ⟨[(3, ⟨#[78, 65, 86]⟩, true, [])], rfl, [], [(3, ⟨#[78, 65, 86]⟩, true, [])], rfl, rfl, ⟨by decide, by decide, fun x hx => ?_⟩, ?_⟩
  · rw [List.mem_singleton] at hx; subst hx; intro c hc; cases hc
  · rw [hE, cond_true]
    refine ⟨fun _ _ => rfl, ?_⟩
    rw [e, strPV_e]
    have : ((ByteArray.mk ([3, 1, 3, 78, 65, 86, 0] : List UInt8).toArray).toList == (ByteArray.mk #[3, 1, 3, 78, 65, 86, 0]).toList) = true := beq_self_eq_true _
    rw [this]; exact hk
noncomputable def PD1 := base (fun g => match g with | 40 => some (lift 0 namesF) | 54 => some (lift 0 namesF) | 20 => some (lift 0 cloneS) | 42 => some (eitherOwn (lift 1 putIS) (lift 0 putS)) | 44 => some (eitherOwn (lift 1 nPutIS) (lift 0 nPutS)) | 10 => some (lift 0 NewS) | 29 => some (lift 1 EnterS) | 51 => some (lift 1 FailS) | 33 => some (lift 1 NeedS) | 30 => some (lift 1 ErrS) | 50 => some (lift 1 numberS) | 32 => some (lift 1 U8S) | 53 => some (lift 1 U32S) | 52 => some (lift 1 TextS) | 23 => some (lift 1 pPutS) | 7 => some (frzAll B (lift 0 pPutAS)) | 34 => some (lift 1 truthS) | 35 => some (lift 1 nGetS) | 36 => some (lift 1 cellsS) | 12 => some (lift 1 pReadS) | _ => none) (fun g => match g with | 39 => some nameS | 18 => some nameS | 17 => some newS | 16 => some atS | 22 => some inS | 62 => some sizeS | 61 => some getS | 56 => some fitsS | 55 => some mayS | 57 => some letS | 41 => some rightS | 45 => some rightS | 26 => some r01TS | 43 => some bitS | 21 => some prtRS | 24 => some prtRS | 9 => some ofS | 31 => some PlaceS | 14 => some LeftS | 27 => some rTruS | 28 => some rTx6S | 8 => some rWrong8S | 11 => some rText8S | 37 => some rSC8S | 13 => some rSame8S | 5 => some long8S | 6 => some trueS8 | _ => none) (fun _ => none)
theorem env_PD1 : EnvOk PD1 := env_of (by
    intro g F h
    split at h
    · cases h; exact ok_Name
    · cases h; exact ok_rName
    · cases h; exact ok_New
    · cases h; exact ok_At
    · cases h; exact ok_In
    · cases h; exact ok_size
    · cases h; exact ok_Get
    · cases h; exact ok_fits
    · cases h; exact ok_may
    · cases h; exact ok_letter
    · cases h; exact ok_right
    · cases h; exact ok_rright
    · cases h; exact ok_r01T
    · cases h; exact ok_bit
    · cases h; exact ok_prtR
    · cases h; exact ok_rprtR
    · cases h; exact of_ok
    · cases h; exact ok_Place
    · cases h; exact ok_Left
    · cases h; exact ok_rTru
    · cases h; exact ok_rTx6
    · cases h; exact ok_rWrong8
    · cases h; exact ok_rText8
    · cases h; exact ok_rSC8
    · cases h; exact ok_rSame8
    · cases h; exact ok_long8
    · cases h; exact ok_awake8
    · cases h) (by
    intro g F h
    split at h
    · cases h; exact (lift_ok ok_rnames)
    · cases h; exact (lift_ok ok_names)
    · cases h; exact (lift_ok ok_clone)
    · cases h; exact (eitherOwn_ok (lift_ok ok_putI) (lift_ok ok_put))
    · cases h; exact (eitherOwn_ok (lift_ok ok_nPutI) (lift_ok ok_nPut))
    · cases h; exact (lift_ok ok_rNew)
    · cases h; exact (lift_ok ok_Enter)
    · cases h; exact (lift_ok ok_Fail)
    · cases h; exact (lift_ok ok_Need)
    · cases h; exact (lift_ok ok_rErr)
    · cases h; exact (lift_ok ok_number)
    · cases h; exact (lift_ok ok_U8)
    · cases h; exact (lift_ok ok_U32)
    · cases h; exact (lift_ok ok_Text)
    · cases h; exact (lift_ok ok_pPut)
    · cases h; exact (frzAll_ok (lift_ok ok_pPutA))
    · cases h; exact (lift_ok ok_truth)
    · cases h; exact (lift_ok ok_nGet)
    · cases h; exact (lift_ok ok_cells)
    · cases h; exact (lift_ok ok_pRead)
    · cases h) (fun g F h => (by cases h))
theorem fn_PartsPuts : FnOk Tryd.prog 3 Tryd.f3 (bodyOf Tryd.f3) := ⟨by kernel_rfl, by kernel_rfl, by kernel_rfl⟩
noncomputable def ff_PartsPuts : Fun := ⟨Tryd.f3.ntmps, 0, Tryd.f3.results.toList, fun _ => none, fun _ => false, fun _ => []⟩
theorem nf_PartsPuts (A : KA Kd) (k : List PV → Heap Kd → Prop) (b : List UInt8) (l : List Prt) : evT PD1 ff_PartsPuts A k 400 false [.code (bodyOf Tryd.f3)] (startEnv 94 [.sl _ e_uint8 b, .sl _ e_api_Partition l]) [] = (bif decide ((↑b.length : Int) > (50 : Int)) then k [PV.bool true] []
else ∃ (l_1 : List Prt), PV.sl (Int × ByteArray × Bool × List (Int × Bool)) e_api_Partition l = PV.sl (Int × ByteArray × Bool × List (Int × Bool)) e_api_Partition l_1 ∧ l_1.length ≤ (9223372036854775807 : Nat) ∧ bif longP l_1 then k [PV.bool true] [] else (∀ (y : UInt8), y ∈ b → isU8 (e_uint8 y) = true) ∧ ∃ (b_1 : List UInt8), ∃ (l_2 : List Prt), PV.sl UInt8 e_uint8 b = PV.sl UInt8 e_uint8 b_1 ∧ PV.sl (Int × ByteArray × Bool × List (Int × Bool)) e_api_Partition l = PV.sl (Int × ByteArray × Bool × List (Int × Bool)) e_api_Partition l_2 ∧ (b_1.length < (1000000 : Nat) ∧ l_2.length < (100000 : Nat) ∧ ∀ (x : Prt), x ∈ l_2 → ∀ (c : Cl), c ∈ x.snd.snd.snd → (0 : Int) ≤ c.fst ∧ c.fst < (4294967296 : Int)) ∧ ∃ (l_3 : List Prt), PV.sl (Int × ByteArray × Bool × List (Int × Bool)) e_api_Partition l = PV.sl (Int × ByteArray × Bool × List (Int × Bool)) e_api_Partition l_3 ∧ l_3.length < (100000 : Nat) ∧ bif !((ofE (prtsE none (0 : Nat) l_2)).fst == (ofE (prtsE none (0 : Nat) l_3)).fst && ((ofE (prtsE none (0 : Nat) l_2)).snd.fst == (ofE (prtsE none (0 : Nat) l_3)).snd.fst && ((ofE (prtsE none (0 : Nat) l_2)).snd.snd == (ofE (prtsE none (0 : Nat) l_3)).snd.snd && true))) then k [PV.bool false] [] else (∀ (y : UInt8), y ∈ b → isU8 (e_uint8 y) = true) ∧ bif !(strPV (List.map e_uint8 b)).toList == (strPV (List.map e_uint8 b)).toList then k [PV.bool false] [] else bif (ofE (prtsE none (0 : Nat) l_3)).fst != (0 : Int) then (∀ (y : UInt8), y ∈ outP b_1 (prtsE none (0 : Nat) l_2) b_1 (prtsB l_2) → isU8 (e_uint8 y) = true) ∧ bif (strPV (List.map e_uint8 (outP b_1 (prtsE none (0 : Nat) l_2) b_1 (prtsB l_2)))).toList == (strPV (List.map e_uint8 b)).toList then k [PV.bool true] [] else k [PV.bool false] [] else bif decide ((↑(outP b_1 (prtsE none (0 : Nat) l_2) b_1 (prtsB l_2)).length : Int) < (↑b.length : Int)) then k [PV.bool false] [] else (∀ (y : UInt8), y ∈ outP b_1 (prtsE none (0 : Nat) l_2) b_1 (prtsB l_2) → (e_uint8 y).cells.length = (TInfo.mk (TD.int IntKind.u8) (1 : Nat) (1 : Nat) [PV.int IntKind.u8 (0 : Int)] false []).size) ∧ ((0 : Int) ≤ (↑b.length : Int) ∧ (↑b.length : Int) ≤ (↑(outP b_1 (prtsE none (0 : Nat) l_2) b_1 (prtsB l_2)).length : Int) ∧ (↑(outP b_1 (prtsE none (0 : Nat) l_2) b_1 (prtsB l_2)).length : Int) ≤ (↑(outP b_1 (prtsE none (0 : Nat) l_2) b_1 (prtsB l_2)).length : Int)) ∧ (∀ (y : UInt8), y ∈ List.drop (↑b.length : Int).toNat (List.take (↑(outP b_1 (prtsE none (0 : Nat) l_2) b_1 (prtsB l_2)).length : Int).toNat (outP b_1 (prtsE none (0 : Nat) l_2) b_1 (prtsB l_2))) → isU8 (e_uint8 y) = true) ∧ ((∀ (y : UInt8), y ∈ outP b_1 (prtsE none (0 : Nat) l_2) b_1 (prtsB l_2) → isU8 (e_uint8 y) = true) ∧ ∃ (l_4 : List Prt), PV.sl (Int × ByteArray × Bool × List (Int × Bool)) e_api_Partition l = PV.sl (Int × ByteArray × Bool × List (Int × Bool)) e_api_Partition l_4 ∧ (l_4.length < (100000 : Nat) ∧ (∀ (x : Prt), x ∈ l_4 → ((0 : Int) ≤ x.fst ∧ x.fst ≤ (255 : Int)) ∧ rightN x.snd.fst = true ∧ x.snd.snd.snd.length ≤ (16 : Nat)) ∧ ∀ (x : Prt), x ∈ l_4 → ∀ (c : Cl), c ∈ x.snd.snd.snd → (0 : Int) ≤ c.fst ∧ c.fst < (4294967296 : Int)) ∧ (strPV (List.map e_uint8 b)).size + (ByteArray.mk (prtsB l_4).toArray).size ≤ (9223372036854775807 : Nat) ∧ bif !(strPV (List.map e_uint8 (outP b_1 (prtsE none (0 : Nat) l_2) b_1 (prtsB l_2)))).toList == (strPV (List.map e_uint8 b) ++ ByteArray.mk (prtsB l_4).toArray).toList then k [PV.bool false] [] else ∃ (l_5 : List Prt), (Err.nil = Err.nil ∧ (0 : Int) ≤ (0 : Int) ∧ (↑l.length : Int) = (↑l_5.length : Int) ∧ l_5.length < (100000 : Nat) ∧ (∃ (pre : List UInt8), ∃ (post : List UInt8), (strPV (List.map e_uint8 (List.drop (↑b.length : Int).toNat (List.take (↑(outP b_1 (prtsE none (0 : Nat) l_2) b_1 (prtsB l_2)).length : Int).toNat (outP b_1 (prtsE none (0 : Nat) l_2) b_1 (prtsB l_2)))))).data.toList = pre ++ (prtsB l_5 ++ post) ∧ pre.length = Int.toNat (0 : Int)) ∧ (prtsE none (0 : Nat) l_5).isNil = true ∧ (∀ (x : Prt), x ∈ l_5 → ∀ (c : Cl), c ∈ x.snd.snd.snd → (0 : Int) ≤ c.fst ∧ c.fst < (4294967296 : Int)) ∧ (strPV (List.map e_uint8 (List.drop (↑b.length : Int).toNat (List.take (↑(outP b_1 (prtsE none (0 : Nat) l_2) b_1 (prtsB l_2)).length : Int).toNat (outP b_1 (prtsE none (0 : Nat) l_2) b_1 (prtsB l_2)))))).size < (4611686018427387904 : Nat)) ∧ ∃ (l_6 : List Prt), PV.sl (Int × ByteArray × Bool × (List (Int × Bool))) e_api_Partition l_5 = PV.sl (Int × ByteArray × Bool × List (Int × Bool)) e_api_Partition l_6 ∧ PV.sl (Int × ByteArray × Bool × List (Int × Bool)) e_api_Partition l = PV.sl (Int × ByteArray × Bool × List (Int × Bool)) e_api_Partition l_6 ∧ (l_6.length < (4611686018427387904 : Nat) ∧ ∀ (x : Prt), x ∈ l_6 → x.snd.snd.snd.length < (4611686018427387904 : Nat)) ∧ ((0 : Int) ≤ (0 : Int) + (↑(prtsB l_5).length : Int) ∧ (0 : Int) + (↑(prtsB l_5).length : Int) ≤ (↑(strPV (List.map e_uint8 (List.drop (↑b.length : Int).toNat (List.take (↑(outP b_1 (prtsE none (0 : Nat) l_2) b_1 (prtsB l_2)).length : Int).toNat (outP b_1 (prtsE none (0 : Nat) l_2) b_1 (prtsB l_2)))))).size : Int) ∧ (strPV (List.map e_uint8 (List.drop (↑b.length : Int).toNat (List.take (↑(outP b_1 (prtsE none (0 : Nat) l_2) b_1 (prtsB l_2)).length : Int).toNat (outP b_1 (prtsE none (0 : Nat) l_2) b_1 (prtsB l_2)))))).size < (4611686018427387904 : Nat)) ∧ bif (↑(strPV (List.map e_uint8 (List.drop (↑b.length : Int).toNat (List.take (↑(outP b_1 (prtsE none (0 : Nat) l_2) b_1 (prtsB l_2)).length : Int).toNat (outP b_1 (prtsE none (0 : Nat) l_2) b_1 (prtsB l_2)))))).size : Int) - ((0 : Int) + (↑(prtsB l_5).length : Int)) == (0 : Int) then k [PV.bool true] [] else k [PV.bool false] []) ∧ ∃ (l_4 : List Prt), PV.sl (Int × ByteArray × Bool × List (Int × Bool)) e_api_Partition l = PV.sl (Int × ByteArray × Bool × List (Int × Bool)) e_api_Partition l_4 ∧ (l_4.length < (100000 : Nat) ∧ (∀ (x : Prt), x ∈ l_4 → ((0 : Int) ≤ x.fst ∧ x.fst ≤ (255 : Int)) ∧ rightN x.snd.fst = true ∧ x.snd.snd.snd.length ≤ (16 : Nat)) ∧ ∀ (x : Prt), x ∈ l_4 → ∀ (c : Cl), c ∈ x.snd.snd.snd → (0 : Int) ≤ c.fst ∧ c.fst < (4294967296 : Int)) ∧ (strPV (List.map e_uint8 b)).size + (ByteArray.mk (prtsB l_4).toArray).size ≤ (9223372036854775807 : Nat) ∧ (∀ (y : UInt8), y ∈ outP b_1 (prtsE none (0 : Nat) l_2) b_1 (prtsB l_2) → isU8 (e_uint8 y) = true) ∧ bif !(strPV (List.map e_uint8 (outP b_1 (prtsE none (0 : Nat) l_2) b_1 (prtsB l_2)))).toList == (strPV (List.map e_uint8 b) ++ ByteArray.mk (prtsB l_4).toArray).toList then k [PV.bool false] [] else ∃ (l_5 : List Prt), (Err.nil = Err.nil ∧ (0 : Int) ≤ (0 : Int) ∧ (↑l.length : Int) = (↑l_5.length : Int) ∧ l_5.length < (100000 : Nat) ∧ (∃ (pre : List UInt8), ∃ (post : List UInt8), (strPV (List.map e_uint8 (List.drop (↑b.length : Int).toNat (List.take (↑(outP b_1 (prtsE none (0 : Nat) l_2) b_1 (prtsB l_2)).length : Int).toNat (outP b_1 (prtsE none (0 : Nat) l_2) b_1 (prtsB l_2)))))).data.toList = pre ++ (prtsB l_5 ++ post) ∧ pre.length = Int.toNat (0 : Int)) ∧ (prtsE none (0 : Nat) l_5).isNil = true ∧ (∀ (x : Prt), x ∈ l_5 → ∀ (c : Cl), c ∈ x.snd.snd.snd → (0 : Int) ≤ c.fst ∧ c.fst < (4294967296 : Int)) ∧ (strPV (List.map e_uint8 (List.drop (↑b.length : Int).toNat (List.take (↑(outP b_1 (prtsE none (0 : Nat) l_2) b_1 (prtsB l_2)).length : Int).toNat (outP b_1 (prtsE none (0 : Nat) l_2) b_1 (prtsB l_2)))))).size < (4611686018427387904 : Nat)) ∧ ∃ (l_6 : List Prt), PV.sl (Int × ByteArray × Bool × (List (Int × Bool))) e_api_Partition l_5 = PV.sl (Int × ByteArray × Bool × List (Int × Bool)) e_api_Partition l_6 ∧ PV.sl (Int × ByteArray × Bool × List (Int × Bool)) e_api_Partition l = PV.sl (Int × ByteArray × Bool × List (Int × Bool)) e_api_Partition l_6 ∧ (l_6.length < (4611686018427387904 : Nat) ∧ ∀ (x : Prt), x ∈ l_6 → x.snd.snd.snd.length < (4611686018427387904 : Nat)) ∧ ((0 : Int) ≤ (0 : Int) + (↑(prtsB l_5).length : Int) ∧ (0 : Int) + (↑(prtsB l_5).length : Int) ≤ (↑(strPV (List.map e_uint8 (List.drop (↑b.length : Int).toNat (List.take (↑(outP b_1 (prtsE none (0 : Nat) l_2) b_1 (prtsB l_2)).length : Int).toNat (outP b_1 (prtsE none (0 : Nat) l_2) b_1 (prtsB l_2)))))).size : Int) ∧ (strPV (List.map e_uint8 (List.drop (↑b.length : Int).toNat (List.take (↑(outP b_1 (prtsE none (0 : Nat) l_2) b_1 (prtsB l_2)).length : Int).toNat (outP b_1 (prtsE none (0 : Nat) l_2) b_1 (prtsB l_2)))))).size < (4611686018427387904 : Nat)) ∧ bif (↑(strPV (List.map e_uint8 (List.drop (↑b.length : Int).toNat (List.take (↑(outP b_1 (prtsE none (0 : Nat) l_2) b_1 (prtsB l_2)).length : Int).toNat (outP b_1 (prtsE none (0 : Nat) l_2) b_1 (prtsB l_2)))))).size : Int) - ((0 : Int) + (↑(prtsB l_5).length : Int)) == (0 : Int) then k [PV.bool true] [] else k [PV.bool false] []) := by kernel_rfl
def lawPPS : SpecS := fun ys Φ => match ys with
  | [x_0, x_1] => ∃ (b : List UInt8), ∃ (l : List Prt), x_0 = .sl _ e_uint8 b ∧ x_1 = .sl _ e_api_Partition l ∧ (l.length ≤ 9223372036854775807 ∧ (∀ x, x ∈ l → ∀ c, c ∈ x.2.2.2 → OkC c)) ∧ Φ [.bool true]
  | _ => False
theorem lawPPS_mono : MonoS lawPPS := by
  intro ys Φ Ψ h hF
  unfold lawPPS at hF ⊢
  split at hF
  · obtain ⟨a0, a1, q0, q1, hp, hk⟩ := hF; exact ⟨a0, a1, q0, q1, hp, h _ hk⟩
  · exact hF.elim
theorem lawPPS_inv {ys : List PV} {Φ : List PV → Prop} (h : lawPPS ys Φ) : ∃ (b : List UInt8) (l : List Prt), ys = [.sl _ e_uint8 b, .sl _ e_api_Partition l] ∧ (l.length ≤ 9223372036854775807 ∧ (∀ x, x ∈ l → ∀ c, c ∈ x.2.2.2 → OkC c)) ∧ Φ [.bool true] := by
  unfold lawPPS at h
  split at h
  · obtain ⟨a0, a1, q0, q1, hz⟩ := h
    subst q0
    subst q1
    exact ⟨a0, a1, rfl, hz⟩
  · exact h.elim
theorem ok_PP : FunS B 3 lawPPS := by
  refine funS_of (N := 94) (f := ff_PartsPuts) env_PD1 mixed fn_PartsPuts (by kernel_rfl) (by kernel_rfl) (by kernel_rfl) lawPPS_mono ?_
  intro A k ys hA hF
  obtain ⟨b, l, rfl, ⟨hlen, hc⟩, hk⟩ := lawPPS_inv hF; clear hF
  refine ⟨by kernel_rfl, (hA.nf (nf_PartsPuts A k b l) ?_)⟩
  cases hb : decide ((b.length : Int) > 50) with
  | true => exact hk
  | false =>
  rw [decide_eq_false_iff_not] at hb
  rw [cond_false]
  refine ⟨l, rfl, hlen, ?_⟩
  cases hlong : longP l with
  | true => exact hk
  | false =>
  unfold longP at hlong
  rw [Bool.or_eq_false_iff, decide_eq_false_iff_not] at hlong
  obtain ⟨hl1, hl2⟩ := hlong
  have hrows := longRowsP_no l hl1
  have hw : ∀ x, x ∈ l → x.2.2.2.length < 4611686018427387904 := fun x hx => by have := hrows x hx; omega
  have hu : ∀ (l : List UInt8) (y : UInt8), y ∈ l → isU8 (e_uint8 y) = true := fun _ _ _ => rfl
  rw [cond_false]
  refine ⟨hu _, b, l, rfl, rfl, ⟨by omega, by omega, hc⟩, l, rfl, by omega, ?_⟩
  have hbn : ((ofE (prtsE none 0 l)).fst != 0) = !(prtsE none 0 l).isNil := by rw [← (prtsE_good l none 0).nil_iff]; rfl
  rw [hbn]
  cases hn : (prtsE none 0 l).isNil with
  | false =>
    have hO : outP b (prtsE none 0 l) b (prtsB l) = b := by unfold outP; rw [hn]; rfl
    simp only [hO, beq_self_eq_true, Bool.and_self, Bool.not_true, Bool.not_false, cond_true, cond_false]
    exact ⟨hu _, hu _, hk⟩
  | true =>
    have hok := prtsE_ok l none 0 hn
    have hO : outP b (prtsE none 0 l) b (prtsB l) = b ++ prtsB l := by unfold outP; rw [hn]; rfl
    have hL := prtsB_len l hok
    have hd : List.drop b.length (List.take (b ++ prtsB l).length (b ++ prtsB l)) = prtsB l := by
      rw [List.take_length, List.drop_left]
    have hz : (ByteArray.mk (prtsB l).toArray).size = (prtsB l).length := mk_size (prtsB l)
    have hz2 : (ByteArray.mk b.toArray).size = b.length := mk_size b
    have d1 : decide (((b ++ prtsB l).length : Int) < (b.length : Int)) = false := decide_eq_false (by rw [List.length_append]; omega)
    have he : ByteArray.mk (b ++ prtsB l).toArray = ByteArray.mk b.toArray ++ ByteArray.mk (prtsB l).toArray := by
      apply ByteArray.ext; apply Array.ext'; simp
    simp only [hO, d1, Int.toNat_natCast, hd, strPV_e, hz, hz2, he, beq_self_eq_true, Bool.and_self, Bool.not_true, cond_true, cond_false]
    have hs3 : (0 : Int) ≤ (b.length : Int) ∧ (b.length : Int) ≤ ((b ++ prtsB l).length : Int) ∧ ((b ++ prtsB l).length : Int) ≤ ((b ++ prtsB l).length : Int) := by
      rw [List.length_append]; refine ⟨by omega, by omega, by omega⟩
    have hend : (bif ((prtsB l).length : Int) - (0 + ((prtsB l).length : Int)) == 0 then k [PV.bool true] [] else k [PV.bool false] []) := by
      have : (((prtsB l).length : Int) - (0 + ((prtsB l).length : Int)) == 0) = true := by rw [beq_iff_eq]; omega
      rw [this]; exact hk
    have f2 : (0 : Int) ≤ 0 + ((prtsB l).length : Int) ∧ 0 + ((prtsB l).length : Int) ≤ ((prtsB l).length : Int) ∧ (prtsB l).length < 4611686018427387904 := ⟨by omega, by omega, by omega⟩
    have hfin : ∀ {p : Prop}, p → (bif !(ByteArray.mk b.toArray ++ ByteArray.mk (prtsB l).toArray).toList == (ByteArray.mk b.toArray ++ ByteArray.mk (prtsB l).toArray).toList then k [PV.bool false] [] else p) := fun {p} h => by
      rw [beq_self_eq_true]; exact h
    have hW := Has.whole (prtsB l)
    refine ⟨hu _, fun _ _ => rfl, hs3, hu _, ?_⟩
    refine ⟨⟨hu _, l, rfl, ⟨by omega, hok, hc⟩, by rw [hz]; omega, hfin ⟨l, ⟨?_, ?_, ?_, by omega, hW, hn, hc, by omega⟩, l, rfl, rfl, ⟨by omega, hw⟩, f2, hend⟩⟩, l, rfl, ⟨by omega, hok, hc⟩, by rw [hz]; omega, hu _, hfin ⟨l, ⟨?_, ?_, ?_, by omega, hW, hn, hc, by omega⟩, l, rfl, rfl, ⟨by omega, hw⟩, f2, hend⟩⟩
    all_goals first | trivial | rfl | omega
theorem pre_PartsPuts (b : List UInt8) (l : List Prt) (_ : g_o22 b) (hl : g_o23 l) : lawPPS [a_o22 b, a_o23 l] fun rs => rs = [.bool true] := by
  have h1 : l.length ≤ maxLen := hl.1
  have h2 : maxLen ≤ 9223372036854775807 := by decide
  have h3 : ∀ x, x ∈ l → ∀ c, c ∈ x.2.2.2 → OkC c := fun x hx c hc => by
    have w : (Lit.int .u32 c.1).wf = true := ((hl.2 x hx).2.2.2.2 c hc).1
    simp [Lit.wf, IntKind.min, IntKind.max, IntKind.signed, IntKind.bits] at w
    exact ⟨by omega, by omega⟩
  exact ⟨b, l, rfl, rfl, ⟨by omega, h3⟩, rfl⟩
end Go.Ab.T
