import Derived.Test.YtgnhjhdmfhfilaaDoorPairs3
import Derived.Test.YtgnhjhdmfhfilaaDoorReach1
import Derived.Test.YtgnhjhdmfhfilaaDoorOp
set_option linter.unusedVariables false
set_option linter.unusedSimpArgs false
namespace Go.Ab.T
open Go Go.Ab Go.Proofs
set_option maxRecDepth 100000
set_option maxHeartbeats 4000000
noncomputable def RF0 := base (fun g => match g with | 133 => some (lift 0 namesF) | 106 => some (lift 0 namesF) | 62 => some (lift 0 cloneS) | 63 => some (eitherOwn (lift 1 putIS) (lift 0 putS)) | 33 => some (lift 0 NewS) | 73 => some (lift 1 EnterS) | 101 => some (lift 1 FailS) | 76 => some (lift 1 NeedS) | 74 => some (lift 1 ErrS) | 100 => some (lift 1 numberS) | 75 => some (lift 1 U8S) | 31 => some (frzAll B (lift 0 prPutS)) | 35 => some (lift 1 prReadS) | 38 => some (lift 0 rGet10S) | 127 => some (lift 1 cptS) | 98 => some (lift 2 insertS) | 96 => some (lift 0 targetsS) | 68 => some (ownArg (lift 0 reachS)) | _ => none) (fun g => match g with | 83 => some nameS | 103 => some nameS | 48 => some newS | 50 => some atS | 71 => some inS | 89 => some sizeS | 132 => some rSizeS | 58 => some getS | 102 => some getS | 61 => some fitsS | 23 => some ofS | 39 => some PlaceS | 37 => some LeftS | 80 => some nanS | 43 => some cmpIS | 42 => some orS | 99 => some cmpPS | 69 => some idS | 72 => some ltPS | 70 => some ltPS | 60 => some r01TS | 32 => some rWrong10S | 34 => some rText10S | 36 => some rSame10S | 78 => some rFailS | 77 => some rNumS | 125 => some len64S | 95 => some len64S | 155 => some insS | 146 => some pdqS | 126 => some sortS | 128 => some lessIS | 129 => some nanS | 97 => some bsS | _ => none) (fun _ => none)
theorem env_RF0 : EnvOk RF0 := env_of (by
    intro g F h
    split at h
    · cases h; exact ok_Name
    · cases h; exact ok_rName
    · cases h; exact ok_New
    · cases h; exact ok_At
    · cases h; exact ok_In
    · cases h; exact ok_size
    · cases h; exact ok_rSize
    · cases h; exact ok_Get
    · cases h; exact ok_rGet
    · cases h; exact ok_fits
    · cases h; exact of_ok
    · cases h; exact ok_Place
    · cases h; exact ok_Left
    · cases h; exact ok_nanI
    · cases h; exact ok_cmpI
    · cases h; exact ok_orF
    · cases h; exact ok_cmpP
    · cases h; exact ok_prRight
    · cases h; exact ok_rLess10
    · cases h; exact ok_less10
    · cases h; exact ok_r01T
    · cases h; exact ok_rWrong10
    · cases h; exact ok_rText10
    · cases h; exact ok_rSame10
    · cases h; exact ok_rFail
    · cases h; exact ok_rNum
    · cases h; exact ok_len64
    · cases h; exact ok_bLen
    · cases h; exact ok_insS
    · cases h; exact ok_pdqS
    · cases h; exact ok_sortS
    · cases h; exact ok_lessI
    · cases h; exact ok_nanJ
    · cases h; exact ok_bsF
    · cases h) (by
    intro g F h
    split at h
    · cases h; exact (lift_ok ok_rnames)
    · cases h; exact (lift_ok ok_names)
    · cases h; exact (lift_ok ok_clone)
    · cases h; exact (eitherOwn_ok (lift_ok ok_putI) (lift_ok ok_put))
    · cases h; exact (lift_ok ok_rNew)
    · cases h; exact (lift_ok ok_Enter)
    · cases h; exact (lift_ok ok_Fail)
    · cases h; exact (lift_ok ok_Need)
    · cases h; exact (lift_ok ok_rErr)
    · cases h; exact (lift_ok ok_number)
    · cases h; exact (lift_ok ok_U8)
    · cases h; exact (frzAll_ok (lift_ok ok_prPut))
    · cases h; exact (lift_ok ok_prRead)
    · cases h; exact (lift_ok ok_rGet10)
    · cases h; exact (lift_ok ok_cptS)
    · cases h; exact (lift_ok ok_insert)
    · cases h; exact (lift_ok ok_targets)
    · cases h; exact (ownArg_ok (lift_ok ok_reach))
    · cases h) (fun g F h => (by cases h))
def trueS10 : SpecS := fun ys Φ => match ys with
  | [] => Φ [.bool true]
  | _ => False
theorem trueS10_mono : MonoS trueS10 := by
  intro ys Φ Ψ h hF
  unfold trueS10 at hF ⊢
  split at hF
  · exact h _ hF
  · exact hF.elim
theorem trueS10_inv {ys : List PV} {Φ : List PV → Prop} (h : trueS10 ys Φ) : ys = [] ∧ Φ [.bool true] := by
  unfold trueS10 at h
  split at h
  · exact ⟨rfl, h⟩
  · exact h.elim
theorem fn_awake10 : FnOk Tryd.prog 30 Tryd.f30 (bodyOf Tryd.f30) := ⟨by kernel_rfl, by kernel_rfl, by kernel_rfl⟩
noncomputable def ff_awake10 : Fun := ⟨Tryd.f30.ntmps, 0, Tryd.f30.results.toList, fun _ => none, fun _ => false, fun _ => []⟩
theorem nf_awake10 (A : KA Kd) (k : List PV → Heap Kd → Prop)  : evT RF0 ff_awake10 A k 400 false [.code (bodyOf Tryd.f30)] (startEnv 21 []) [] = (∃ (zs : List (Int × Int)), List.map e_api_Pair zs = [PV.agg [PV.int IntKind.i64 (1 : Int), PV.int IntKind.i64 (2 : Int)], PV.agg [PV.int IntKind.i64 (2 : Int), PV.int IntKind.i64 (3 : Int)]] ∧ ∃ (l : List Pr), PV.sl (Int × Int) e_api_Pair zs = PV.sl (Int × Int) e_api_Pair l ∧ (l = [((1 : Int), (2 : Int)), ((2 : Int), (3 : Int))] ∧ (1 : Int) = (1 : Int)) ∧ ((0 : Int) ≤ (0 : Int) ∧ (0 : Int) < (↑[(2 : Int), (3 : Int)].length : Int)) ∧ ∀ (y : Int), [(2 : Int), (3 : Int)][Int.toNat (0 : Int)]? = some y → bif y == (2 : Int) then ((0 : Int) ≤ (1 : Int) ∧ (1 : Int) < (↑[(2 : Int), (3 : Int)].length : Int)) ∧ ∀ (y : Int), [(2 : Int), (3 : Int)][Int.toNat (1 : Int)]? = some y → k [PV.bool (y == (3 : Int))] [] else k [PV.bool false] []) := by kernel_rfl
theorem ok_awake10 : FunS B 30 trueS10 := by
  refine funS_of (N := 21) (f := ff_awake10) env_RF0 mixed fn_awake10 (by kernel_rfl) (by kernel_rfl) (by kernel_rfl) trueS10_mono ?_
  intro A k ys hA hF
  obtain ⟨rfl, hk⟩ := trueS10_inv hF; clear hF
  refine ⟨by kernel_rfl, (hA.nf (nf_awake10 A k) ?_)⟩
  refine ⟨[(1, 2), (2, 3)], rfl, [(1, 2), (2, 3)], rfl, ⟨rfl, rfl⟩, by decide, fun y hy => ?_⟩
  obtain rfl : y = 2 := (Option.some.inj hy).symm
  rw [beq_self_eq_true, cond_true]
  refine ⟨by decide, fun y hy => ?_⟩
  obtain rfl : y = 3 := (Option.some.inj hy).symm
  exact hk
noncomputable def RF1 := base (fun g => match g with | 133 => some (lift 0 namesF) | 106 => some (lift 0 namesF) | 62 => some (lift 0 cloneS) | 63 => some (eitherOwn (lift 1 putIS) (lift 0 putS)) | 33 => some (lift 0 NewS) | 73 => some (lift 1 EnterS) | 101 => some (lift 1 FailS) | 76 => some (lift 1 NeedS) | 74 => some (lift 1 ErrS) | 100 => some (lift 1 numberS) | 75 => some (lift 1 U8S) | 31 => some (frzAll B (lift 0 prPutS)) | 35 => some (lift 1 prReadS) | 38 => some (lift 0 rGet10S) | 127 => some (lift 1 cptS) | 98 => some (lift 2 insertS) | 96 => some (lift 0 targetsS) | 68 => some (ownArg (lift 0 reachS)) | _ => none) (fun g => match g with | 83 => some nameS | 103 => some nameS | 48 => some newS | 50 => some atS | 71 => some inS | 89 => some sizeS | 132 => some rSizeS | 58 => some getS | 102 => some getS | 61 => some fitsS | 23 => some ofS | 39 => some PlaceS | 37 => some LeftS | 80 => some nanS | 43 => some cmpIS | 42 => some orS | 99 => some cmpPS | 69 => some idS | 72 => some ltPS | 70 => some ltPS | 60 => some r01TS | 32 => some rWrong10S | 34 => some rText10S | 36 => some rSame10S | 78 => some rFailS | 77 => some rNumS | 125 => some len64S | 95 => some len64S | 155 => some insS | 146 => some pdqS | 126 => some sortS | 128 => some lessIS | 129 => some nanS | 97 => some bsS | 30 => some trueS10 | _ => none) (fun _ => none)
theorem env_RF1 : EnvOk RF1 := env_of (by
    intro g F h
    split at h
    · cases h; exact ok_Name
    · cases h; exact ok_rName
    · cases h; exact ok_New
    · cases h; exact ok_At
    · cases h; exact ok_In
    · cases h; exact ok_size
    · cases h; exact ok_rSize
    · cases h; exact ok_Get
    · cases h; exact ok_rGet
    · cases h; exact ok_fits
    · cases h; exact of_ok
    · cases h; exact ok_Place
    · cases h; exact ok_Left
    · cases h; exact ok_nanI
    · cases h; exact ok_cmpI
    · cases h; exact ok_orF
    · cases h; exact ok_cmpP
    · cases h; exact ok_prRight
    · cases h; exact ok_rLess10
    · cases h; exact ok_less10
    · cases h; exact ok_r01T
    · cases h; exact ok_rWrong10
    · cases h; exact ok_rText10
    · cases h; exact ok_rSame10
    · cases h; exact ok_rFail
    · cases h; exact ok_rNum
    · cases h; exact ok_len64
    · cases h; exact ok_bLen
    · cases h; exact ok_insS
    · cases h; exact ok_pdqS
    · cases h; exact ok_sortS
    · cases h; exact ok_lessI
    · cases h; exact ok_nanJ
    · cases h; exact ok_bsF
    · cases h; exact ok_awake10
    · cases h) (by
    intro g F h
    split at h
    · cases h; exact (lift_ok ok_rnames)
    · cases h; exact (lift_ok ok_names)
    · cases h; exact (lift_ok ok_clone)
    · cases h; exact (eitherOwn_ok (lift_ok ok_putI) (lift_ok ok_put))
    · cases h; exact (lift_ok ok_rNew)
    · cases h; exact (lift_ok ok_Enter)
    · cases h; exact (lift_ok ok_Fail)
    · cases h; exact (lift_ok ok_Need)
    · cases h; exact (lift_ok ok_rErr)
    · cases h; exact (lift_ok ok_number)
    · cases h; exact (lift_ok ok_U8)
    · cases h; exact (frzAll_ok (lift_ok ok_prPut))
    · cases h; exact (lift_ok ok_prRead)
    · cases h; exact (lift_ok ok_rGet10)
    · cases h; exact (lift_ok ok_cptS)
    · cases h; exact (lift_ok ok_insert)
    · cases h; exact (lift_ok ok_targets)
    · cases h; exact (ownArg_ok (lift_ok ok_reach))
    · cases h) (fun g F h => (by cases h))
theorem fn_PairsPuts : FnOk Tryd.prog 8 Tryd.f8 (bodyOf Tryd.f8) := ⟨by kernel_rfl, by kernel_rfl, by kernel_rfl⟩
noncomputable def ff_PairsPuts : Fun := ⟨Tryd.f8.ntmps, 0, Tryd.f8.results.toList, fun _ => none, fun _ => false, fun _ => []⟩
theorem nf_PairsPuts (A : KA Kd) (k : List PV → Heap Kd → Prop) (b : List UInt8) (l : List Pr) : evT RF1 ff_PairsPuts A k 400 false [.code (bodyOf Tryd.f8)] (startEnv 95 [.sl _ e_uint8 b, .sl _ e_api_Pair l]) [] = (bif decide ((↑b.length : Int) > (50 : Int)) then k [PV.bool true] []
else bif decide ((↑l.length : Int) > (300 : Int)) then k [PV.bool true] [] else (∀ (y : UInt8), y ∈ b → isU8 (e_uint8 y) = true) ∧ ∃ (b_1 : List UInt8), ∃ (l_1 : List Pr), PV.sl UInt8 e_uint8 b = PV.sl UInt8 e_uint8 b_1 ∧ PV.sl (Int × Int) e_api_Pair l = PV.sl (Int × Int) e_api_Pair l_1 ∧ (b_1.length < (1000000 : Nat) ∧ l_1.length < (100000 : Nat)) ∧ ∃ (l_2 : List Pr), PV.sl (Int × Int) e_api_Pair l = PV.sl (Int × Int) e_api_Pair l_2 ∧ l_2.length < (100000 : Nat) ∧ bif !((ofE (prsE none (0 : Nat) l_1)).fst == (ofE (prsE none (0 : Nat) l_2)).fst && ((ofE (prsE none (0 : Nat) l_1)).snd.fst == (ofE (prsE none (0 : Nat) l_2)).snd.fst && ((ofE (prsE none (0 : Nat) l_1)).snd.snd == (ofE (prsE none (0 : Nat) l_2)).snd.snd && true))) then k [PV.bool false] [] else (∀ (y : UInt8), y ∈ b → isU8 (e_uint8 y) = true) ∧ bif !(strPV (List.map e_uint8 b)).toList == (strPV (List.map e_uint8 b)).toList then k [PV.bool false] [] else bif (ofE (prsE none (0 : Nat) l_2)).fst != (0 : Int) then (∀ (y : UInt8), y ∈ outP b_1 (prsE none (0 : Nat) l_1) b_1 (pairsB l_1) → isU8 (e_uint8 y) = true) ∧ bif (strPV (List.map e_uint8 (outP b_1 (prsE none (0 : Nat) l_1) b_1 (pairsB l_1)))).toList == (strPV (List.map e_uint8 b)).toList then k [PV.bool true] [] else k [PV.bool false] [] else bif decide ((↑(outP b_1 (prsE none (0 : Nat) l_1) b_1 (pairsB l_1)).length : Int) < (↑b.length : Int)) then k [PV.bool false] [] else (∀ (y : UInt8), y ∈ outP b_1 (prsE none (0 : Nat) l_1) b_1 (pairsB l_1) → (e_uint8 y).cells.length = (TInfo.mk (TD.int IntKind.u8) (1 : Nat) (1 : Nat) [PV.int IntKind.u8 (0 : Int)] false []).size) ∧ ((0 : Int) ≤ (↑b.length : Int) ∧ (↑b.length : Int) ≤ (↑(outP b_1 (prsE none (0 : Nat) l_1) b_1 (pairsB l_1)).length : Int) ∧ (↑(outP b_1 (prsE none (0 : Nat) l_1) b_1 (pairsB l_1)).length : Int) ≤ (↑(outP b_1 (prsE none (0 : Nat) l_1) b_1 (pairsB l_1)).length : Int)) ∧ (∀ (y : UInt8), y ∈ List.drop (↑b.length : Int).toNat (List.take (↑(outP b_1 (prsE none (0 : Nat) l_1) b_1 (pairsB l_1)).length : Int).toNat (outP b_1 (prsE none (0 : Nat) l_1) b_1 (pairsB l_1))) → isU8 (e_uint8 y) = true) ∧ ((∀ (y : UInt8), y ∈ outP b_1 (prsE none (0 : Nat) l_1) b_1 (pairsB l_1) → isU8 (e_uint8 y) = true) ∧ ∃ (l_3 : List Pr), PV.sl (Int × Int) e_api_Pair l = PV.sl (Int × Int) e_api_Pair l_3 ∧ (l_3.length < (100000 : Nat) ∧ ∀ (x : Pr), x ∈ l_3 → inP x = true) ∧ (strPV (List.map e_uint8 b)).size + (ByteArray.mk (pairsB l_3).toArray).size ≤ (9223372036854775807 : Nat) ∧ bif !(strPV (List.map e_uint8 (outP b_1 (prsE none (0 : Nat) l_1) b_1 (pairsB l_1)))).toList == (strPV (List.map e_uint8 b) ++ ByteArray.mk (pairsB l_3).toArray).toList then k [PV.bool false] [] else (((0 : Int) ≤ (0 : Int) ∧ (0 : Int) ≤ (↑(strPV (List.map e_uint8 (List.drop (↑b.length : Int).toNat (List.take (↑(outP b_1 (prsE none (0 : Nat) l_1) b_1 (pairsB l_1)).length : Int).toNat (outP b_1 (prsE none (0 : Nat) l_1) b_1 (pairsB l_1)))))).size : Int) ∧ (strPV (List.map e_uint8 (List.drop (↑b.length : Int).toNat (List.take (↑(outP b_1 (prsE none (0 : Nat) l_1) b_1 (pairsB l_1)).length : Int).toNat (outP b_1 (prsE none (0 : Nat) l_1) b_1 (pairsB l_1)))))).size < (1099511627776 : Nat)) ∧ (↑l.length : Int) ≤ (9223372036854775807 : Int)) ∧ bif (prsX (strPV (List.map e_uint8 (List.drop (↑b.length : Int).toNat (List.take (↑(outP b_1 (prsE none (0 : Nat) l_1) b_1 (pairsB l_1)).length : Int).toNat (outP b_1 (prsE none (0 : Nat) l_1) b_1 (pairsB l_1)))))) (↑l.length : Int).toNat none ((0 : Int), Err.nil)).snd.isNil then ∃ (l_4 : List Pr), ∃ (m : List Pr), PV.sl (Int × Int) e_api_Pair (Bool.rec ((fun (_ : Unit) => []) ()) ((fun (_ : Unit) => prsV (strPV (List.map e_uint8 (List.drop (↑b.length : Int).toNat (List.take (↑(outP b_1 (prsE none (0 : Nat) l_1) b_1 (pairsB l_1)).length : Int).toNat (outP b_1 (prsE none (0 : Nat) l_1) b_1 (pairsB l_1)))))) (↑l.length : Int).toNat none ((0 : Int), Err.nil)) ()) (prsX (strPV (List.map e_uint8 (List.drop (↑b.length : Int).toNat (List.take (↑(outP b_1 (prsE none (0 : Nat) l_1) b_1 (pairsB l_1)).length : Int).toNat (outP b_1 (prsE none (0 : Nat) l_1) b_1 (pairsB l_1)))))) (↑l.length : Int).toNat none ((0 : Int), Err.nil)).snd.isNil) = PV.sl (Int × Int) e_api_Pair l_4 ∧ PV.sl (Int × Int) e_api_Pair l = PV.sl (Int × Int) e_api_Pair m ∧ l_4.length < (4611686018427387904 : Nat) ∧ bif decide (l_4 = m) then ((0 : Int) ≤ (prsX (strPV (List.map e_uint8 (List.drop (↑b.length : Int).toNat (List.take (↑(outP b_1 (prsE none (0 : Nat) l_1) b_1 (pairsB l_1)).length : Int).toNat (outP b_1 (prsE none (0 : Nat) l_1) b_1 (pairsB l_1)))))) (↑l.length : Int).toNat none ((0 : Int), Err.nil)).fst ∧ (prsX (strPV (List.map e_uint8 (List.drop (↑b.length : Int).toNat (List.take (↑(outP b_1 (prsE none (0 : Nat) l_1) b_1 (pairsB l_1)).length : Int).toNat (outP b_1 (prsE none (0 : Nat) l_1) b_1 (pairsB l_1)))))) (↑l.length : Int).toNat none ((0 : Int), Err.nil)).fst ≤ (↑(strPV (List.map e_uint8 (List.drop (↑b.length : Int).toNat (List.take (↑(outP b_1 (prsE none (0 : Nat) l_1) b_1 (pairsB l_1)).length : Int).toNat (outP b_1 (prsE none (0 : Nat) l_1) b_1 (pairsB l_1)))))).size : Int) ∧ (strPV (List.map e_uint8 (List.drop (↑b.length : Int).toNat (List.take (↑(outP b_1 (prsE none (0 : Nat) l_1) b_1 (pairsB l_1)).length : Int).toNat (outP b_1 (prsE none (0 : Nat) l_1) b_1 (pairsB l_1)))))).size < (4611686018427387904 : Nat)) ∧ bif (↑(strPV (List.map e_uint8 (List.drop (↑b.length : Int).toNat (List.take (↑(outP b_1 (prsE none (0 : Nat) l_1) b_1 (pairsB l_1)).length : Int).toNat (outP b_1 (prsE none (0 : Nat) l_1) b_1 (pairsB l_1)))))).size : Int) - (prsX (strPV (List.map e_uint8 (List.drop (↑b.length : Int).toNat (List.take (↑(outP b_1 (prsE none (0 : Nat) l_1) b_1 (pairsB l_1)).length : Int).toNat (outP b_1 (prsE none (0 : Nat) l_1) b_1 (pairsB l_1)))))) (↑l.length : Int).toNat none ((0 : Int), Err.nil)).fst == (0 : Int) then k [PV.bool true] [] else k [PV.bool false] [] else k [PV.bool false] [] else k [PV.bool false] []) ∧ ∃ (l_3 : List Pr), PV.sl (Int × Int) e_api_Pair l = PV.sl (Int × Int) e_api_Pair l_3 ∧ (l_3.length < (100000 : Nat) ∧ ∀ (x : Pr), x ∈ l_3 → inP x = true) ∧ (strPV (List.map e_uint8 b)).size + (ByteArray.mk (pairsB l_3).toArray).size ≤ (9223372036854775807 : Nat) ∧ (∀ (y : UInt8), y ∈ outP b_1 (prsE none (0 : Nat) l_1) b_1 (pairsB l_1) → isU8 (e_uint8 y) = true) ∧ bif !(strPV (List.map e_uint8 (outP b_1 (prsE none (0 : Nat) l_1) b_1 (pairsB l_1)))).toList == (strPV (List.map e_uint8 b) ++ ByteArray.mk (pairsB l_3).toArray).toList then k [PV.bool false] [] else (((0 : Int) ≤ (0 : Int) ∧ (0 : Int) ≤ (↑(strPV (List.map e_uint8 (List.drop (↑b.length : Int).toNat (List.take (↑(outP b_1 (prsE none (0 : Nat) l_1) b_1 (pairsB l_1)).length : Int).toNat (outP b_1 (prsE none (0 : Nat) l_1) b_1 (pairsB l_1)))))).size : Int) ∧ (strPV (List.map e_uint8 (List.drop (↑b.length : Int).toNat (List.take (↑(outP b_1 (prsE none (0 : Nat) l_1) b_1 (pairsB l_1)).length : Int).toNat (outP b_1 (prsE none (0 : Nat) l_1) b_1 (pairsB l_1)))))).size < (1099511627776 : Nat)) ∧ (↑l.length : Int) ≤ (9223372036854775807 : Int)) ∧ bif (prsX (strPV (List.map e_uint8 (List.drop (↑b.length : Int).toNat (List.take (↑(outP b_1 (prsE none (0 : Nat) l_1) b_1 (pairsB l_1)).length : Int).toNat (outP b_1 (prsE none (0 : Nat) l_1) b_1 (pairsB l_1)))))) (↑l.length : Int).toNat none ((0 : Int), Err.nil)).snd.isNil then ∃ (l_4 : List Pr), ∃ (m : List Pr), PV.sl (Int × Int) e_api_Pair (Bool.rec ((fun (_ : Unit) => []) ()) ((fun (_ : Unit) => prsV (strPV (List.map e_uint8 (List.drop (↑b.length : Int).toNat (List.take (↑(outP b_1 (prsE none (0 : Nat) l_1) b_1 (pairsB l_1)).length : Int).toNat (outP b_1 (prsE none (0 : Nat) l_1) b_1 (pairsB l_1)))))) (↑l.length : Int).toNat none ((0 : Int), Err.nil)) ()) (prsX (strPV (List.map e_uint8 (List.drop (↑b.length : Int).toNat (List.take (↑(outP b_1 (prsE none (0 : Nat) l_1) b_1 (pairsB l_1)).length : Int).toNat (outP b_1 (prsE none (0 : Nat) l_1) b_1 (pairsB l_1)))))) (↑l.length : Int).toNat none ((0 : Int), Err.nil)).snd.isNil) = PV.sl (Int × Int) e_api_Pair l_4 ∧ PV.sl (Int × Int) e_api_Pair l = PV.sl (Int × Int) e_api_Pair m ∧ l_4.length < (4611686018427387904 : Nat) ∧ bif decide (l_4 = m) then ((0 : Int) ≤ (prsX (strPV (List.map e_uint8 (List.drop (↑b.length : Int).toNat (List.take (↑(outP b_1 (prsE none (0 : Nat) l_1) b_1 (pairsB l_1)).length : Int).toNat (outP b_1 (prsE none (0 : Nat) l_1) b_1 (pairsB l_1)))))) (↑l.length : Int).toNat none ((0 : Int), Err.nil)).fst ∧ (prsX (strPV (List.map e_uint8 (List.drop (↑b.length : Int).toNat (List.take (↑(outP b_1 (prsE none (0 : Nat) l_1) b_1 (pairsB l_1)).length : Int).toNat (outP b_1 (prsE none (0 : Nat) l_1) b_1 (pairsB l_1)))))) (↑l.length : Int).toNat none ((0 : Int), Err.nil)).fst ≤ (↑(strPV (List.map e_uint8 (List.drop (↑b.length : Int).toNat (List.take (↑(outP b_1 (prsE none (0 : Nat) l_1) b_1 (pairsB l_1)).length : Int).toNat (outP b_1 (prsE none (0 : Nat) l_1) b_1 (pairsB l_1)))))).size : Int) ∧ (strPV (List.map e_uint8 (List.drop (↑b.length : Int).toNat (List.take (↑(outP b_1 (prsE none (0 : Nat) l_1) b_1 (pairsB l_1)).length : Int).toNat (outP b_1 (prsE none (0 : Nat) l_1) b_1 (pairsB l_1)))))).size < (4611686018427387904 : Nat)) ∧ bif (↑(strPV (List.map e_uint8 (List.drop (↑b.length : Int).toNat (List.take (↑(outP b_1 (prsE none (0 : Nat) l_1) b_1 (pairsB l_1)).length : Int).toNat (outP b_1 (prsE none (0 : Nat) l_1) b_1 (pairsB l_1)))))).size : Int) - (prsX (strPV (List.map e_uint8 (List.drop (↑b.length : Int).toNat (List.take (↑(outP b_1 (prsE none (0 : Nat) l_1) b_1 (pairsB l_1)).length : Int).toNat (outP b_1 (prsE none (0 : Nat) l_1) b_1 (pairsB l_1)))))) (↑l.length : Int).toNat none ((0 : Int), Err.nil)).fst == (0 : Int) then k [PV.bool true] [] else k [PV.bool false] [] else k [PV.bool false] [] else k [PV.bool false] []) := by kernel_rfl
def lawPP10 : SpecS := fun ys Φ => match ys with
  | [x_0, x_1] => ∃ (b : List UInt8), ∃ (l : List Pr), x_0 = .sl _ e_uint8 b ∧ x_1 = .sl _ e_api_Pair l ∧ Φ [.bool true]
  | _ => False
theorem lawPP10_mono : MonoS lawPP10 := by
  intro ys Φ Ψ h hF
  unfold lawPP10 at hF ⊢
  split at hF
  · obtain ⟨a0, a1, q0, q1, hk⟩ := hF; exact ⟨a0, a1, q0, q1, h _ hk⟩
  · exact hF.elim
theorem lawPP10_inv {ys : List PV} {Φ : List PV → Prop} (h : lawPP10 ys Φ) : ∃ (b : List UInt8) (l : List Pr), ys = [.sl _ e_uint8 b, .sl _ e_api_Pair l] ∧ Φ [.bool true] := by
  unfold lawPP10 at h
  split at h
  · obtain ⟨a0, a1, q0, q1, hz⟩ := h
    subst q0
    subst q1
    exact ⟨a0, a1, rfl, hz⟩
  · exact h.elim
theorem ok_PP10 : FunS B 8 lawPP10 := by
  refine funS_of (N := 95) (f := ff_PairsPuts) env_RF1 mixed fn_PairsPuts (by kernel_rfl) (by kernel_rfl) (by kernel_rfl) lawPP10_mono ?_
  intro A k ys hA hF
  obtain ⟨b, l, rfl, hk⟩ := lawPP10_inv hF; clear hF
  refine ⟨by kernel_rfl, (hA.nf (nf_PairsPuts A k b l) ?_)⟩
  cases hb : decide ((b.length : Int) > 50) with
  | true => exact hk
  | false =>
  cases hl : decide ((l.length : Int) > 300) with
  | true => exact hk
  | false =>
  rw [decide_eq_false_iff_not] at hb hl
  rw [cond_false, cond_false]
  have hu : ∀ (l : List UInt8) (y : UInt8), y ∈ l → isU8 (e_uint8 y) = true := fun _ _ _ => rfl
  refine ⟨hu _, b, l, rfl, rfl, ⟨by omega, by omega⟩, l, rfl, by omega, ?_⟩
  have hbn : ((ofE (prsE none 0 l)).fst != 0) = !(prsE none 0 l).isNil := by rw [← (prsE_good l none 0).nil_iff]; rfl
  rw [hbn]
  cases hn : (prsE none 0 l).isNil with
  | false =>
    have hO : outP b (prsE none 0 l) b (pairsB l) = b := by unfold outP; rw [hn]; rfl
    simp only [hO, beq_self_eq_true, Bool.and_self, Bool.not_true, Bool.not_false, cond_true, cond_false]
    exact ⟨hu _, hu _, hk⟩
  | true =>
    have hok := prsE_ok l none 0 hn
    have hO : outP b (prsE none 0 l) b (pairsB l) = b ++ pairsB l := by unfold outP; rw [hn]; rfl
    have hL := pairsB_len l
    have hd : List.drop b.length (List.take (b ++ pairsB l).length (b ++ pairsB l)) = pairsB l := by
      rw [List.take_length, List.drop_left]
    have hz : (ByteArray.mk (pairsB l).toArray).size = (pairsB l).length := mk_size (pairsB l)
    have hz2 : (ByteArray.mk b.toArray).size = b.length := mk_size b
    have d1 : decide (((b ++ pairsB l).length : Int) < (b.length : Int)) = false := decide_eq_false (by rw [List.length_append]; omega)
    have he : ByteArray.mk (b ++ pairsB l).toArray = ByteArray.mk b.toArray ++ ByteArray.mk (pairsB l).toArray := by
      apply ByteArray.ext; apply Array.ext'; simp
    obtain ⟨B1, B2⟩ := prs_back (S := ByteArray.mk (pairsB l).toArray) l none 0 0 0 rfl hn (Has.whole (pairsB l))
    rw [Nat.zero_add] at B2
    simp only [hO, d1, Int.toNat_natCast, hd, strPV_e, B1, B2, hz, hz2, he, beq_self_eq_true, Bool.and_self, Bool.not_true, cond_true, cond_false]
    have hs3 : (0 : Int) ≤ (b.length : Int) ∧ (b.length : Int) ≤ ((b ++ pairsB l).length : Int) ∧ ((b ++ pairsB l).length : Int) ≤ ((b ++ pairsB l).length : Int) := by
      rw [List.length_append]; refine ⟨by omega, by omega, by omega⟩
    have f1 : ((0 : Int) ≤ 0 ∧ (0 : Int) ≤ ((pairsB l).length : Int) ∧ (pairsB l).length < 1099511627776) ∧ (l.length : Int) ≤ 9223372036854775807 := ⟨⟨by omega, by omega, by omega⟩, by omega⟩
    have f2 : (0 : Int) ≤ ((pairsB l).length : Int) ∧ ((pairsB l).length : Int) ≤ ((pairsB l).length : Int) ∧ (pairsB l).length < 4611686018427387904 := ⟨by omega, by omega, by omega⟩
    have hend : (bif ((pairsB l).length : Int) - ((pairsB l).length : Int) == 0 then k [PV.bool true] [] else k [PV.bool false] []) := by
      have : (((pairsB l).length : Int) - ((pairsB l).length : Int) == 0) = true := by rw [beq_iff_eq]; omega
      rw [this]; exact hk
    have hrest : ∃ (l_4 : List Pr), ∃ (m : List Pr), PV.sl Pr e_api_Pair l = PV.sl Pr e_api_Pair l_4 ∧ PV.sl Pr e_api_Pair l = PV.sl Pr e_api_Pair m ∧ l_4.length < 4611686018427387904 ∧ (bif decide (l_4 = m) then ((0 : Int) ≤ ((pairsB l).length : Int) ∧ ((pairsB l).length : Int) ≤ ((pairsB l).length : Int) ∧ (pairsB l).length < 4611686018427387904) ∧ (bif ((pairsB l).length : Int) - ((pairsB l).length : Int) == 0 then k [PV.bool true] [] else k [PV.bool false] []) else k [PV.bool false] []) :=
      ⟨l, l, rfl, rfl, by omega, by rw [decide_eq_true rfl]; exact ⟨f2, hend⟩⟩
    have hfin : ∀ {p : Prop}, p → (bif !(ByteArray.mk b.toArray ++ ByteArray.mk (pairsB l).toArray).toList == (ByteArray.mk b.toArray ++ ByteArray.mk (pairsB l).toArray).toList then k [PV.bool false] [] else p) := fun {p} h => by
      rw [beq_self_eq_true]; exact h
    refine ⟨hu _, fun _ _ => rfl, hs3, hu _, ?_⟩
    exact ⟨⟨hu _, l, rfl, ⟨by omega, hok⟩, by rw [hz]; omega, hfin ⟨f1, hrest⟩⟩, l, rfl, ⟨by omega, hok⟩, by rw [hz]; omega, hu _, hfin ⟨f1, hrest⟩⟩
theorem pre_PairsPuts (b : List UInt8) (l : List Pr) (_ : g_o51 b) (_ : g_o59 l) : lawPP10 [a_o51 b, a_o59 l] fun rs => rs = [.bool true] := ⟨b, l, rfl, rfl, rfl⟩
theorem fn_PairsReads : FnOk Tryd.prog 9 Tryd.f9 (bodyOf Tryd.f9) := ⟨by kernel_rfl, by kernel_rfl, by kernel_rfl⟩
noncomputable def ff_PairsReads : Fun := ⟨Tryd.f9.ntmps, 0, Tryd.f9.results.toList, fun _ => none, fun _ => false, fun _ => []⟩
theorem nf_PairsReads (A : KA Kd) (k : List PV → Heap Kd → Prop) (s : ByteArray) (n : Int) : evT RF1 ff_PairsReads A k 400 false [.code (bodyOf Tryd.f9)] (startEnv 79 [.str s, .int .i64 n]) [] = (bif decide ((↑s.size : Int) > (600 : Int)) then k [PV.bool true] []
else (((0 : Int) ≤ (0 : Int) ∧ (0 : Int) ≤ (↑s.size : Int) ∧ s.size < (1099511627776 : Nat)) ∧ n ≤ (9223372036854775807 : Int)) ∧ ((((0 : Int) ≤ (0 : Int) ∧ (0 : Int) ≤ (↑s.size : Int) ∧ s.size < (1099511627776 : Nat)) ∧ GoodF ((0 : Int), (0 : Int), (0 : Int))) ∧ n ≤ (9223372036854775807 : Int)) ∧ ∃ (l : List Pr), ∃ (m : List Pr), PV.sl (Int × Int) e_api_Pair (Bool.rec ((fun (_ : Unit) => []) ()) ((fun (_ : Unit) => prsV s n.toNat none ((0 : Int), Err.nil)) ()) (prsX s n.toNat none ((0 : Int), Err.nil)).snd.isNil) = PV.sl (Int × Int) e_api_Pair l ∧ PV.sl (Int × Int) e_api_Pair (Bool.rec ((fun (_ : Unit) => []) ()) ((fun (_ : Unit) => prsV s n.toNat none ((0 : Int), toE ((0 : Int), (0 : Int), (0 : Int)))) ()) (prsX s n.toNat none ((0 : Int), toE ((0 : Int), (0 : Int), (0 : Int)))).snd.isNil) = PV.sl (Int × Int) e_api_Pair m ∧ l.length < (4611686018427387904 : Nat) ∧ bif !decide (l = m) then k [PV.bool false] [] else bif !((ofE (prsX s n.toNat none ((0 : Int), Err.nil)).snd).fst == (ofE (prsX s n.toNat none ((0 : Int), toE ((0 : Int), (0 : Int), (0 : Int)))).snd).fst && ((ofE (prsX s n.toNat none ((0 : Int), Err.nil)).snd).snd.fst == (ofE (prsX s n.toNat none ((0 : Int), toE ((0 : Int), (0 : Int), (0 : Int)))).snd).snd.fst && ((ofE (prsX s n.toNat none ((0 : Int), Err.nil)).snd).snd.snd == (ofE (prsX s n.toNat none ((0 : Int), toE ((0 : Int), (0 : Int), (0 : Int)))).snd).snd.snd && true))) then k [PV.bool false] [] else bif (prsX s n.toNat none ((0 : Int), Err.nil)).fst != (prsX s n.toNat none ((0 : Int), toE ((0 : Int), (0 : Int), (0 : Int)))).fst then k [PV.bool false] [] else bif !(prsX s n.toNat none ((0 : Int), Err.nil)).snd.isNil then k [PV.bool true] [] else ∃ (b : List UInt8), ∃ (l : List Pr), PV.sl UInt8 e_uint8 [] = PV.sl UInt8 e_uint8 b ∧ PV.sl (Int × Int) e_api_Pair (Bool.rec ((fun (_ : Unit) => []) ()) ((fun (_ : Unit) => prsV s n.toNat none ((0 : Int), Err.nil)) ()) (prsX s n.toNat none ((0 : Int), Err.nil)).snd.isNil) = PV.sl (Int × Int) e_api_Pair l ∧ (b.length < (1000000 : Nat) ∧ l.length < (100000 : Nat)) ∧ bif (prsE none (0 : Nat) l).isNil then ((∀ (y : UInt8), y ∈ outP b (prsE none (0 : Nat) l) b (pairsB l) → isU8 (e_uint8 y) = true) ∧ ((0 : Int) ≤ (0 : Int) ∧ (0 : Int) ≤ (prsX s n.toNat none ((0 : Int), toE ((0 : Int), (0 : Int), (0 : Int)))).fst ∧ (prsX s n.toNat none ((0 : Int), toE ((0 : Int), (0 : Int), (0 : Int)))).fst ≤ (↑s.size : Int)) ∧ bif (strPV (List.map e_uint8 (outP b (prsE none (0 : Nat) l) b (pairsB l)))).toList == (s.extract (Int.toNat (0 : Int)) (prsX s n.toNat none ((0 : Int), toE ((0 : Int), (0 : Int), (0 : Int)))).fst.toNat).toList then k [PV.bool true] [] else k [PV.bool false] []) ∧ ((0 : Int) ≤ (0 : Int) ∧ (0 : Int) ≤ (prsX s n.toNat none ((0 : Int), toE ((0 : Int), (0 : Int), (0 : Int)))).fst ∧ (prsX s n.toNat none ((0 : Int), toE ((0 : Int), (0 : Int), (0 : Int)))).fst ≤ (↑s.size : Int)) ∧ (∀ (y : UInt8), y ∈ outP b (prsE none (0 : Nat) l) b (pairsB l) → isU8 (e_uint8 y) = true) ∧ bif (strPV (List.map e_uint8 (outP b (prsE none (0 : Nat) l) b (pairsB l)))).toList == (s.extract (Int.toNat (0 : Int)) (prsX s n.toNat none ((0 : Int), toE ((0 : Int), (0 : Int), (0 : Int)))).fst.toNat).toList then k [PV.bool true] [] else k [PV.bool false] [] else k [PV.bool false] []) := by kernel_rfl
def lawPR10 : SpecS := fun ys Φ => match ys with
  | [.str s, .int .i64 n] => (n ≤ 9223372036854775807) ∧ Φ [.bool true]
  | _ => False
theorem lawPR10_mono : MonoS lawPR10 := by
  intro ys Φ Ψ h hF
  unfold lawPR10 at hF ⊢
  split at hF
  · obtain ⟨hp, hk⟩ := hF; exact ⟨hp, h _ hk⟩
  · exact hF.elim
theorem lawPR10_inv {ys : List PV} {Φ : List PV → Prop} (h : lawPR10 ys Φ) : ∃ (s : ByteArray) (n : Int), ys = [.str s, .int .i64 n] ∧ (n ≤ 9223372036854775807) ∧ Φ [.bool true] := by
  unfold lawPR10 at h
  split at h
  · exact ⟨_, _, rfl, h⟩
  · exact h.elim
theorem ok_PR10 : FunS B 9 lawPR10 := by
  refine funS_of (N := 79) (f := ff_PairsReads) env_RF1 mixed fn_PairsReads (by kernel_rfl) (by kernel_rfl) (by kernel_rfl) lawPR10_mono ?_
  intro A k ys hA hF
  obtain ⟨s, n, rfl, hn, hk⟩ := lawPR10_inv hF; clear hF
  refine ⟨by kernel_rfl, (hA.nf (nf_PairsReads A k s n) ?_)⟩
  cases hl : decide ((s.size : Int) > 600) with
  | true => exact hk
  | false =>
  rw [decide_eq_false_iff_not] at hl
  rw [cond_false]
  have e0 : toE (0, 0, 0) = Err.nil := rfl
  have hx0 : hIn s ((0 : Int), Err.nil) := ⟨Int.le_refl _, by show (0 : Int) ≤ s.size; omega⟩
  have hx := hIn.prs n.toNat none hx0
  have f0 : (0 : Int) ≤ 0 ∧ (0 : Int) ≤ (s.size : Int) ∧ s.size < 1099511627776 := ⟨Int.le_refl _, by omega, by omega⟩
  have hres : (resP s n.toNat (0, .nil)) = bif (prsX s n.toNat none (0, .nil)).2.isNil then prsV s n.toNat none (0, .nil) else [] := rfl
  have hgood : (resP s n.toNat (0, .nil)).length ≤ 1000 ∧ ((prsX s n.toNat none (0, .nil)).2.isNil = true → (prsE none 0 (resP s n.toNat (0, .nil))).isNil = true ∧ Seg s 0 (prsX s n.toNat none (0, .nil)).1 (pairsB (resP s n.toNat (0, .nil)))) := by
    rw [hres]
    cases c : (prsX s n.toNat none (0, .nil)).2.isNil with
    | false => exact ⟨Nat.zero_le _, fun h => (by cases h)⟩
    | true =>
      obtain ⟨g1, g2⟩ := seg_prs n.toNat none (0, .nil) 0 hx0 c
      have h1 := seg_len g1
      rw [pairsB_len] at h1
      exact ⟨by show (prsV s n.toNat none (0, .nil)).length ≤ 1000; omega, fun _ => ⟨g2, g1⟩⟩
  obtain ⟨g1, g3⟩ := hgood
  refine ⟨⟨f0, hn⟩, ⟨⟨f0, GoodF.mk .nil⟩, hn⟩, resP s n.toNat (0, .nil), resP s n.toNat (0, .nil), by kernel_rfl, by kernel_rfl, by omega, ?_⟩
  rw [e0, decide_eq_true rfl]
  simp only [beq_self_eq_true, bne_self_eq_false, Bool.and_self, Bool.not_true, cond_false]
  cases c : (prsX s n.toNat none (0, .nil)).2.isNil with
  | false => exact hk
  | true =>
    rw [Bool.not_true, cond_false]
    obtain ⟨g4, g5⟩ := g3 c
    have hresT : resP s n.toNat (0, .nil) = prsV s n.toNat none (0, .nil) := by rw [hres, c]; rfl
    have hsl : PV.sl Pr e_api_Pair (prsV s n.toNat none (0, .nil)) = PV.sl Pr e_api_Pair (resP s n.toNat (0, .nil)) := by rw [hresT]
    refine ⟨[], resP s n.toNat (0, .nil), rfl, hsl, ⟨by decide, by omega⟩, ?_⟩
    rw [g4, cond_true]
    have hO : outP [] (prsE none 0 (resP s n.toNat (0, .nil))) [] (pairsB (resP s n.toNat (0, .nil))) = pairsB (resP s n.toNat (0, .nil)) := by unfold outP; rw [g4]; rfl
    rw [hO, strPV_e, seg_text g5, beq_self_eq_true]
    exact ⟨⟨fun _ _ => rfl, ⟨Int.le_refl _, hx.1, hx.2⟩, hk⟩, ⟨Int.le_refl _, hx.1, hx.2⟩, fun _ _ => rfl, hk⟩
theorem pre_PairsReads (s : ByteArray) (n : Int) (_ : g_o9 s) (hn : g_o3 n) : lawPR10 [a_o9 s, a_o3 n] fun rs => rs = [.bool true] := by
  have w : (Lit.int .i64 n).wf = true := hn
  simp [Lit.wf, IntKind.min, IntKind.max, IntKind.signed, IntKind.bits] at w
  have h : n ≤ 9223372036854775807 := by omega
  exact ⟨h, rfl⟩
end Go.Ab.T
