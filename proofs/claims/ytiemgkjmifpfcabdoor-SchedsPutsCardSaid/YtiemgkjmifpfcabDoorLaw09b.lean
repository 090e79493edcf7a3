import Derived.Test.YtiemgkjmifpfcabDoorLaw09a
set_option linter.unusedVariables false
set_option linter.unusedSimpArgs false
namespace Go.Ab.T
open Go Go.Ab Go.Proofs
set_option maxRecDepth 100000
set_option maxHeartbeats 4000000
noncomputable def H8 := base (fun g => match g with | 86 => some (lift 0 namesF) | 92 => some (lift 0 namesF) | 39 => some (lift 0 cloneS) | 40 => some (eitherOwn (lift 1 putIS) (lift 0 putS)) | 54 => some (lift 1 sPutS) | 55 => some (lift 1 prWindowS) | 56 => some (lift 1 prNeedS) | 25 => some (frzAll B (lift 0 sPutAS)) | 7 => some (lift 0 NewS) | 9 => some (lift 1 EnterS) | 71 => some (lift 1 FailS) | 37 => some (lift 1 NeedS) | 52 => some (lift 1 ErrS) | 70 => some (lift 1 numberS) | 36 => some (lift 1 U8S) | 51 => some (lift 1 U16S) | 49 => some (lift 1 U32S) | 50 => some (lift 1 U64S) | 38 => some (lift 1 TextS) | 59 => some (lift 1 tkS) | 60 => some (lift 1 rowsWS) | 62 => some (lift 1 rowsNS) | 28 => some (lift 1 sReadS) | _ => none) (fun g => match g with | 77 => some nameS | 68 => some nameS | 45 => some newS | 44 => some atS | 43 => some inS | 88 => some sizeS | 85 => some rSizeS | 87 => some getS | 67 => some getS | 72 => some fitsS | 48 => some r01TS | 78 => some wiS | 83 => some wiS | 81 => some num3S | 82 => some num3S | 79 => some rrWindowS | 80 => some rrNeedS | 58 => some num9S | 53 => some schRS | 57 => some schRS | 26 => some rWrong9S | 27 => some rText9S | 18 => some ofS | 12 => some FaultS | 13 => some PlaceS | 22 => some LeftS | 61 => some mk3S | 63 => some mk3S | 29 => some rSame9S | 23 => some long9S | 24 => some trueS | _ => none) (fun _ => none)
theorem env_H8 : EnvOk H8 := env_of (by
    intro g F h
    split at h
    · cases h; exact ok_Name
    · cases h; exact ok_rName
    · cases h; exact ok_New
    · cases h; exact ok_At
    · cases h; exact ok_In
    · cases h; exact ok_size
    · cases h; exact ok_rSize
    · cases h; exact ok_Get
    · cases h; exact ok_rGet
    · cases h; exact ok_fits
    · cases h; exact ok_r01T
    · cases h; exact ok_within
    · cases h; exact ok_rin
    · cases h; exact ok_numWindow
    · cases h; exact ok_numNeed
    · cases h; exact ok_rrWindow
    · cases h; exact ok_rrNeed
    · cases h; exact ok_num9
    · cases h; exact ok_schR
    · cases h; exact ok_rschR
    · cases h; exact ok_rWrong9
    · cases h; exact ok_rText9
    · cases h; exact of_ok
    · cases h; exact ok_rFault
    · cases h; exact ok_Place
    · cases h; exact ok_Left
    · cases h; exact ok_mkW
    · cases h; exact ok_mkN
    · cases h; exact ok_rSame9
    · cases h; exact ok_long9
    · cases h; exact ok_awake9
    · cases h) (by
    intro g F h
    split at h
    · cases h; exact (lift_ok ok_rnames)
    · cases h; exact (lift_ok ok_names)
    · cases h; exact (lift_ok ok_clone)
    · cases h; exact (eitherOwn_ok (lift_ok ok_putI) (lift_ok ok_put))
    · cases h; exact (lift_ok ok_sPut)
    · cases h; exact (lift_ok ok_prWindow)
    · cases h; exact (lift_ok ok_prNeed)
    · cases h; exact (frzAll_ok (lift_ok ok_sPutA))
    · cases h; exact (lift_ok ok_rNew)
    · cases h; exact (lift_ok ok_Enter)
    · cases h; exact (lift_ok ok_Fail)
    · cases h; exact (lift_ok ok_Need)
    · cases h; exact (lift_ok ok_rErr)
    · cases h; exact (lift_ok ok_number)
    · cases h; exact (lift_ok ok_U8)
    · cases h; exact (lift_ok ok_U16)
    · cases h; exact (lift_ok ok_U32)
    · cases h; exact (lift_ok ok_U64)
    · cases h; exact (lift_ok ok_Text)
    · cases h; exact (lift_ok ok_tk)
    · cases h; exact (lift_ok ok_rowsW)
    · cases h; exact (lift_ok ok_rowsN)
    · cases h; exact (lift_ok ok_sRead)
    · cases h) (fun g F h => (by cases h))
theorem fn_SchedsPuts : FnOk Tryd.prog 5 Tryd.f5 (bodyOf Tryd.f5) := ⟨by kernel_rfl, by kernel_rfl, by kernel_rfl⟩
noncomputable def ff_SchedsPuts : Fun := ⟨Tryd.f5.ntmps, 0, Tryd.f5.results.toList, fun _ => none, fun _ => false, fun _ => []⟩
theorem nf_SchedsPuts (A : KA Kd) (k : List PV → Heap Kd → Prop) (b : List UInt8) (l : List Sch) : evT H8 ff_SchedsPuts A k 400 false [.code (bodyOf Tryd.f5)] (startEnv 94 [.sl _ e_uint8 b, .sl _ e_api_Schedule l]) [] = (bif decide ((↑b.length : Int) > (50 : Int)) then k [PV.bool true] []
else ∃ (l_1 : List Sch), PV.sl (Int × Int × List (Int × Int × Int) × List (Int × Int × Int)) e_api_Schedule l = PV.sl (Int × Int × List (Int × Int × Int) × List (Int × Int × Int)) e_api_Schedule l_1 ∧ l_1.length ≤ (9223372036854775807 : Nat) ∧ bif longS l_1 then k [PV.bool true] [] else (∀ (y : UInt8), y ∈ b → isU8 (e_uint8 y) = true) ∧ ∃ (b_1 : List UInt8), ∃ (l_2 : List Sch), PV.sl UInt8 e_uint8 b = PV.sl UInt8 e_uint8 b_1 ∧ PV.sl (Int × Int × List (Int × Int × Int) × List (Int × Int × Int)) e_api_Schedule l = PV.sl (Int × Int × List (Int × Int × Int) × List (Int × Int × Int)) e_api_Schedule l_2 ∧ (b_1.length < (1000000 : Nat) ∧ l_2.length < (100000 : Nat) ∧ ∀ (x : Sch), x ∈ l_2 → x.snd.snd.fst.length < (4611686018427387904 : Nat) ∧ x.snd.snd.snd.length < (4611686018427387904 : Nat)) ∧ ∃ (l_3 : List Sch), PV.sl (Int × Int × List (Int × Int × Int) × List (Int × Int × Int)) e_api_Schedule l = PV.sl (Int × Int × List (Int × Int × Int) × List (Int × Int × Int)) e_api_Schedule l_3 ∧ (l_3.length < (100000 : Nat) ∧ ∀ (x : Sch), x ∈ l_3 → x.snd.snd.fst.length < (4611686018427387904 : Nat) ∧ x.snd.snd.snd.length < (4611686018427387904 : Nat)) ∧ bif !((ofE (schsE none (0 : Nat) l_2)).fst == (ofE (schsE none (0 : Nat) l_3)).fst && ((ofE (schsE none (0 : Nat) l_2)).snd.fst == (ofE (schsE none (0 : Nat) l_3)).snd.fst && ((ofE (schsE none (0 : Nat) l_2)).snd.snd == (ofE (schsE none (0 : Nat) l_3)).snd.snd && true))) then k [PV.bool false] [] else (∀ (y : UInt8), y ∈ b → isU8 (e_uint8 y) = true) ∧ bif !(strPV (List.map e_uint8 b)).toList == (strPV (List.map e_uint8 b)).toList then k [PV.bool false] [] else bif (ofE (schsE none (0 : Nat) l_3)).fst != (0 : Int) then (∀ (y : UInt8), y ∈ outS b_1 (schsE none (0 : Nat) l_2) b_1 (schsB l_2) → isU8 (e_uint8 y) = true) ∧ bif (strPV (List.map e_uint8 (outS b_1 (schsE none (0 : Nat) l_2) b_1 (schsB l_2)))).toList == (strPV (List.map e_uint8 b)).toList then k [PV.bool true] [] else k [PV.bool false] [] else bif decide ((↑(outS b_1 (schsE none (0 : Nat) l_2) b_1 (schsB l_2)).length : Int) < (↑b.length : Int)) then k [PV.bool false] [] else (∀ (y : UInt8), y ∈ outS b_1 (schsE none (0 : Nat) l_2) b_1 (schsB l_2) → (e_uint8 y).cells.length = (TInfo.mk (TD.int IntKind.u8) (1 : Nat) (1 : Nat) [PV.int IntKind.u8 (0 : Int)] false []).size) ∧ ((0 : Int) ≤ (↑b.length : Int) ∧ (↑b.length : Int) ≤ (↑(outS b_1 (schsE none (0 : Nat) l_2) b_1 (schsB l_2)).length : Int) ∧ (↑(outS b_1 (schsE none (0 : Nat) l_2) b_1 (schsB l_2)).length : Int) ≤ (↑(outS b_1 (schsE none (0 : Nat) l_2) b_1 (schsB l_2)).length : Int)) ∧ (∀ (y : UInt8), y ∈ List.drop (↑b.length : Int).toNat (List.take (↑(outS b_1 (schsE none (0 : Nat) l_2) b_1 (schsB l_2)).length : Int).toNat (outS b_1 (schsE none (0 : Nat) l_2) b_1 (schsB l_2))) → isU8 (e_uint8 y) = true) ∧ ((∀ (y : UInt8), y ∈ outS b_1 (schsE none (0 : Nat) l_2) b_1 (schsB l_2) → isU8 (e_uint8 y) = true) ∧ ∃ (l_4 : List Sch), PV.sl (Int × Int × List (Int × Int × Int) × List (Int × Int × Int)) e_api_Schedule l = PV.sl (Int × Int × List (Int × Int × Int) × List (Int × Int × Int)) e_api_Schedule l_4 ∧ (l_4.length < (100000 : Nat) ∧ ∀ (x : Sch), x ∈ l_4 → ((0 : Int) ≤ x.fst ∧ x.fst ≤ (255 : Int)) ∧ ((1 : Int) ≤ x.snd.fst ∧ x.snd.fst ≤ (1048576 : Int)) ∧ x.snd.snd.fst.length ≤ (256 : Nat) ∧ (∀ (w : W3), w ∈ x.snd.snd.fst → okW w = true) ∧ x.snd.snd.snd.length ≤ (32 : Nat) ∧ ∀ (w : W3), w ∈ x.snd.snd.snd → okW w = true) ∧ (strPV (List.map e_uint8 b)).size + (ByteArray.mk (schsB l_4).toArray).size ≤ (9223372036854775807 : Nat) ∧ bif !(strPV (List.map e_uint8 (outS b_1 (schsE none (0 : Nat) l_2) b_1 (schsB l_2)))).toList == (strPV (List.map e_uint8 b) ++ ByteArray.mk (schsB l_4).toArray).toList then k [PV.bool false] [] else ((0 : Int) ≤ (0 : Int) ∧ (0 : Int) ≤ (↑(strPV (List.map e_uint8 (List.drop (↑b.length : Int).toNat (List.take (↑(outS b_1 (schsE none (0 : Nat) l_2) b_1 (schsB l_2)).length : Int).toNat (outS b_1 (schsE none (0 : Nat) l_2) b_1 (schsB l_2)))))).size : Int) ∧ (strPV (List.map e_uint8 (List.drop (↑b.length : Int).toNat (List.take (↑(outS b_1 (schsE none (0 : Nat) l_2) b_1 (schsB l_2)).length : Int).toNat (outS b_1 (schsE none (0 : Nat) l_2) b_1 (schsB l_2)))))).size < (1099511627776 : Nat) ∧ (↑l.length : Int) ≤ (9223372036854775807 : Int)) ∧ bif (schsX (strPV (List.map e_uint8 (List.drop (↑b.length : Int).toNat (List.take (↑(outS b_1 (schsE none (0 : Nat) l_2) b_1 (schsB l_2)).length : Int).toNat (outS b_1 (schsE none (0 : Nat) l_2) b_1 (schsB l_2)))))) (↑l.length : Int).toNat (-1 : Int) ((0 : Int), Err.nil)).snd.isNil then ∃ (l_5 : List Sch), PV.sl (Int × Int × (List (Int × Int × Int)) × (List (Int × Int × Int))) e_api_Schedule (Bool.rec ((fun (_ : Unit) => []) ()) ((fun (_ : Unit) => schsV (strPV (List.map e_uint8 (List.drop (↑b.length : Int).toNat (List.take (↑(outS b_1 (schsE none (0 : Nat) l_2) b_1 (schsB l_2)).length : Int).toNat (outS b_1 (schsE none (0 : Nat) l_2) b_1 (schsB l_2)))))) (↑l.length : Int).toNat (-1 : Int) ((0 : Int), Err.nil)) ()) (schsX (strPV (List.map e_uint8 (List.drop (↑b.length : Int).toNat (List.take (↑(outS b_1 (schsE none (0 : Nat) l_2) b_1 (schsB l_2)).length : Int).toNat (outS b_1 (schsE none (0 : Nat) l_2) b_1 (schsB l_2)))))) (↑l.length : Int).toNat (-1 : Int) ((0 : Int), Err.nil)).snd.isNil) = PV.sl (Int × Int × List (Int × Int × Int) × List (Int × Int × Int)) e_api_Schedule l_5 ∧ PV.sl (Int × Int × List (Int × Int × Int) × List (Int × Int × Int)) e_api_Schedule l = PV.sl (Int × Int × List (Int × Int × Int) × List (Int × Int × Int)) e_api_Schedule l_5 ∧ (l_5.length < (4611686018427387904 : Nat) ∧ ∀ (x : Sch), x ∈ l_5 → x.snd.snd.fst.length < (4611686018427387904 : Nat) ∧ x.snd.snd.snd.length < (4611686018427387904 : Nat)) ∧ ((0 : Int) ≤ (schsX (strPV (List.map e_uint8 (List.drop (↑b.length : Int).toNat (List.take (↑(outS b_1 (schsE none (0 : Nat) l_2) b_1 (schsB l_2)).length : Int).toNat (outS b_1 (schsE none (0 : Nat) l_2) b_1 (schsB l_2)))))) (↑l.length : Int).toNat (-1 : Int) ((0 : Int), Err.nil)).fst ∧ (schsX (strPV (List.map e_uint8 (List.drop (↑b.length : Int).toNat (List.take (↑(outS b_1 (schsE none (0 : Nat) l_2) b_1 (schsB l_2)).length : Int).toNat (outS b_1 (schsE none (0 : Nat) l_2) b_1 (schsB l_2)))))) (↑l.length : Int).toNat (-1 : Int) ((0 : Int), Err.nil)).fst ≤ (↑(strPV (List.map e_uint8 (List.drop (↑b.length : Int).toNat (List.take (↑(outS b_1 (schsE none (0 : Nat) l_2) b_1 (schsB l_2)).length : Int).toNat (outS b_1 (schsE none (0 : Nat) l_2) b_1 (schsB l_2)))))).size : Int) ∧ (strPV (List.map e_uint8 (List.drop (↑b.length : Int).toNat (List.take (↑(outS b_1 (schsE none (0 : Nat) l_2) b_1 (schsB l_2)).length : Int).toNat (outS b_1 (schsE none (0 : Nat) l_2) b_1 (schsB l_2)))))).size < (4611686018427387904 : Nat)) ∧ bif (↑(strPV (List.map e_uint8 (List.drop (↑b.length : Int).toNat (List.take (↑(outS b_1 (schsE none (0 : Nat) l_2) b_1 (schsB l_2)).length : Int).toNat (outS b_1 (schsE none (0 : Nat) l_2) b_1 (schsB l_2)))))).size : Int) - (schsX (strPV (List.map e_uint8 (List.drop (↑b.length : Int).toNat (List.take (↑(outS b_1 (schsE none (0 : Nat) l_2) b_1 (schsB l_2)).length : Int).toNat (outS b_1 (schsE none (0 : Nat) l_2) b_1 (schsB l_2)))))) (↑l.length : Int).toNat (-1 : Int) ((0 : Int), Err.nil)).fst == (0 : Int) then k [PV.bool true] [] else k [PV.bool false] [] else k [PV.bool false] []) ∧ ∃ (l_4 : List Sch), PV.sl (Int × Int × List (Int × Int × Int) × List (Int × Int × Int)) e_api_Schedule l = PV.sl (Int × Int × List (Int × Int × Int) × List (Int × Int × Int)) e_api_Schedule l_4 ∧ (l_4.length < (100000 : Nat) ∧ ∀ (x : Sch), x ∈ l_4 → ((0 : Int) ≤ x.fst ∧ x.fst ≤ (255 : Int)) ∧ ((1 : Int) ≤ x.snd.fst ∧ x.snd.fst ≤ (1048576 : Int)) ∧ x.snd.snd.fst.length ≤ (256 : Nat) ∧ (∀ (w : W3), w ∈ x.snd.snd.fst → okW w = true) ∧ x.snd.snd.snd.length ≤ (32 : Nat) ∧ ∀ (w : W3), w ∈ x.snd.snd.snd → okW w = true) ∧ (strPV (List.map e_uint8 b)).size + (ByteArray.mk (schsB l_4).toArray).size ≤ (9223372036854775807 : Nat) ∧ (∀ (y : UInt8), y ∈ outS b_1 (schsE none (0 : Nat) l_2) b_1 (schsB l_2) → isU8 (e_uint8 y) = true) ∧ bif !(strPV (List.map e_uint8 (outS b_1 (schsE none (0 : Nat) l_2) b_1 (schsB l_2)))).toList == (strPV (List.map e_uint8 b) ++ ByteArray.mk (schsB l_4).toArray).toList then k [PV.bool false] [] else ((0 : Int) ≤ (0 : Int) ∧ (0 : Int) ≤ (↑(strPV (List.map e_uint8 (List.drop (↑b.length : Int).toNat (List.take (↑(outS b_1 (schsE none (0 : Nat) l_2) b_1 (schsB l_2)).length : Int).toNat (outS b_1 (schsE none (0 : Nat) l_2) b_1 (schsB l_2)))))).size : Int) ∧ (strPV (List.map e_uint8 (List.drop (↑b.length : Int).toNat (List.take (↑(outS b_1 (schsE none (0 : Nat) l_2) b_1 (schsB l_2)).length : Int).toNat (outS b_1 (schsE none (0 : Nat) l_2) b_1 (schsB l_2)))))).size < (1099511627776 : Nat) ∧ (↑l.length : Int) ≤ (9223372036854775807 : Int)) ∧ bif (schsX (strPV (List.map e_uint8 (List.drop (↑b.length : Int).toNat (List.take (↑(outS b_1 (schsE none (0 : Nat) l_2) b_1 (schsB l_2)).length : Int).toNat (outS b_1 (schsE none (0 : Nat) l_2) b_1 (schsB l_2)))))) (↑l.length : Int).toNat (-1 : Int) ((0 : Int), Err.nil)).snd.isNil then ∃ (l_5 : List Sch), PV.sl (Int × Int × (List (Int × Int × Int)) × (List (Int × Int × Int))) e_api_Schedule (Bool.rec ((fun (_ : Unit) => []) ()) ((fun (_ : Unit) => schsV (strPV (List.map e_uint8 (List.drop (↑b.length : Int).toNat (List.take (↑(outS b_1 (schsE none (0 : Nat) l_2) b_1 (schsB l_2)).length : Int).toNat (outS b_1 (schsE none (0 : Nat) l_2) b_1 (schsB l_2)))))) (↑l.length : Int).toNat (-1 : Int) ((0 : Int), Err.nil)) ()) (schsX (strPV (List.map e_uint8 (List.drop (↑b.length : Int).toNat (List.take (↑(outS b_1 (schsE none (0 : Nat) l_2) b_1 (schsB l_2)).length : Int).toNat (outS b_1 (schsE none (0 : Nat) l_2) b_1 (schsB l_2)))))) (↑l.length : Int).toNat (-1 : Int) ((0 : Int), Err.nil)).snd.isNil) = PV.sl (Int × Int × List (Int × Int × Int) × List (Int × Int × Int)) e_api_Schedule l_5 ∧ PV.sl (Int × Int × List (Int × Int × Int) × List (Int × Int × Int)) e_api_Schedule l = PV.sl (Int × Int × List (Int × Int × Int) × List (Int × Int × Int)) e_api_Schedule l_5 ∧ (l_5.length < (4611686018427387904 : Nat) ∧ ∀ (x : Sch), x ∈ l_5 → x.snd.snd.fst.length < (4611686018427387904 : Nat) ∧ x.snd.snd.snd.length < (4611686018427387904 : Nat)) ∧ ((0 : Int) ≤ (schsX (strPV (List.map e_uint8 (List.drop (↑b.length : Int).toNat (List.take (↑(outS b_1 (schsE none (0 : Nat) l_2) b_1 (schsB l_2)).length : Int).toNat (outS b_1 (schsE none (0 : Nat) l_2) b_1 (schsB l_2)))))) (↑l.length : Int).toNat (-1 : Int) ((0 : Int), Err.nil)).fst ∧ (schsX (strPV (List.map e_uint8 (List.drop (↑b.length : Int).toNat (List.take (↑(outS b_1 (schsE none (0 : Nat) l_2) b_1 (schsB l_2)).length : Int).toNat (outS b_1 (schsE none (0 : Nat) l_2) b_1 (schsB l_2)))))) (↑l.length : Int).toNat (-1 : Int) ((0 : Int), Err.nil)).fst ≤ (↑(strPV (List.map e_uint8 (List.drop (↑b.length : Int).toNat (List.take (↑(outS b_1 (schsE none (0 : Nat) l_2) b_1 (schsB l_2)).length : Int).toNat (outS b_1 (schsE none (0 : Nat) l_2) b_1 (schsB l_2)))))).size : Int) ∧ (strPV (List.map e_uint8 (List.drop (↑b.length : Int).toNat (List.take (↑(outS b_1 (schsE none (0 : Nat) l_2) b_1 (schsB l_2)).length : Int).toNat (outS b_1 (schsE none (0 : Nat) l_2) b_1 (schsB l_2)))))).size < (4611686018427387904 : Nat)) ∧ bif (↑(strPV (List.map e_uint8 (List.drop (↑b.length : Int).toNat (List.take (↑(outS b_1 (schsE none (0 : Nat) l_2) b_1 (schsB l_2)).length : Int).toNat (outS b_1 (schsE none (0 : Nat) l_2) b_1 (schsB l_2)))))).size : Int) - (schsX (strPV (List.map e_uint8 (List.drop (↑b.length : Int).toNat (List.take (↑(outS b_1 (schsE none (0 : Nat) l_2) b_1 (schsB l_2)).length : Int).toNat (outS b_1 (schsE none (0 : Nat) l_2) b_1 (schsB l_2)))))) (↑l.length : Int).toNat (-1 : Int) ((0 : Int), Err.nil)).fst == (0 : Int) then k [PV.bool true] [] else k [PV.bool false] [] else k [PV.bool false] []) := by kernel_rfl
def lawSPS : SpecS := fun ys Φ => match ys with
  | [x_0, x_1] => ∃ (b : List UInt8), ∃ (l : List Sch), x_0 = .sl _ e_uint8 b ∧ x_1 = .sl _ e_api_Schedule l ∧ (l.length ≤ 9223372036854775807) ∧ Φ [.bool true]
  | _ => False
theorem lawSPS_mono : MonoS lawSPS := by
  intro ys Φ Ψ h hF
  unfold lawSPS at hF ⊢
  split at hF
  · obtain ⟨a0, a1, q0, q1, hp, hk⟩ := hF; exact ⟨a0, a1, q0, q1, hp, h _ hk⟩
  · exact hF.elim
theorem lawSPS_inv {ys : List PV} {Φ : List PV → Prop} (h : lawSPS ys Φ) : ∃ (b : List UInt8) (l : List Sch), ys = [.sl _ e_uint8 b, .sl _ e_api_Schedule l] ∧ (l.length ≤ 9223372036854775807) ∧ Φ [.bool true] := by
  unfold lawSPS at h
  split at h
  · obtain ⟨a0, a1, q0, q1, hz⟩ := h
    subst q0
    subst q1
    exact ⟨a0, a1, rfl, hz⟩
  · exact h.elim
theorem ok_SP : FunS B 5 lawSPS := by
  refine funS_of (N := 94) (f := ff_SchedsPuts) env_H8 mixed fn_SchedsPuts (by kernel_rfl) (by kernel_rfl) (by kernel_rfl) lawSPS_mono ?_
  intro A k ys hA hF
  obtain ⟨b, l, rfl, hlen, hk⟩ := lawSPS_inv hF; clear hF
  refine ⟨by kernel_rfl, (hA.nf (nf_SchedsPuts A k b l) ?_)⟩
  cases hb : decide ((b.length : Int) > 50) with
  | true => exact hk
  | false =>
  rw [decide_eq_false_iff_not] at hb
  rw [cond_false]
  refine ⟨l, rfl, hlen, ?_⟩
  cases hlong : longS l with
  | true => exact hk
  | false =>
  unfold longS at hlong
  rw [Bool.or_eq_false_iff, decide_eq_false_iff_not] at hlong
  obtain ⟨hl1, hl2⟩ := hlong
  have hrows := longRows_no l hl1
  have hw : ∀ x, x ∈ l → x.2.2.1.length < 4611686018427387904 ∧ x.2.2.2.length < 4611686018427387904 := fun x hx => ⟨by have := (hrows x hx).1; omega, by have := (hrows x hx).2; omega⟩
  have hu : ∀ (l : List UInt8) (y : UInt8), y ∈ l → isU8 (e_uint8 y) = true := fun _ _ _ => rfl
  rw [cond_false]
  refine ⟨hu _, b, l, rfl, rfl, ⟨by omega, by omega, hw⟩, l, rfl, ⟨by omega, hw⟩, ?_⟩
  have hbn : ((ofE (schsE none 0 l)).fst != 0) = !(schsE none 0 l).isNil := by rw [← (schsE_good l none 0).nil_iff]; rfl
  rw [hbn]
  cases hn : (schsE none 0 l).isNil with
  | false =>
    have hO : outS b (schsE none 0 l) b (schsB l) = b := by unfold outS; rw [hn]; rfl
    simp only [hO, beq_self_eq_true, Bool.and_self, Bool.not_true, Bool.not_false, cond_true, cond_false]
    exact ⟨hu _, hu _, hk⟩
  | true =>
    have hok := schsE_ok l none 0 hn
    have hO : outS b (schsE none 0 l) b (schsB l) = b ++ schsB l := by unfold outS; rw [hn]; rfl
    have hL := schsB_len l hok
    obtain ⟨g1, g2⟩ := schs_back l none 0 (-1) 0 0 rfl hn rfl (Has.whole (schsB l))
    have hd : List.drop b.length (List.take (b ++ schsB l).length (b ++ schsB l)) = schsB l := by
      rw [List.take_length, List.drop_left]
    have hz : (ByteArray.mk (schsB l).toArray).size = (schsB l).length := mk_size (schsB l)
    have hz2 : (ByteArray.mk b.toArray).size = b.length := mk_size b
    have d1 : decide (((b ++ schsB l).length : Int) < (b.length : Int)) = false := decide_eq_false (by rw [List.length_append]; omega)
    have he : ByteArray.mk (b ++ schsB l).toArray = ByteArray.mk b.toArray ++ ByteArray.mk (schsB l).toArray := by
      apply ByteArray.ext; apply Array.ext'; simp
    have e0 : Err.nil.isNil = true := rfl
    simp only [hO, d1, Int.toNat_natCast, hd, strPV_e, g1, g2, hz, hz2, he, beq_self_eq_true, Bool.and_self, Bool.not_true, cond_true, cond_false, e0]
    have hs3 : (0 : Int) ≤ (b.length : Int) ∧ (b.length : Int) ≤ ((b ++ schsB l).length : Int) ∧ ((b ++ schsB l).length : Int) ≤ ((b ++ schsB l).length : Int) := by
      rw [List.length_append]; refine ⟨by omega, by omega, by omega⟩
    have hend : (bif ((schsB l).length : Int) - ((0 + (schsB l).length : Nat) : Int) == 0 then k [PV.bool true] [] else k [PV.bool false] []) := by
      have : (((schsB l).length : Int) - ((0 + (schsB l).length : Nat) : Int) == 0) = true := by rw [beq_iff_eq]; omega
      rw [this]; exact hk
    have f1 : (0 : Int) ≤ 0 ∧ (0 : Int) ≤ ((schsB l).length : Int) ∧ (schsB l).length < 1099511627776 ∧ (l.length : Int) ≤ 9223372036854775807 := ⟨by omega, by omega, by omega, by omega⟩
    have f2 : (0 : Int) ≤ ((0 + (schsB l).length : Nat) : Int) ∧ ((0 + (schsB l).length : Nat) : Int) ≤ ((schsB l).length : Int) ∧ (schsB l).length < 4611686018427387904 := ⟨by omega, by omega, by omega⟩
    have hfin : ∀ {p : Prop}, (f1 : (0 : Int) ≤ 0 ∧ (0 : Int) ≤ ((schsB l).length : Int) ∧ (schsB l).length < 1099511627776 ∧ (l.length : Int) ≤ 9223372036854775807) → p → (bif !(ByteArray.mk b.toArray ++ ByteArray.mk (schsB l).toArray).toList == (ByteArray.mk b.toArray ++ ByteArray.mk (schsB l).toArray).toList then k [PV.bool false] [] else p) := fun {p} _ h => by
      rw [beq_self_eq_true]; exact h
    refine ⟨hu _, fun _ _ => rfl, hs3, hu _, ?_⟩
    refine ⟨⟨hu _, l, rfl, ⟨by omega, hok⟩, by rw [hz]; omega, hfin f1 ⟨f1, l, rfl, rfl, ⟨by omega, hw⟩, f2, hend⟩⟩, l, rfl, ⟨by omega, hok⟩, by rw [hz]; omega, hu _, hfin f1 ⟨f1, l, rfl, rfl, ⟨by omega, hw⟩, f2, hend⟩⟩
theorem pre_SchedsPuts (b : List UInt8) (l : List Sch) (_ : g_o37 b) (hl : g_o55 l) : lawSPS [a_o37 b, a_o55 l] fun rs => rs = [.bool true] := by
  have h1 : l.length ≤ maxLen := hl.1
  have h2 : maxLen ≤ 9223372036854775807 := by decide
  exact ⟨b, l, rfl, rfl, by omega, rfl⟩
end Go.Ab.T
