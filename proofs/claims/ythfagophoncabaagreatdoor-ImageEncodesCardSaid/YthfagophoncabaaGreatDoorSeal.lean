import Derived.Test.YthfagophoncabaaGreatDoorImg2
import Derived.Test.YthfagophoncabaaGreatDoorPut2
import Derived.Test.YthfagophoncabaaGreatDoorMaB
set_option linter.unusedVariables false
set_option linter.unusedSimpArgs false
set_option linter.unusedSectionVars false
namespace Go.Ab.T
open Go Go.Ab Go.Proofs
set_option maxRecDepth 100000
set_option maxHeartbeats 4000000
noncomputable def SL0 := base (fun g => match g with | 49 => some (eitherOwn (lift 1 putIS) (lift 0 putS)) | _ => none) (fun g => match g with | 32 => some rSum02S | 50 => some cSumS | 31 => some r01TS | _ => none) (fun _ => none)
theorem env_SL0 : EnvOk SL0 := env_of (by
 intro g F h
 split at h
 ·cases h; exact ok_rSum02
 ·cases h; exact ok_cSum
 ·cases h; exact ok_r01T
 ·cases h) (by
 intro g F h
 split at h
 ·cases h; exact (eitherOwn_ok (lift_ok ok_putI) (lift_ok ok_put))
 ·cases h) (fun g F h => (by cases h))
theorem fn_seal : FnOk Tryz.prog 13 Tryz.f13 (bodyOf Tryz.f13) := ⟨by kernel_rfl, by kernel_rfl, by kernel_rfl⟩
noncomputable def ff_seal : Fun := ⟨Tryz.f13.ntmps, 0, Tryz.f13.results.toList, fun i => match i with | 4 => some [0, 3] | 5 => some [5] | 6 => some [5, 6] | _ => none, fun i => match i with | 4 => true | 5 => true | 6 => true | _ => false, fun _ => []⟩
theorem nf_seal_a (A : KA Kd) (k : List PV -> Heap Kd -> Prop) (s : ByteArray) : evT SL0 ff_seal A k 400 false [.code (bodyOf Tryz.f13)] (startEnv 41 [.str s]) [] = (bif decide ((↑s.size : Int) < 27) then k [.str s] []
else ∃ (l : List UInt8), PV.sl UInt8 e_uint8 [] = PV.sl UInt8 e_uint8 l /\ ((0 : Int) <= IntKind.u64.wrap (↑s.size : Int) /\ IntKind.u64.wrap (↑s.size : Int) < (18446744073709551616 : Int) /\ l.length < (1099511627776 : Nat)) /\ A (tdr Tryz.f13 (4 : Nat)) (envAt (41 : Nat) [((0 : Nat), PV.str s), ((3 : Nat), PV.own (0 : Nat))]) [AObj.row (5 : Nat) (putV l (IntKind.u64.wrap (↑s.size : Int)) (4 : Int))]) := by kernel_rfl
theorem nf_seal_4 (A : KA Kd) (k : List PV -> Heap Kd -> Prop) (s : ByteArray) (l : List UInt8) : evT SL0 ff_seal A k 400 true (tdr Tryz.f13 4) (envAt 41 [(0, .str s), (3, .own 0)]) [.row 5 l] = ((((0 : Int) <= (0 : Int) /\ (0 : Int) <= (4 : Int) /\ 4 <= (↑s.size : Int)) /\ ((∀ (y : UInt8), y ∈ l -> isU8 (e_uint8 y) = true) /\ (s.extract (Int.toNat (0 : Int)) (Int.toNat (4 : Int))).size + (strPV (List.map e_uint8 l)).size <= 9223372036854775807 /\ ((0 : Int) <= (8 : Int) /\ 8 <= IntKind.i64.wrap ((↑s.size : Int) - 4) /\ IntKind.i64.wrap ((↑s.size : Int) - 4) <= (↑s.size : Int)) /\ (s.extract (Int.toNat (0 : Int)) (Int.toNat (4 : Int)) ++ strPV (List.map e_uint8 l)).size + (s.extract (Int.toNat (8 : Int)) (IntKind.i64.wrap ((↑s.size : Int) - 4)).toNat).size <= 9223372036854775807 /\ A (tdr Tryz.f13 5) (envAt 41 [(5, .str (s.extract (Int.toNat (0 : Int)) (Int.toNat (4 : Int)) ++ strPV (List.map e_uint8 l) ++ s.extract (Int.toNat (8 : Int)) (IntKind.i64.wrap ((↑s.size : Int) - 4)).toNat))]) []) /\ ((0 : Int) <= (8 : Int) /\ 8 <= IntKind.i64.wrap ((↑s.size : Int) - 4) /\ IntKind.i64.wrap ((↑s.size : Int) - 4) <= (↑s.size : Int)) /\ (∀ (y : UInt8), y ∈ l -> isU8 (e_uint8 y) = true) /\ (s.extract (Int.toNat (0 : Int)) (Int.toNat (4 : Int))).size + (strPV (List.map e_uint8 l)).size <= 9223372036854775807 /\ (s.extract (Int.toNat (0 : Int)) (Int.toNat (4 : Int)) ++ strPV (List.map e_uint8 l)).size + (s.extract (Int.toNat (8 : Int)) (IntKind.i64.wrap ((↑s.size : Int) - 4)).toNat).size <= 9223372036854775807 /\ A (tdr Tryz.f13 5) (envAt 41 [(5, .str (s.extract (Int.toNat (0 : Int)) (Int.toNat (4 : Int)) ++ strPV (List.map e_uint8 l) ++ s.extract (Int.toNat (8 : Int)) (IntKind.i64.wrap ((↑s.size : Int) - 4)).toNat))]) []) /\ ((∀ (y : UInt8), y ∈ l -> isU8 (e_uint8 y) = true) /\ (((0 : Int) <= (0 : Int) /\ (0 : Int) <= (4 : Int) /\ 4 <= (↑s.size : Int)) /\ (s.extract (Int.toNat (0 : Int)) (Int.toNat (4 : Int))).size + (strPV (List.map e_uint8 l)).size <= 9223372036854775807 /\ ((0 : Int) <= (8 : Int) /\ 8 <= IntKind.i64.wrap ((↑s.size : Int) - 4) /\ IntKind.i64.wrap ((↑s.size : Int) - 4) <= (↑s.size : Int)) /\ (s.extract (Int.toNat (0 : Int)) (Int.toNat (4 : Int)) ++ strPV (List.map e_uint8 l)).size + (s.extract (Int.toNat (8 : Int)) (IntKind.i64.wrap ((↑s.size : Int) - 4)).toNat).size <= 9223372036854775807 /\ A (tdr Tryz.f13 5) (envAt 41 [(5, .str (s.extract (Int.toNat (0 : Int)) (Int.toNat (4 : Int)) ++ strPV (List.map e_uint8 l) ++ s.extract (Int.toNat (8 : Int)) (IntKind.i64.wrap ((↑s.size : Int) - 4)).toNat))]) []) /\ ((0 : Int) <= (8 : Int) /\ 8 <= IntKind.i64.wrap ((↑s.size : Int) - 4) /\ IntKind.i64.wrap ((↑s.size : Int) - 4) <= (↑s.size : Int)) /\ ((0 : Int) <= (0 : Int) /\ (0 : Int) <= (4 : Int) /\ 4 <= (↑s.size : Int)) /\ (s.extract (Int.toNat (0 : Int)) (Int.toNat (4 : Int))).size + (strPV (List.map e_uint8 l)).size <= 9223372036854775807 /\ (s.extract (Int.toNat (0 : Int)) (Int.toNat (4 : Int)) ++ strPV (List.map e_uint8 l)).size + (s.extract (Int.toNat (8 : Int)) (IntKind.i64.wrap ((↑s.size : Int) - 4)).toNat).size <= 9223372036854775807 /\ A (tdr Tryz.f13 5) (envAt 41 [(5, .str (s.extract (Int.toNat (0 : Int)) (Int.toNat (4 : Int)) ++ strPV (List.map e_uint8 l) ++ s.extract (Int.toNat (8 : Int)) (IntKind.i64.wrap ((↑s.size : Int) - 4)).toNat))]) []) /\ ((0 : Int) <= (8 : Int) /\ 8 <= IntKind.i64.wrap ((↑s.size : Int) - 4) /\ IntKind.i64.wrap ((↑s.size : Int) - 4) <= (↑s.size : Int)) /\ (((0 : Int) <= (0 : Int) /\ (0 : Int) <= (4 : Int) /\ 4 <= (↑s.size : Int)) /\ (∀ (y : UInt8), y ∈ l -> isU8 (e_uint8 y) = true) /\ (s.extract (Int.toNat (0 : Int)) (Int.toNat (4 : Int))).size + (strPV (List.map e_uint8 l)).size <= 9223372036854775807 /\ (s.extract (Int.toNat (0 : Int)) (Int.toNat (4 : Int)) ++ strPV (List.map e_uint8 l)).size + (s.extract (Int.toNat (8 : Int)) (IntKind.i64.wrap ((↑s.size : Int) - 4)).toNat).size <= 9223372036854775807 /\ A (tdr Tryz.f13 5) (envAt 41 [(5, .str (s.extract (Int.toNat (0 : Int)) (Int.toNat (4 : Int)) ++ strPV (List.map e_uint8 l) ++ s.extract (Int.toNat (8 : Int)) (IntKind.i64.wrap ((↑s.size : Int) - 4)).toNat))]) []) /\ (∀ (y : UInt8), y ∈ l -> isU8 (e_uint8 y) = true) /\ ((0 : Int) <= (0 : Int) /\ (0 : Int) <= (4 : Int) /\ 4 <= (↑s.size : Int)) /\ (s.extract (Int.toNat (0 : Int)) (Int.toNat (4 : Int))).size + (strPV (List.map e_uint8 l)).size <= 9223372036854775807 /\ (s.extract (Int.toNat (0 : Int)) (Int.toNat (4 : Int)) ++ strPV (List.map e_uint8 l)).size + (s.extract (Int.toNat (8 : Int)) (IntKind.i64.wrap ((↑s.size : Int) - 4)).toNat).size <= 9223372036854775807 /\ A (tdr Tryz.f13 5) (envAt 41 [(5, .str (s.extract (Int.toNat (0 : Int)) (Int.toNat (4 : Int)) ++ strPV (List.map e_uint8 l) ++ s.extract (Int.toNat (8 : Int)) (IntKind.i64.wrap ((↑s.size : Int) - 4)).toNat))]) []) := by kernel_rfl
theorem nf_seal_5 (A : KA Kd) (k : List PV -> Heap Kd -> Prop) (b : ByteArray) : evT SL0 ff_seal A k 400 true (tdr Tryz.f13 5) (envAt 41 [(5, .str b)]) [] = (b.size < 4611686018427387904 /\ ∃ (l : List UInt8), PV.sl UInt8 e_uint8 [] = PV.sl UInt8 e_uint8 l /\ (0 <= IntKind.u64.wrap (↑(crcN b.data.toList) : Int) /\ IntKind.u64.wrap (↑(crcN b.data.toList) : Int) < 18446744073709551616 /\ l.length < 1099511627776) /\ A (tdr Tryz.f13 6) (envAt 41 [(5, .str b), (6, .own 0)]) [.row 5 (putV l (IntKind.u64.wrap (↑(crcN b.data.toList) : Int)) 4)]) := by kernel_rfl
theorem nf_seal_6 (A : KA Kd) (k : List PV -> Heap Kd -> Prop) (b : ByteArray) (l : List UInt8) : evT SL0 ff_seal A k 400 true (tdr Tryz.f13 6) (envAt 41 [(5, .str b), (6, .own 0)]) [.row 5 l] = ((∀ (y : UInt8), y ∈ l -> isU8 (e_uint8 y) = true) /\ b.size + (strPV (List.map e_uint8 l)).size <= 9223372036854775807 /\ k [.str (b ++ strPV (List.map e_uint8 l))] []) := by kernel_rfl
def sealS : SpecS := fun ys Φ => match ys with
 | [.str s] => (s.size < 4294967296) /\ Φ [.str (sealB s)]
 | _ => False
theorem sealS_mono : MonoS sealS := by
 intro ys Φ Ψ h hF
 unfold sealS at hF ⊢
 split at hF
 ·obtain ⟨hp, hk⟩ := hF; exact ⟨hp, h _ hk⟩
 ·exact hF.elim
theorem sealS_inv {ys : List PV} {Φ : List PV -> Prop} (h : sealS ys Φ) : ∃ (s : ByteArray), ys = [.str s] /\ (s.size < 4294967296) /\ Φ [.str (sealB s)] := by
 unfold sealS at h
 split at h
 ·exact ⟨_, rfl, h⟩
 ·exact h.elim
theorem ok_seal : FunS B 13 sealS := by
 refine funS_of (N := 41) (f := ff_seal) env_SL0 mixed fn_seal (by kernel_rfl) (by kernel_rfl) (by kernel_rfl) sealS_mono ?_
 intro A k ys hA hF
 obtain ⟨s, rfl, hs, hk⟩ := sealS_inv hF; clear hF
 refine ⟨by kernel_rfl, (hA.nf (nf_seal_a A k s) ?_)⟩
 unfold sealB at hk
 cases c : decide ((s.size : Int) < 27) with
 | true => rw [c] at hk; exact hk
 | false =>
 rw [c, cond_false] at hk
 rw [decide_eq_false_iff_not] at c
 have p4 : ((256 ^ Int.toNat 4 : Nat) : Int) = 4294967296 := by decide
 have hs4 : ((s.size : Int) - 4).toNat = s.size - 4 := by omega
 have z0 : Int.toNat 0 = 0 := rfl
 have z4 : Int.toNat 4 = 4 := rfl
 have z8 : Int.toNat 8 = 8 := rfl
 rw [cond_false, u64_id (s.size : Int) (by omega) (by omega)]
 refine ⟨[], rfl, ⟨by omega, by omega, by decide⟩, ?_⟩
 ·rw [putV_ok [] (v := (s.size : Int)) rfl (by rw [p4]; omega), z4, Int.toNat_natCast, List.nil_append]
  refine (hA.nf (nf_seal_4 A k s _) ?_)
  rw [wrap_id ((s.size : Int) - 4) (by omega) (by omega), hs4, z0, z4, z8, strPV_e]
  have g : A (tdr Tryz.f13 5) (envAt 41 [(5, PV.str (s.extract 0 4 ++ ByteArray.mk (beL 4 s.size).toArray ++ s.extract 8 (s.size - 4)))]) [] := by
   refine (hA.nf (nf_seal_5 A k _) ?_)
   have hb := sealBody_size (s := s) (by omega)
   have hb0 : s.extract 0 4 ++ ByteArray.mk (beL 4 s.size).toArray ++ s.extract 8 (s.size - 4) = sealBody s := rfl
   rw [hb0]
   have hc := crcN_lt (sealBody s).data.toList
   rw [u64_id _ (by omega) (by omega)]
   refine ⟨by omega, [], rfl, ⟨by omega, by omega, by decide⟩, ?_⟩
   rw [putV_ok [] (v := ((crcN (sealBody s).data.toList : Nat) : Int)) rfl (by rw [p4]; omega), z4, Int.toNat_natCast, List.nil_append]
   refine (hA.nf (nf_seal_6 A k _ _) ?_)
   rw [strPV_e]
   exact ⟨fun _ _ => rfl, by rw [mk_sz (beL 4 _), beL_len]; omega, hk⟩
  have n1 : (0 : Int) <= 0 /\ (0 : Int) <= 4 /\ (4 : Int) <= (s.size : Int) := ⟨by omega, by omega, by omega⟩
  have n2 : (0 : Int) <= 8 /\ (8 : Int) <= (s.size : Int) - 4 /\ (s.size : Int) - 4 <= (s.size : Int) := ⟨by omega, by omega, by omega⟩
  have n3 : ∀ y, y ∈ beL 4 s.size -> isU8 (e_uint8 y) = true := fun _ _ => rfl
  have n4 : (s.extract 0 4).size + (ByteArray.mk (beL 4 s.size).toArray).size <= 9223372036854775807 := by rw [mk_sz (beL 4 _), beL_len, ByteArray.size_extract]; omega
  have n5 : (s.extract 0 4 ++ ByteArray.mk (beL 4 s.size).toArray).size + (s.extract 8 (s.size - 4)).size <= 9223372036854775807 := by rw [ByteArray.size_append, mk_sz (beL 4 _), beL_len, ByteArray.size_extract, ByteArray.size_extract]; omega
  clear hk hA
  repeat' (with_reducible apply And.intro)
  all_goals with_reducible first | exact g | exact n3 | exact n4 | exact n5 | exact n1.1 | exact n1.2.1 | exact n1.2.2 | exact n2.1 | exact n2.2.1 | exact n2.2.2
end Go.Ab.T
