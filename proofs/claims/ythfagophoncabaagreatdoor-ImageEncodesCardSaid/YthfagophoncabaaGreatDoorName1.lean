import Derived.Test.YthfagophoncabaaGreatDoorPut2
import Derived.Test.YthfagophoncabaaGreatDoorName0
import Derived.Test.YthfagophoncabaaGreatDoorMaB
set_option linter.unusedVariables false
set_option linter.unusedSimpArgs false
set_option linter.unusedSectionVars false
namespace Go.Ab.T
open Go Go.Ab Go.Proofs
variable [DMode]
set_option maxRecDepth 100000
set_option maxHeartbeats 4000000
noncomputable def NQ0 := base (fun g => match g with | 117 => some (lift 0 cloneS) | 49 => some (eitherOwn (lift 1 putIS) (lift 0 putS)) | _ => none) (fun g => match g with | 148 => some rightS | _ => none) (fun _ => none)
theorem env_NQ0 : EnvOk NQ0 := env_of (by
 intro g F h
 split at h
 ·cases h; exact ok_right
 ·cases h) (by
 intro g F h
 split at h
 ·cases h; exact (lift_ok ok_clone)
 ·cases h; exact (eitherOwn_ok (lift_ok ok_putI) (lift_ok ok_put))
 ·cases h) (fun g F h => (by cases h))
def nPutS : List PV -> Heap Kd -> (List PV -> Heap Kd -> Prop) -> Prop := fun ys L k => match ys, L with
 | [x_0, .str s], [] => ∃ (l : List UInt8), x_0 = .sl _ e_uint8 l /\ (l.length < 1099511627000) /\ k [.own 0, .int .i64 (bif rightN s then 0 else 7)] [.row 5 (nPutV l s)]
 | _, _ => False
theorem nPutS_inv {ys : List PV} {L : Heap Kd} {k : List PV -> Heap Kd -> Prop} (h : nPutS ys L k) : ∃ (l : List UInt8) (s : ByteArray), ys = [.sl _ e_uint8 l, .str s] /\ L = [] /\ (l.length < 1099511627000) /\ k [.own 0, .int .i64 (bif rightN s then 0 else 7)] [.row 5 (nPutV l s)] := by
 unfold nPutS at h
 split at h
 ·obtain ⟨a0, q0, hz⟩ := h
  subst q0
  exact ⟨a0, _, rfl, rfl, hz⟩
 ·exact h.elim
theorem fn_nPut : FnOk Tryz.prog 162 Tryz.f162 (bodyOf Tryz.f162) := ⟨by kernel_rfl, by kernel_rfl, by kernel_rfl⟩
noncomputable def ff_nPut : Fun := ⟨Tryz.f162.ntmps, 0, Tryz.f162.results.toList, fun _ => none, fun _ => false, fun _ => []⟩
theorem nf_nPut (A : KA Kd) (k : List PV -> Heap Kd -> Prop) (l : List UInt8) (s : ByteArray) : evT NQ0 ff_nPut A k 400 false [.code (bodyOf Tryz.f162)] (startEnv 24 [.sl _ e_uint8 l, .str s]) [] = (bif !rightN s then ∃ (l_1 : List UInt8), PV.sl UInt8 e_uint8 l = PV.sl UInt8 e_uint8 l_1 /\ l_1.length < 1099511627776 /\ k [.own 0, .int .i64 7] [.row 5 l_1]
else ∃ (l_1 : List UInt8), PV.sl UInt8 e_uint8 l = PV.sl UInt8 e_uint8 l_1 /\ ((0 : Int) <= IntKind.u64.wrap (↑s.size : Int) /\ IntKind.u64.wrap (↑s.size : Int) < (18446744073709551616 : Int) /\ l_1.length < (1099511627776 : Nat)) /\ ∃ (ys : List UInt8), List.map e_uint8 ys = bytesPV s /\ ((putV l_1 (IntKind.u64.wrap (↑s.size : Int)) (1 : Int)).length + ys.length) * (TInfo.mk (TD.int IntKind.u8) (1 : Nat) (1 : Nat) [PV.int IntKind.u8 (0 : Int)] false []).bytes <= (140737488355328 : Nat) /\ k [PV.own (0 : Nat), PV.int IntKind.i64 (0 : Int)] [AObj.row (5 : Nat) (putV l_1 (IntKind.u64.wrap (↑s.size : Int)) (1 : Int) ++ ys)]) := by kernel_rfl
theorem ok_nPut : FunF B 162 0 nPutS := by
 refine funF_of (N := 24) (f := ff_nPut) env_NQ0 mixed fn_nPut (by kernel_rfl) (by kernel_rfl) ?_
 intro A k ys L hA hF
 obtain ⟨l, s, rfl, rfl, h0, hk⟩ := nPutS_inv hF; clear hF
 refine ⟨by kernel_rfl, (hA.nf (nf_nPut A k l s) ?_)⟩
 unfold nPutV at hk
 cases h : rightN s with
 | false =>
  rw [h] at hk
  exact ⟨l, rfl, by omega, hk⟩
 | true =>
  rw [h] at hk
  obtain ⟨r1, r2⟩ := right_len h
  have hl := blen s
  have hz : IntKind.u64.wrap (s.size : Int) = (s.size : Int) := u64_id _ (by omega) (by omega)
  have p1 : ((256 ^ Int.toNat 1 : Nat) : Int) = 256 := by decide
  rw [hz]
  have hv : putV l (s.size : Int) 1 = l ++ [UInt8.ofNat s.size] := by
   rw [putV_ok l rfl (by rw [p1]; omega), Int.toNat_natCast]
   have : beL (Int.toNat 1) s.size = [UInt8.ofNat s.size] := beL_one (by omega)
   rw [this]
  refine ⟨l, rfl, ⟨by omega, by omega, by omega⟩, s.data.toList, rfl, ?_, ?_⟩
  ·rw [hv]; show ((l ++ [_]).length + s.data.toList.length) * 1 <= _
   rw [List.length_append, List.length_singleton]; omega
  ·rw [hv, List.append_assoc]
   exact hk
def nPutIS : List PV -> Heap Kd -> (List PV -> Heap Kd -> Prop) -> Prop := fun ys L k => match ys, L with
 | [.own 0, .str s], [.row 5 l] => (l.length < 1099511627000) /\ k [.own 0, .int .i64 (bif rightN s then 0 else 7)] [.row 5 (nPutV l s)]
 | _, _ => False
theorem nPutIS_inv {ys : List PV} {L : Heap Kd} {k : List PV -> Heap Kd -> Prop} (h : nPutIS ys L k) : ∃ (l : List UInt8) (s : ByteArray), ys = [.own 0, .str s] /\ L = [.row 5 l] /\ (l.length < 1099511627000) /\ k [.own 0, .int .i64 (bif rightN s then 0 else 7)] [.row 5 (nPutV l s)] := by
 unfold nPutIS at h
 split at h
 ·exact ⟨_, _, rfl, rfl, h⟩
 ·exact h.elim
theorem ok_nPutI : FunF B 162 1 nPutIS := by
 refine (inPl_ok (e := 5) (funF_ofG (ownArg_ok (lift_ok ok_nPut)) 1)).imp ?_
 intro ys L k h
 obtain ⟨l, s, rfl, rfl, hp, hk⟩ := nPutIS_inv h
 refine ⟨⟨l, rfl⟩, ?_⟩
 refine by_nf (q := ∃ l1 : List UInt8, PV.sl UInt8 e_uint8 l = PV.sl UInt8 e_uint8 l1 /\ l1.length < 1099511627000 /\ ∃ (xs : List UInt8) (r : List PV), [PV.own 1, PV.int .i64 (bif rightN s then 0 else 7)] = PV.own 1 :: r /\ PV.flat.go r = true /\ ([.gone, .row 5 (nPutV l1 s)] : Heap Kd) = [.gone, .row 5 xs] /\ k (.own 0 :: r) [.row 5 xs]) (by kernel_rfl) ?_
 exact ⟨l, rfl, hp, nPutV l s, [.int .i64 (bif rightN s then 0 else 7)], rfl, rfl, rfl, hk⟩
end Go.Ab.T
