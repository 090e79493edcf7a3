import Derived.Test.YthfagophoncabaaGreatDoorFault
import Derived.Test.YthfagophoncabaaGreatDoorMaB
set_option linter.unusedVariables false
set_option linter.unusedSimpArgs false
set_option linter.unusedSectionVars false
namespace Go.Ab.T
open Go Go.Ab Go.Proofs
variable [DMode]
set_option maxRecDepth 100000
set_option maxHeartbeats 4000000
def r01TS : SpecS := fun ys Φ => match ys with
 | [.int .u64 v, .int .i64 n] => ((0 <= v /\ v < 18446744073709551616) /\ 0 <= n /\ n <= 100) /\ Φ [.str ⟨(beL n.toNat v.toNat).toArray⟩]
 | _ => False
theorem r01TS_mono : MonoS r01TS := by
 intro ys Φ Ψ h hF
 unfold r01TS at hF ⊢
 split at hF
 ·obtain ⟨hp, hk⟩ := hF; exact ⟨hp, h _ hk⟩
 ·exact hF.elim
theorem r01TS_inv {ys : List PV} {Φ : List PV -> Prop} (h : r01TS ys Φ) : ∃ (v : Int) (n : Int), ys = [.int .u64 v, .int .i64 n] /\ ((0 <= v /\ v < 18446744073709551616) /\ 0 <= n /\ n <= 100) /\ Φ [.str ⟨(beL n.toNat v.toNat).toArray⟩] := by
 unfold r01TS at h
 split at h
 ·exact ⟨_, _, rfl, h⟩
 ·exact h.elim
theorem fn_r01T : FnOk Tryz.prog 31 Tryz.f31 (bodyOf Tryz.f31) := ⟨by kernel_rfl, by kernel_rfl, by kernel_rfl⟩
noncomputable def ff_r01T : Fun := ⟨Tryz.f31.ntmps, 0, Tryz.f31.results.toList, fun i => match i with | 3 => some [0, 1, 5, 6] | _ => none, fun _ => false, fun _ => []⟩
theorem nf_r01T_a (A : KA Kd) (k : List PV -> Heap Kd -> Prop) (v n : Int) : evT B ff_r01T A k 400 false [.code (bodyOf Tryz.f31)] (startEnv 22 [.int .u64 v, .int .i64 n]) [] = (A (td Tryz.f31 3) (envAt 22 [(0, .int .u64 v), (1, .int .i64 n), (5, .str ⟨#[]⟩), (6, .int .i64 0)]) []) := by kernel_rfl
theorem nf_r01T_b (A : KA Kd) (k : List PV -> Heap Kd -> Prop) (v n i : Int) (s : ByteArray) : evT B ff_r01T A k 400 true (td Tryz.f31 3) (envAt 22 [(0, .int .u64 v), (1, .int .i64 n), (5, .str s), (6, .int .i64 i)]) [] = (bif decide (i < n) then (256 : Int) ≠ (0 : Int) /\ ∃ (zs : List UInt8), List.map e_uint8 zs = [PV.int IntKind.u8 (IntKind.u8.wrap (v.tmod (256 : Int)))] /\ (∀ (y : UInt8), y ∈ zs -> isU8 (e_uint8 y) = true) /\ (strPV (List.map e_uint8 zs)).size + s.size <= 9223372036854775807 /\ (256 : Int) ≠ (0 : Int) /\ A (td Tryz.f31 3) (envAt 22 [(0, .int .u64 (IntKind.u64.wrap (v.tdiv (256 : Int)))), (1, .int .i64 n), (5, .str (strPV (List.map e_uint8 zs) ++ s)), (6, .int .i64 (IntKind.i64.wrap (i + 1)))]) []
else k [PV.str s] []) := by kernel_rfl
theorem ok_r01T : FunS B 31 r01TS := by
 refine funS_of (N := 22) (f := ff_r01T) env0 mixed fn_r01T (by kernel_rfl) (by kernel_rfl) (by kernel_rfl) r01TS_mono ?_
 intro A k ys hA hF
 obtain ⟨v, n, rfl, ⟨⟨h0, h3⟩, h1, h2⟩, hk⟩ := r01TS_inv hF; clear hF
 refine ⟨by kernel_rfl, (hA.nf (nf_r01T_a A k v n) ?_)⟩
 obtain ⟨w, rfl⟩ : ∃ w : Nat, v = w := ⟨v.toNat, by omega⟩
 obtain ⟨m, rfl⟩ : ∃ m : Nat, n = m := ⟨n.toNat, by omega⟩
 rw [Int.toNat_natCast, Int.toNat_natCast] at hk
 have hs := downN m (fun i => A (td Tryz.f31 3) (envAt 22 [(0, .int .u64 ((w / 256 ^ i : Nat) : Int)), (1, .int .i64 m), (5, .str ⟨(beL i w).toArray⟩), (6, .int .i64 (i : Int))]) []) ?_ ?_ 0 (Nat.zero_le _)
 ·have e1 : w / 256 ^ 0 = w := by simp
  rw [e1] at hs; exact hs
 ·refine (hA.nf (nf_r01T_b A k _ _ _ _) ?_)
  rw [ilt_false (Nat.lt_irrefl _)]; exact hk
 ·intro i hi ih
  refine (hA.nf (nf_r01T_b A k _ _ _ _) ?_)
  rw [ilt_true hi]
  obtain ⟨d, hd⟩ : ∃ d, d = w / 256 ^ i := ⟨_, rfl⟩
  have hw : ((d : Int)).tmod 256 = ((d % 256 : Nat) : Int) := by rw [Int.tmod_eq_emod_of_nonneg (by omega)]; omega
  have hv : ((d : Int)).tdiv 256 = ((w / 256 ^ (i + 1) : Nat) : Int) := by
   rw [Int.tdiv_eq_ediv_of_nonneg (by omega), Nat.pow_succ, <- Nat.div_div_eq_div_mul, <- hd]; omega
  rw [<- hd, hw, hv]
  have hb : d % 256 < 256 := Nat.mod_lt _ (by omega)
  have hb2 : (UInt8.ofNat (d % 256)).toNat = d % 256 := by rw [UInt8.toNat_ofNat']; omega
  have e2 : (strPV (List.map e_uint8 [UInt8.ofNat (d % 256)]) ++ ByteArray.mk (beL i w).toArray) = ByteArray.mk (beL (i + 1) w).toArray := by
   apply ByteArray.ext
   rw [ByteArray.data_append]
   have e3 : (strPV (List.map e_uint8 [UInt8.ofNat (d % 256)])).data = #[UInt8.ofNat (d % 256)] := by
    show (ByteArray.empty.push (UInt8.ofNat (pvNat (e_uint8 (UInt8.ofNat (d % 256)))))).data = _
    show #[UInt8.ofNat ((UInt8.ofNat (d % 256)).toNat : Int).toNat] = _
    rw [Int.toNat_natCast, hb2]
   rw [e3, beL, <- hd]
   simp
  have e4 : (strPV (List.map e_uint8 [UInt8.ofNat (d % 256)])).size = 1 := rfl
  have e5 : (ByteArray.mk (beL i w).toArray).size = i := by show (beL i w).toArray.size = i; rw [List.size_toArray, beL_len]
  refine ⟨by decide, [UInt8.ofNat (d % 256)], ?_, ?_, ?_, by decide, ?_⟩
  ·show [PV.int .u8 (((UInt8.ofNat (d % 256)).toNat : Nat) : Int)] = _
   rw [hb2]
   have : IntKind.u8.wrap ((d % 256 : Nat) : Int) = ((d % 256 : Nat) : Int) := u8_id _ (by omega) (by omega)
   rw [this]
  ·intro y _; rfl
  ·rw [e4, e5]; omega
  ·rw [e2, u64_id _ (Int.natCast_nonneg _) (by have := Nat.div_le_self w (256 ^ (i + 1)); generalize w / 256 ^ (i + 1) = q at *; omega), wrap_succ (by omega)]
   exact ih
end Go.Ab.T
