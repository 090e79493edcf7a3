import Derived.Test.YthfagophoncabaaGreatDoorFault
import Derived.Test.YthfagophoncabaaGreatDoorMaB
set_option linter.unusedVariables false
set_option linter.unusedSimpArgs false
set_option linter.unusedSectionVars false
namespace Go.Ab.T
open Go Go.Ab Go.Proofs
variable [DMode]
set_option maxRecDepth 100000
set_option maxHeartbeats 4000000
def sizeS : SpecS := fun ys Φ => match ys with
 | [.int .i64 n] => Φ [.int .u64 (sizeB n), .bool (sizeOk n)]
 | _ => False
theorem sizeS_mono : MonoS sizeS := by
 intro ys Φ Ψ h hF
 unfold sizeS at hF ⊢
 split at hF
 ·exact h _ hF
 ·exact hF.elim
theorem sizeS_inv {ys : List PV} {Φ : List PV -> Prop} (h : sizeS ys Φ) : ∃ (n : Int), ys = [.int .i64 n] /\ Φ [.int .u64 (sizeB n), .bool (sizeOk n)] := by
 unfold sizeS at h
 split at h
 ·exact ⟨_, rfl, h⟩
 ·exact h.elim
theorem fn_size : FnOk Tryz.prog 147 Tryz.f147 (bodyOf Tryz.f147) := ⟨by kernel_rfl, by kernel_rfl, by kernel_rfl⟩
noncomputable def ff_size : Fun := ⟨Tryz.f147.ntmps, 0, Tryz.f147.results.toList, fun _ => none, fun _ => false, fun _ => []⟩
theorem nf_size (A : KA Kd) (k : List PV -> Heap Kd -> Prop) (n : Int) : evT B ff_size A k 400 false [.code (bodyOf Tryz.f147)] (startEnv 23 [.int .i64 n]) [] = (bif n == 8 then k [.int .u64 (IntKind.u64.wrap (IntKind.u64.wrap (IntKind.u64.wrap (IntKind.u64.wrap ((0 : Int) + (32 : Int)) + 16) + 8) + 8)), .bool true] []
else bif n == (4 : Int) then k [PV.int IntKind.u64 (IntKind.u64.wrap (IntKind.u64.wrap (IntKind.u64.wrap ((0 : Int) + (16 : Int)) + (8 : Int)) + (8 : Int))), PV.bool true] [] else bif n == (2 : Int) then k [PV.int IntKind.u64 (IntKind.u64.wrap (IntKind.u64.wrap ((0 : Int) + (8 : Int)) + (8 : Int))), PV.bool true] [] else bif n == (1 : Int) then k [PV.int IntKind.u64 (IntKind.u64.wrap ((0 : Int) + (8 : Int))), PV.bool true] [] else k [PV.int IntKind.u64 (0 : Int), PV.bool false] []) := by kernel_rfl
def rSizeS : SpecS := fun ys Φ => match ys with
 | [.int .i64 n] => Φ [.bool (sizeOk n)]
 | _ => False
theorem rSizeS_mono : MonoS rSizeS := by
 intro ys Φ Ψ h hF
 unfold rSizeS at hF ⊢
 split at hF
 ·exact h _ hF
 ·exact hF.elim
theorem rSizeS_inv {ys : List PV} {Φ : List PV -> Prop} (h : rSizeS ys Φ) : ∃ (n : Int), ys = [.int .i64 n] /\ Φ [.bool (sizeOk n)] := by
 unfold rSizeS at h
 split at h
 ·exact ⟨_, rfl, h⟩
 ·exact h.elim
theorem fn_rSize : FnOk Tryz.prog 123 Tryz.f123 (bodyOf Tryz.f123) := ⟨by kernel_rfl, by kernel_rfl, by kernel_rfl⟩
noncomputable def ff_rSize : Fun := ⟨Tryz.f123.ntmps, 0, Tryz.f123.results.toList, fun _ => none, fun _ => false, fun _ => []⟩
theorem nf_rSize (A : KA Kd) (k : List PV -> Heap Kd -> Prop) (n : Int) : evT B ff_rSize A k 400 false [.code (bodyOf Tryz.f123)] (startEnv 17 [.int .i64 n]) [] = (bif n == 1 then k [.bool true] []
else bif n == (2 : Int) then k [PV.bool true] [] else bif n == (4 : Int) then k [PV.bool true] [] else k [PV.bool (n == (8 : Int))] []) := by kernel_rfl
theorem ok_size : FunS B 147 sizeS := by
 refine funS_of (N := 23) (f := ff_size) env0 mixed fn_size (by kernel_rfl) (by kernel_rfl) (by kernel_rfl) sizeS_mono ?_
 intro A k ys hA hF
 obtain ⟨n, rfl, hk⟩ := sizeS_inv hF; clear hF
 refine ⟨by kernel_rfl, (hA.nf (nf_size A k n) ?_)⟩
 unfold sizeB sizeOk at hk
 by_cases h8 : n = 8
 ·subst h8; exact hk
 ·by_cases h4 : n = 4
  ·subst h4; exact hk
  ·by_cases h2 : n = 2
   ·subst h2; exact hk
   ·by_cases h1 : n = 1
    ·subst h1; exact hk
    ·rw [beq_false_of_ne h8, beq_false_of_ne h4, beq_false_of_ne h2, beq_false_of_ne h1] at hk ⊢
     exact hk
theorem ok_rSize : FunS B 123 rSizeS := by
 refine funS_of (N := 17) (f := ff_rSize) env0 mixed fn_rSize (by kernel_rfl) (by kernel_rfl) (by kernel_rfl) rSizeS_mono ?_
 intro A k ys hA hF
 obtain ⟨n, rfl, hk⟩ := rSizeS_inv hF; clear hF
 refine ⟨by kernel_rfl, (hA.nf (nf_rSize A k n) ?_)⟩
 unfold sizeOk at hk
 cases h1 : n == 1 <;> cases h2 : n == 2 <;> cases h4 : n == 4 <;> rw [h1, h2, h4] at hk <;> exact hk
noncomputable def O1 := base (fun _ => none) (fun g => match g with | 147 => some sizeS | 123 => some rSizeS | _ => none) (fun _ => none)
theorem env_O1 : EnvOk O1 := env_of (by
 intro g F h
 split at h
 ·cases h; exact ok_size
 ·cases h; exact ok_rSize
 ·cases h) (fun g F h => (by cases h)) (fun g F h => (by cases h))
def getS : SpecS := fun ys Φ => match ys with
 | [.str s, .int .i64 a, .int .i64 n] => (s.size < 4611686018427387904) /\ Φ [.int .u64 (getV s a n), .bool (getOk s a n)]
 | _ => False
theorem getS_mono : MonoS getS := by
 intro ys Φ Ψ h hF
 unfold getS at hF ⊢
 split at hF
 ·obtain ⟨hp, hk⟩ := hF; exact ⟨hp, h _ hk⟩
 ·exact hF.elim
theorem getS_inv {ys : List PV} {Φ : List PV -> Prop} (h : getS ys Φ) : ∃ (s : ByteArray) (a : Int) (n : Int), ys = [.str s, .int .i64 a, .int .i64 n] /\ (s.size < 4611686018427387904) /\ Φ [.int .u64 (getV s a n), .bool (getOk s a n)] := by
 unfold getS at h
 split at h
 ·exact ⟨_, _, _, rfl, h⟩
 ·exact h.elim
theorem fn_Get : FnOk Tryz.prog 97 Tryz.f97 (bodyOf Tryz.f97) := ⟨by kernel_rfl, by kernel_rfl, by kernel_rfl⟩
noncomputable def ff_Get : Fun := ⟨Tryz.f97.ntmps, 0, Tryz.f97.results.toList, fun i => match i with | 6 => some [0, 1, 10, 37, 38] | _ => none, fun _ => false, fun _ => []⟩
theorem nf_Get_a (A : KA Kd) (k : List PV -> Heap Kd -> Prop) (s : ByteArray) (a n : Int) : evT O1 ff_Get A k 400 false [.code (bodyOf Tryz.f97)] (startEnv 52 [.str s, .int .i64 a, .int .i64 n]) [] = (bif !sizeOk n then k [.int .u64 0, .bool false] []
else bif decide (a < (0 : Int)) then k [PV.int IntKind.u64 (0 : Int), PV.bool false] [] else bif decide (a > (↑s.size : Int)) then k [PV.int IntKind.u64 (0 : Int), PV.bool false] [] else bif decide (n > IntKind.i64.wrap ((↑s.size : Int) - a)) then k [PV.int IntKind.u64 (0 : Int), PV.bool false] [] else A (td Tryz.f97 (6 : Nat)) (envAt (52 : Nat) [((0 : Nat), PV.str s), ((1 : Nat), PV.int IntKind.i64 a), ((10 : Nat), PV.int IntKind.u64 (0 : Int)), ((37 : Nat), PV.int IntKind.i64 n), ((38 : Nat), PV.int IntKind.i64 (0 : Int))]) []) := by kernel_rfl
theorem nf_Get_b (A : KA Kd) (k : List PV -> Heap Kd -> Prop) (s : ByteArray) (a n v i : Int) : evT O1 ff_Get A k 400 true (td Tryz.f97 6) (envAt 52 [(0, .str s), (1, .int .i64 a), (10, .int .u64 v), (37, .int .i64 n), (38, .int .i64 i)]) [] = (bif decide (i < n) then (0 : Int) <= (8 : Int) /\ (0 <= IntKind.i64.wrap (a + i) /\ IntKind.i64.wrap (a + i) < (↑s.size : Int)) /\ ∀ (b : UInt8), s[(IntKind.i64.wrap (a + i)).toNat]? = some b -> A (td Tryz.f97 6) (envAt 52 [(0, .str s), (1, .int .i64 a), (10, .int .u64 (bits BinOp.or IntKind.u64 (IntKind.u64.wrap (v * 2 ^ min (Int.toNat (8 : Int)) IntKind.u64.bits)) (IntKind.u64.wrap (↑b.toNat : Int)))), (37, .int .i64 n), (38, .int .i64 (IntKind.i64.wrap (i + 1)))]) []
else k [PV.int IntKind.u64 v, PV.bool true] []) := by kernel_rfl
theorem ok_Get : FunS B 97 getS := by
 refine funS_of (N := 52) (f := ff_Get) env_O1 mixed fn_Get (by kernel_rfl) (by kernel_rfl) (by kernel_rfl) getS_mono ?_
 intro A k ys hA hF
 obtain ⟨s, a, n, rfl, hs, hk⟩ := getS_inv hF; clear hF
 refine ⟨by kernel_rfl, (hA.nf (nf_Get_a A k s a n) ?_)⟩
 have no : getOk s a n = false -> k [.int .u64 0, .bool false] [] := by
  intro h
  have h2 : getV s a n = 0 := by rw [getV, h]; rfl
  rw [h, h2] at hk; exact hk
 cases h1 : sizeOk n with
 | false => exact no (by rw [getOk, h1]; rfl)
 | true =>
  cases h2 : decide (a < 0) with
  | true => exact no (by simp at h2; simp [getOk]; omega)
  | false =>
   cases h3 : decide (a > (s.size : Int)) with
   | true => exact no (by simp at h3; simp [getOk]; omega)
   | false =>
    rw [decide_eq_false_iff_not] at h2 h3
    rw [wrap_id _ (by omega) (by omega)]
    cases h4 : decide (n > (s.size : Int) - a) with
    | true => exact no (by simp at h4; simp [getOk]; omega)
    | false =>
     rw [decide_eq_false_iff_not] at h4
     have hok : getOk s a n = true := by simp [getOk, h1]; omega
     have hn := sizeOk_cases h1
     obtain ⟨p, rfl⟩ : ∃ p : Nat, a = (p : Int) := ⟨a.toNat, by omega⟩
     obtain ⟨m, rfl⟩ : ∃ m : Nat, n = (m : Int) := ⟨n.toNat, by omega⟩
     have hv : getV s p m = (beV s p m : Int) := by rw [getV, hok]; rfl
     rw [hok, hv] at hk
     refine downN m (fun i => A (td Tryz.f97 6) (envAt 52 [(0, .str s), (1, .int .i64 (p : Int)), (10, .int .u64 (beV s p i : Int)), (37, .int .i64 (m : Int)), (38, .int .i64 (i : Int))]) []) ?_ ?_ 0 (Nat.zero_le _)
     ·refine (hA.nf (nf_Get_b A k s p m _ _) ?_)
      rw [ilt_false (Nat.lt_irrefl _)]
      exact hk
     ·intro i hi ih
      refine (hA.nf (nf_Get_b A k s p m _ _) ?_)
      rw [ilt_true hi]
      have e1 : IntKind.i64.wrap ((p : Int) + (i : Int)) = ((p + i : Nat) : Int) := wrap_nat (by omega) (by omega)
      rw [e1]
      refine ⟨by decide, sget (by omega) fun b hb => ?_⟩
      have h1 := beV_lt s p i
      have h2 := pow256 (i + 1) (by omega)
      rw [Nat.pow_succ] at h2
      rw [u64_id (b.toNat : Int) (by omega) (by have := UInt8.toNat_lt b; omega), or_byte _ _ (by omega) (UInt8.toNat_lt b), <- byteAt_of hb, wrap_succ (by omega)]
      exact ih
theorem fn_rGet : FnOk Tryz.prog 52 Tryz.f52 (bodyOf Tryz.f52) := ⟨by kernel_rfl, by kernel_rfl, by kernel_rfl⟩
noncomputable def ff_rGet : Fun := ⟨Tryz.f52.ntmps, 0, Tryz.f52.results.toList, fun i => match i with | 5 => some [0, 1, 2, 8, 9] | _ => none, fun _ => false, fun _ => []⟩
theorem nf_rGet_a (A : KA Kd) (k : List PV -> Heap Kd -> Prop) (s : ByteArray) (a n : Int) : evT O1 ff_rGet A k 400 false [.code (bodyOf Tryz.f52)] (startEnv 47 [.str s, .int .i64 a, .int .i64 n]) [] = (bif !sizeOk n then k [.int .u64 0, .bool false] []
else bif decide (a < (0 : Int)) then k [PV.int IntKind.u64 (0 : Int), PV.bool false] [] else bif decide (a > (↑s.size : Int)) then k [PV.int IntKind.u64 (0 : Int), PV.bool false] [] else bif decide (n > IntKind.i64.wrap ((↑s.size : Int) - a)) then k [PV.int IntKind.u64 (0 : Int), PV.bool false] [] else A (td Tryz.f52 (5 : Nat)) (envAt (47 : Nat) [((0 : Nat), PV.str s), ((1 : Nat), PV.int IntKind.i64 a), ((2 : Nat), PV.int IntKind.i64 n), ((8 : Nat), PV.int IntKind.u64 (0 : Int)), ((9 : Nat), PV.int IntKind.i64 a)]) []) := by kernel_rfl
theorem nf_rGet_b (A : KA Kd) (k : List PV -> Heap Kd -> Prop) (s : ByteArray) (a n v i : Int) : evT O1 ff_rGet A k 400 true (td Tryz.f52 5) (envAt 47 [(0, .str s), (1, .int .i64 a), (2, .int .i64 n), (8, .int .u64 v), (9, .int .i64 i)]) [] = (bif decide (i < IntKind.i64.wrap (a + n)) then (0 <= i /\ i < (↑s.size : Int)) /\ ∀ (b : UInt8), s[i.toNat]? = some b -> A (td Tryz.f52 5) (envAt 47 [(0, .str s), (1, .int .i64 a), (2, .int .i64 n), (8, .int .u64 (IntKind.u64.wrap (IntKind.u64.wrap (256 * v) + IntKind.u64.wrap (↑b.toNat : Int)))), (9, .int .i64 (IntKind.i64.wrap (i + 1)))]) []
else k [PV.int IntKind.u64 v, PV.bool true] []) := by kernel_rfl
theorem ok_rGet : FunS B 52 getS := by
 refine funS_of (N := 47) (f := ff_rGet) env_O1 mixed fn_rGet (by kernel_rfl) (by kernel_rfl) (by kernel_rfl) getS_mono ?_
 intro A k ys hA hF
 obtain ⟨s, a, n, rfl, hs, hk⟩ := getS_inv hF; clear hF
 refine ⟨by kernel_rfl, (hA.nf (nf_rGet_a A k s a n) ?_)⟩
 have no : getOk s a n = false -> k [.int .u64 0, .bool false] [] := by
  intro h
  have h2 : getV s a n = 0 := by rw [getV, h]; rfl
  rw [h, h2] at hk; exact hk
 cases h1 : sizeOk n with
 | false => exact no (by rw [getOk, h1]; rfl)
 | true =>
  cases h2 : decide (a < 0) with
  | true => exact no (by simp at h2; simp [getOk]; omega)
  | false =>
   cases h3 : decide (a > (s.size : Int)) with
   | true => exact no (by simp at h3; simp [getOk]; omega)
   | false =>
    rw [decide_eq_false_iff_not] at h2 h3
    rw [wrap_id _ (by omega) (by omega)]
    cases h4 : decide (n > (s.size : Int) - a) with
    | true => exact no (by simp at h4; simp [getOk]; omega)
    | false =>
     rw [decide_eq_false_iff_not] at h4
     have hok : getOk s a n = true := by simp [getOk, h1]; omega
     have hn := sizeOk_cases h1
     obtain ⟨p, rfl⟩ : ∃ p : Nat, a = (p : Int) := ⟨a.toNat, by omega⟩
     obtain ⟨m, rfl⟩ : ∃ m : Nat, n = (m : Int) := ⟨n.toNat, by omega⟩
     have hv : getV s p m = (beV s p m : Int) := by rw [getV, hok]; rfl
     rw [hok, hv] at hk
     have e0 : IntKind.i64.wrap ((p : Int) + (m : Int)) = ((p + m : Nat) : Int) := wrap_nat (by omega) (by omega)
     have := downN m (fun i => A (td Tryz.f52 5) (envAt 47 [(0, .str s), (1, .int .i64 (p : Int)), (2, .int .i64 (m : Int)), (8, .int .u64 (beV s p i : Int)), (9, .int .i64 ((p + i : Nat) : Int))]) []) ?_ ?_ 0 (Nat.zero_le _)
     ·exact this
     ·refine (hA.nf (nf_rGet_b A k s p m _ _) ?_)
      rw [e0, ilt_false (Nat.lt_irrefl _)]
      exact hk
     ·intro i hi ih
      refine (hA.nf (nf_rGet_b A k s p m _ _) ?_)
      rw [e0, ilt_true (by omega)]
      refine sget (by omega) fun b hb => ?_
      have h1 := beV_lt s p i
      have h2 := pow256 (i + 1) (by omega)
      rw [Nat.pow_succ] at h2
      have hb2 := UInt8.toNat_lt b
      rw [u64_id (b.toNat : Int) (by omega) (by omega), u64_id (256 * (beV s p i : Int)) (by omega) (by omega), u64_id _ (by omega) (by omega), wrap_succ (by omega)]
      have e2 : 256 * (beV s p i : Int) + (b.toNat : Int) = (beV s p (i + 1) : Int) := by
       rw [beV, byteAt_of hb]; omega
      rw [e2]
      exact ih
end Go.Ab.T
