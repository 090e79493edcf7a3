import Derived.Test.YthfagophoncabaaGreatDoorOctet
import Derived.Test.YthfagophoncabaaGreatDoorMaB
set_option linter.unusedVariables false
set_option linter.unusedSimpArgs false
set_option linter.unusedSectionVars false
namespace Go.Ab.T
open Go Go.Ab Go.Proofs
variable [DMode]
set_option maxRecDepth 100000
set_option maxHeartbeats 4000000
noncomputable def P0 := base (fun _ => none) (fun g => match g with | 147 => some sizeS | _ => none) (fun _ => none)
theorem env_P0 : EnvOk P0 := env_of (by
 intro g F h
 split at h
 ·cases h; exact ok_size
 ·cases h) (fun g F h => (by cases h)) (fun g F h => (by cases h))
def cloneS : List PV -> Heap Kd -> (List PV -> Heap Kd -> Prop) -> Prop := fun ys L k => match ys, L with
 | [x_0], [] => ∃ (l : List UInt8), x_0 = .sl _ e_uint8 l /\ (l.length < 1099511627776) /\ k [.own 0] [.row 5 l]
 | _, _ => False
theorem cloneS_inv {ys : List PV} {L : Heap Kd} {k : List PV -> Heap Kd -> Prop} (h : cloneS ys L k) : ∃ (l : List UInt8), ys = [.sl _ e_uint8 l] /\ L = [] /\ (l.length < 1099511627776) /\ k [.own 0] [.row 5 l] := by
 unfold cloneS at h
 split at h
 ·obtain ⟨a0, q0, hz⟩ := h
  subst q0
  exact ⟨a0, rfl, rfl, hz⟩
 ·exact h.elim
theorem fn_clone : FnOk Tryz.prog 117 Tryz.f117 (bodyOf Tryz.f117) := ⟨by kernel_rfl, by kernel_rfl, by kernel_rfl⟩
noncomputable def ff_clone : Fun := ⟨Tryz.f117.ntmps, 0, Tryz.f117.results.toList, fun _ => none, fun _ => false, fun _ => []⟩
theorem nf_clone (A : KA Kd) (k : List PV -> Heap Kd -> Prop) (l : List UInt8) : evT P0 ff_clone A k 400 false [.code (bodyOf Tryz.f117)] (startEnv 8 [.sl _ e_uint8 l]) [] = (∀ (b : Bool), (l ≠ [] -> b = false) -> bif b then k [.own 0] [.row 5 []] else ∃ (zs : List UInt8), List.map e_uint8 zs = [] /\ ∃ (ys : List UInt8), List.map e_uint8 ys = List.map e_uint8 l /\ (zs.length + ys.length) * (TInfo.mk (TD.int IntKind.u8) (1 : Nat) (1 : Nat) [PV.int IntKind.u8 0] false []).bytes <= 140737488355328 /\ k [.own 0] [.row 5 (zs ++ ys)]) := by kernel_rfl
theorem ok_clone : FunF B 117 0 cloneS := by
 refine funF_of (N := 8) (f := ff_clone) env_P0 mixed fn_clone (by kernel_rfl) (by kernel_rfl) ?_
 intro A k ys L hA hF
 obtain ⟨l, rfl, rfl, h1, hk⟩ := cloneS_inv hF; clear hF
 refine ⟨by kernel_rfl, (hA.nf (nf_clone A k l) ?_)⟩
 intro b hb
 cases b with
 | false => exact ⟨[], rfl, l, rfl, by show (0 + l.length) * 1 <= _; omega, hk⟩
 | true =>
  cases l with
  | nil => exact hk
  | cons x r => exact absurd (hb (by simp)) (by simp)
def fitsS : SpecS := fun ys Φ => match ys with
 | [.int .u64 v, .int .i64 n] => (0 <= v /\ v < 18446744073709551616) /\ Φ [.bool (fitsV v n)]
 | _ => False
theorem fitsS_mono : MonoS fitsS := by
 intro ys Φ Ψ h hF
 unfold fitsS at hF ⊢
 split at hF
 ·obtain ⟨hp, hk⟩ := hF; exact ⟨hp, h _ hk⟩
 ·exact hF.elim
theorem fitsS_inv {ys : List PV} {Φ : List PV -> Prop} (h : fitsS ys Φ) : ∃ (v : Int) (n : Int), ys = [.int .u64 v, .int .i64 n] /\ (0 <= v /\ v < 18446744073709551616) /\ Φ [.bool (fitsV v n)] := by
 unfold fitsS at h
 split at h
 ·exact ⟨_, _, rfl, h⟩
 ·exact h.elim
theorem fn_fits : FnOk Tryz.prog 118 Tryz.f118 (bodyOf Tryz.f118) := ⟨by kernel_rfl, by kernel_rfl, by kernel_rfl⟩
noncomputable def ff_fits : Fun := ⟨Tryz.f118.ntmps, 0, Tryz.f118.results.toList, fun _ => none, fun _ => false, fun _ => []⟩
theorem nf_fits (A : KA Kd) (k : List PV -> Heap Kd -> Prop) (v n : Int) : evT P0 ff_fits A k 400 false [.code (bodyOf Tryz.f118)] (startEnv 23 [.int .u64 v, .int .i64 n]) [] = (bif sizeOk n then bif sizeB n == 64 then k [.bool true] [] else 0 <= sizeB n /\ k [.bool (v.fdiv ((2 : Int) ^ min (sizeB n).toNat IntKind.u64.bits) == 0)] []
else k [PV.bool false] []) := by kernel_rfl
theorem ok_fits : FunS B 118 fitsS := by
 refine funS_of (N := 23) (f := ff_fits) env_P0 mixed fn_fits (by kernel_rfl) (by kernel_rfl) (by kernel_rfl) fitsS_mono ?_
 intro A k ys hA hF
 obtain ⟨v, n, rfl, ⟨h0, h1⟩, hk⟩ := fitsS_inv hF; clear hF
 refine ⟨by kernel_rfl, (hA.nf (nf_fits A k v n) ?_)⟩
 cases hs : sizeOk n with
 | false => rw [fitsV_bad hs] at hk; exact hk
 | true =>
  obtain ⟨b0, b1⟩ := fitsV_ok (v := v) hs h0 h1
  cases h6 : sizeB n == 64 with
  | true => rw [b1 h6] at hk; exact hk
  | false => exact ⟨b0.1, by rw [b0.2]; exact hk⟩
noncomputable def P1 := base (fun g => match g with | 117 => some (lift 0 cloneS) | _ => none) (fun g => match g with | 118 => some fitsS | _ => none) (fun _ => none)
theorem env_P1 : EnvOk P1 := env_of (by
 intro g F h
 split at h
 ·cases h; exact ok_fits
 ·cases h) (by
 intro g F h
 split at h
 ·cases h; exact (lift_ok ok_clone)
 ·cases h) (fun g F h => (by cases h))
def putS : List PV -> Heap Kd -> (List PV -> Heap Kd -> Prop) -> Prop := fun ys L k => match ys, L with
 | [x_0, .int .u64 v, .int .i64 n], [] => ∃ (l : List UInt8), x_0 = .sl _ e_uint8 l /\ (0 <= v /\ v < 18446744073709551616 /\ l.length < 1099511627776) /\ k [.own 0, .bool (fitsV v n)] [.row 5 (putV l v n)]
 | _, _ => False
theorem putS_inv {ys : List PV} {L : Heap Kd} {k : List PV -> Heap Kd -> Prop} (h : putS ys L k) : ∃ (l : List UInt8) (v : Int) (n : Int), ys = [.sl _ e_uint8 l, .int .u64 v, .int .i64 n] /\ L = [] /\ (0 <= v /\ v < 18446744073709551616 /\ l.length < 1099511627776) /\ k [.own 0, .bool (fitsV v n)] [.row 5 (putV l v n)] := by
 unfold putS at h
 split at h
 ·obtain ⟨a0, q0, hz⟩ := h
  subst q0
  exact ⟨a0, _, _, rfl, rfl, hz⟩
 ·exact h.elim
theorem fn_put : FnOk Tryz.prog 49 Tryz.f49 (bodyOf Tryz.f49) := ⟨by kernel_rfl, by kernel_rfl, by kernel_rfl⟩
noncomputable def ff_put : Fun := ⟨Tryz.f49.ntmps, 0, Tryz.f49.results.toList, fun i => match i with | 5 => some [1, 8, 9] | _ => none, fun _ => false, fun _ => []⟩
theorem nf_put_a (A : KA Kd) (k : List PV -> Heap Kd -> Prop) (l : List UInt8) (v n : Int) : evT P1 ff_put A k 400 false [.code (bodyOf Tryz.f49)] (startEnv 32 [.sl _ e_uint8 l, .int .u64 v, .int .i64 n]) [] = (∃ (l_1 : List UInt8), PV.sl UInt8 e_uint8 l = PV.sl UInt8 e_uint8 l_1 /\ l_1.length < 1099511627776 /\ (0 <= v /\ v < 18446744073709551616) /\ bif !fitsV v n then k [.own 0, .bool false] [.row 5 l_1] else A (td Tryz.f49 5) (envAt 32 [(1, .int .u64 v), (8, .own 0), (9, .int .i64 (IntKind.i64.wrap (n - 1)))]) [.row 5 l_1]) := by kernel_rfl
theorem nf_put_b (A : KA Kd) (k : List PV -> Heap Kd -> Prop) (l : List UInt8) (v i : Int) : evT P1 ff_put A k 400 true (td Tryz.f49 5) (envAt 32 [(1, .int .u64 v), (8, .own 0), (9, .int .i64 i)]) [.row 5 l] = (bif decide (i >= 0) then 0 <= IntKind.i64.wrap (8 * i) /\ ∃ (zs : List UInt8), List.map e_uint8 zs = [PV.int IntKind.u8 (IntKind.u8.wrap (v.fdiv ((2 : Int) ^ min (IntKind.i64.wrap (8 * i)).toNat IntKind.u64.bits)))] /\ (l.length + (zs).length) * (TInfo.mk (TD.int IntKind.u8) (1 : Nat) (1 : Nat) [PV.int IntKind.u8 0] false []).bytes <= 140737488355328 /\ A (td Tryz.f49 5) (envAt 32 [(1, .int .u64 v), (8, .own 0), (9, .int .i64 (IntKind.i64.wrap (i - 1)))]) [.row 5 (l ++ zs)]
else k [PV.own (0 : Nat), PV.bool true] [AObj.row (5 : Nat) l]) := by kernel_rfl
theorem put_loop (A : KA Kd) (k : List PV -> Heap Kd -> Prop) (hA : Closed P1 ff_put k A) (v : Nat) (hv : v < 18446744073709551616) : ∀ (m : Nat), m <= 8 -> ∀ (l : List UInt8), l.length + m < 1099511627800 -> k [.own 0, .bool true] [.row 5 (l ++ beL m v)] ->
 A (td Tryz.f49 5) (envAt Tryz.f49.ntmps [(1, .int .u64 (v : Int)), (8, .own 0), (9, .int .i64 ((m : Int) - 1))]) [.row 5 l] := by
 intro m
 induction m with
 | zero =>
  intro _ l _ hk
  refine (hA.nf (nf_put_b A k l v _) ?_)
  rw [beL, List.append_nil] at hk
  exact hk
 | succ m ih =>
  intro hm l hl hk
  refine (hA.nf (nf_put_b A k l v _) ?_)
  have e1 : ((m + 1 : Nat) : Int) - 1 = (m : Int) := by omega
  have e2 : decide ((m : Int) >= 0) = true := decide_eq_true (by omega)
  rw [e1, e2, cond_true]
  have e3 : ((v : Int).fdiv (2 ^ min (IntKind.i64.wrap ((8 : Int) * (m : Int))).toNat IntKind.u64.bits)) = ((v / 256 ^ m : Nat) : Int) := shr_byte v m (by omega)
  rw [e3, u8_wrap]
  have hb2 : (UInt8.ofNat (v / 256 ^ m % 256)).toNat = v / 256 ^ m % 256 := by rw [UInt8.toNat_ofNat']; omega
  refine ⟨by rw [wrap_id _ (by omega) (by omega)]; omega, [UInt8.ofNat (v / 256 ^ m % 256)], ?_, by show (l.length + 1) * 1 <= _; omega, ?_⟩
  ·show [PV.int .u8 (((UInt8.ofNat (v / 256 ^ m % 256)).toNat : Nat) : Int)] = _
   rw [hb2]
  ·rw [wrap_id _ (by omega) (by omega)]
   refine ih (by omega) (l ++ [UInt8.ofNat (v / 256 ^ m % 256)]) (by rw [List.length_append, List.length_singleton]; omega) ?_
   rw [List.append_assoc]; exact hk
theorem ok_put : FunF B 49 0 putS := by
 refine funF_of (N := 32) (f := ff_put) env_P1 mixed fn_put (by kernel_rfl) (by kernel_rfl) ?_
 intro A k ys L hA hF
 obtain ⟨l, v, n, rfl, rfl, ⟨h0, h1, h2⟩, hk⟩ := putS_inv hF; clear hF
 refine ⟨by kernel_rfl, (hA.nf (nf_put_a A k l v n) ?_)⟩
 refine ⟨l, rfl, h2, ⟨h0, h1⟩, ?_⟩
 unfold putV at hk
 cases hf : fitsV v n with
 | false => rw [hf] at hk; exact hk
 | true =>
  rw [hf] at hk
  obtain ⟨w, rfl⟩ : ∃ w : Nat, v = w := ⟨v.toNat, by omega⟩
  have hs := fitsV_size hf
  obtain ⟨m, rfl⟩ : ∃ m : Nat, n = m := ⟨n.toNat, by rcases sizeOk_cases hs with h | h | h | h <;> omega⟩
  have hm : m <= 8 := by rcases sizeOk_cases hs with h | h | h | h <;> omega
  rw [Int.toNat_natCast, Int.toNat_natCast] at hk
  have e : IntKind.i64.wrap ((m : Int) - 1) = (m : Int) - 1 := wrap_id _ (by omega) (by omega)
  rw [Bool.not_true, cond_false, e]
  exact put_loop A k hA w (by omega) m hm l (by omega) hk
end Go.Ab.T
