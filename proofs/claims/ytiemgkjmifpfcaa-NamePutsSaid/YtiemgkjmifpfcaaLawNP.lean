import Derived.Test.YtiemgkjmifpfcaaNamePut
import Derived.Test.YtiemgkjmifpfcaaOp
set_option linter.unusedVariables false
set_option linter.unusedSimpArgs false
namespace Go.Ab.T
open Go Go.Ab Go.Proofs
set_option maxRecDepth 100000
set_option maxHeartbeats 4000000
noncomputable def L6 := base (fun g => match g with | 68 => some (lift 0 namesF) | 67 => some (lift 0 namesF) | 11 => some (lift 0 NewS) | 71 => some (lift 1 FailS) | 44 => some (lift 1 NeedS) | 15 => some (lift 1 ErrS) | 70 => some (lift 1 numberS) | 43 => some (lift 1 U8S) | 45 => some (lift 1 TextS) | 13 => some (lift 1 nGetS) | 38 => some (lift 0 cloneS) | 39 => some (lift 0 putS) | 8 => some (lift 0 nPutS) | _ => none) (fun g => match g with | 36 => some nameS | 37 => some nameS | 65 => some newS | 64 => some atS | 63 => some inS | 78 => some sizeS | 79 => some getS | 42 => some PlaceS | 14 => some LeftS | 40 => some mayS | 41 => some letS | 9 => some rightS | 10 => some rightS | 69 => some fitsS | 12 => some rTxtS | _ => none) (fun _ => none)
theorem env_L6 : EnvOk L6 := env_of (by
    intro g F h
    split at h
    · cases h; exact ok_Name
    · cases h; exact ok_rName
    · cases h; exact ok_New
    · cases h; exact ok_At
    · cases h; exact ok_In
    · cases h; exact ok_size
    · cases h; exact ok_Get
    · cases h; exact ok_Place
    · cases h; exact ok_Left
    · cases h; exact ok_may
    · cases h; exact ok_letter
    · cases h; exact ok_right
    · cases h; exact ok_rright
    · cases h; exact ok_fits
    · cases h; exact ok_rTxt
    · cases h) (by
    intro g F h
    split at h
    · cases h; exact (lift_ok ok_rnames)
    · cases h; exact (lift_ok ok_names)
    · cases h; exact (lift_ok ok_rNew)
    · cases h; exact (lift_ok ok_Fail)
    · cases h; exact (lift_ok ok_Need)
    · cases h; exact (lift_ok ok_rErr)
    · cases h; exact (lift_ok ok_number)
    · cases h; exact (lift_ok ok_U8)
    · cases h; exact (lift_ok ok_Text)
    · cases h; exact (lift_ok ok_nGet)
    · cases h; exact (lift_ok ok_clone)
    · cases h; exact (lift_ok ok_put)
    · cases h; exact (lift_ok ok_nPut)
    · cases h) (fun g F h => (by cases h))
def trueS : SpecS := fun ys Φ => match ys with
  | [] => Φ [.bool true]
  | _ => False
theorem trueS_mono : MonoS trueS := by
  intro ys Φ Ψ h hF
  unfold trueS at hF ⊢
  split at hF
  · exact h _ hF
  · exact hF.elim
theorem trueS_inv {ys : List PV} {Φ : List PV → Prop} (h : trueS ys Φ) : ys = [] ∧ Φ [.bool true] := by
  unfold trueS at h
  split at h
  · exact ⟨rfl, h⟩
  · exact h.elim
theorem fn_awake06 : FnOk Try.prog 7 Try.f7 (bodyOf Try.f7) := ⟨by kernel_rfl, by kernel_rfl, by kernel_rfl⟩
noncomputable def ff_awake06 : Fun := ⟨Try.f7.ntmps, 0, Try.f7.results.toList, fun _ => none, fun _ => false, fun _ => []⟩
theorem nf_awake06 (A : KA Kd) (k : List PV → Heap Kd → Prop)  : evT L6 ff_awake06 A k 400 false [.code (bodyOf Try.f7)] (startEnv 6 []) [] = (k [PV.bool !rightN (ByteArray.mk #[(49 : UInt8), (78 : UInt8), (65 : UInt8), (86 : UInt8)])] []) := by kernel_rfl
theorem ok_awake06 : FunS B 7 trueS := by
  refine funS_of (N := 6) (f := ff_awake06) env_L6 mixed fn_awake06 (by kernel_rfl) (by kernel_rfl) (by kernel_rfl) trueS_mono ?_
  intro A k ys hA hF
  obtain ⟨rfl, hk⟩ := trueS_inv hF; clear hF
  refine ⟨by kernel_rfl, (hA.nf (nf_awake06 A k) ?_)⟩
  exact by_nf (q := k [.bool true] []) (by kernel_rfl) hk
noncomputable def L7 := base (fun g => match g with | 68 => some (lift 0 namesF) | 67 => some (lift 0 namesF) | 11 => some (lift 0 NewS) | 71 => some (lift 1 FailS) | 44 => some (lift 1 NeedS) | 15 => some (lift 1 ErrS) | 70 => some (lift 1 numberS) | 43 => some (lift 1 U8S) | 45 => some (lift 1 TextS) | 13 => some (lift 1 nGetS) | 38 => some (lift 0 cloneS) | 39 => some (lift 0 putS) | 8 => some (lift 0 nPutS) | _ => none) (fun g => match g with | 36 => some nameS | 37 => some nameS | 65 => some newS | 64 => some atS | 63 => some inS | 78 => some sizeS | 79 => some getS | 42 => some PlaceS | 14 => some LeftS | 40 => some mayS | 41 => some letS | 9 => some rightS | 10 => some rightS | 69 => some fitsS | 12 => some rTxtS | 7 => some trueS | _ => none) (fun _ => none)
theorem env_L7 : EnvOk L7 := env_of (by
    intro g F h
    split at h
    · cases h; exact ok_Name
    · cases h; exact ok_rName
    · cases h; exact ok_New
    · cases h; exact ok_At
    · cases h; exact ok_In
    · cases h; exact ok_size
    · cases h; exact ok_Get
    · cases h; exact ok_Place
    · cases h; exact ok_Left
    · cases h; exact ok_may
    · cases h; exact ok_letter
    · cases h; exact ok_right
    · cases h; exact ok_rright
    · cases h; exact ok_fits
    · cases h; exact ok_rTxt
    · cases h; exact ok_awake06
    · cases h) (by
    intro g F h
    split at h
    · cases h; exact (lift_ok ok_rnames)
    · cases h; exact (lift_ok ok_names)
    · cases h; exact (lift_ok ok_rNew)
    · cases h; exact (lift_ok ok_Fail)
    · cases h; exact (lift_ok ok_Need)
    · cases h; exact (lift_ok ok_rErr)
    · cases h; exact (lift_ok ok_number)
    · cases h; exact (lift_ok ok_U8)
    · cases h; exact (lift_ok ok_Text)
    · cases h; exact (lift_ok ok_nGet)
    · cases h; exact (lift_ok ok_clone)
    · cases h; exact (lift_ok ok_put)
    · cases h; exact (lift_ok ok_nPut)
    · cases h) (fun g F h => (by cases h))
theorem fn_NamePuts : FnOk Try.prog 3 Try.f3 (bodyOf Try.f3) := ⟨by kernel_rfl, by kernel_rfl, by kernel_rfl⟩
noncomputable def ff_NamePuts : Fun := ⟨Try.f3.ntmps, 0, Try.f3.results.toList, fun _ => none, fun _ => false, fun i => match i with | 12 => [1] | _ => []⟩
theorem nf_NamePuts (A : KA Kd) (k : List PV → Heap Kd → Prop) (l : List UInt8) (s : ByteArray) : evT L7 ff_NamePuts A k 400 false [.code (bodyOf Try.f3)] (startEnv 96 [.sl _ e_uint8 l, .str s]) [] = (bif decide ((↑l.length : Int) > (50 : Int)) then k [PV.bool true] []
else bif decide ((↑s.size : Int) > (100 : Int)) then k [PV.bool true] [] else (∀ (y : UInt8), y ∈ l → isU8 (e_uint8 y) = true) ∧ ∃ (l_1 : List UInt8), PV.sl UInt8 e_uint8 l = PV.sl UInt8 e_uint8 l_1 ∧ (l_1.length < (1099511627775 : Nat) ∧ s.size < (1099511627775 : Nat)) ∧ bif !rightN s == rightN s then k [PV.bool false] [] else (∀ (y : UInt8), y ∈ l → isU8 (e_uint8 y) = true) ∧ bif !(strPV (List.map e_uint8 l)).toList == (strPV (List.map e_uint8 l)).toList then k [PV.bool false] [] else bif !rightN s then (∀ (y : UInt8), (y ∈ bif rightN s then l_1 ++ UInt8.ofNat s.size :: s.data.toList else l_1) → isU8 (e_uint8 y) = true) ∧ bif (strPV (List.map e_uint8 (bif rightN s then l_1 ++ UInt8.ofNat s.size :: s.data.toList else l_1))).toList == (strPV (List.map e_uint8 l)).toList then bif (bif rightN s then (0 : Int) else (7 : Int)) == (7 : Int) then k [PV.bool true] [] else k [PV.bool false] [] else k [PV.bool false] [] else bif decide ((↑(bif rightN s then l_1 ++ UInt8.ofNat s.size :: s.data.toList else l_1).length : Int) < (↑l.length : Int)) then k [PV.bool false] [] else (∀ (y : UInt8), (y ∈ bif rightN s then l_1 ++ UInt8.ofNat s.size :: s.data.toList else l_1) → (e_uint8 y).cells.length = (TInfo.mk (TD.int IntKind.u8) (1 : Nat) (1 : Nat) [PV.int IntKind.u8 (0 : Int)] false []).size) ∧ ((0 : Int) ≤ (↑l.length : Int) ∧ (↑l.length : Int) ≤ (↑(bif rightN s then l_1 ++ UInt8.ofNat s.size :: s.data.toList else l_1).length : Int) ∧ (↑(bif rightN s then l_1 ++ UInt8.ofNat s.size :: s.data.toList else l_1).length : Int) ≤ (↑(bif rightN s then l_1 ++ UInt8.ofNat s.size :: s.data.toList else l_1).length : Int)) ∧ (∀ (y : UInt8), y ∈ List.drop (↑l.length : Int).toNat (List.take (↑(bif rightN s then l_1 ++ UInt8.ofNat s.size :: s.data.toList else l_1).length : Int).toNat (bif rightN s then l_1 ++ UInt8.ofNat s.size :: s.data.toList else l_1)) → isU8 (e_uint8 y) = true) ∧ ((∀ (y : UInt8), (y ∈ bif rightN s then l_1 ++ UInt8.ofNat s.size :: s.data.toList else l_1) → isU8 (e_uint8 y) = true) ∧ s.size < (256 : Nat) ∧ (strPV (List.map e_uint8 l)).size + (ByteArray.mk #[UInt8.ofNat s.size] ++ s).size ≤ (9223372036854775807 : Nat) ∧ bif (strPV (List.map e_uint8 (bif rightN s then l_1 ++ UInt8.ofNat s.size :: s.data.toList else l_1))).toList == (strPV (List.map e_uint8 l) ++ (ByteArray.mk #[UInt8.ofNat s.size] ++ s)).toList then bif (bif rightN s then (0 : Int) else (7 : Int)) == (0 : Int) then ((0 : Int) ≤ (0 : Int) ∧ (0 : Int) ≤ (↑(strPV (List.map e_uint8 (List.drop (↑l.length : Int).toNat (List.take (↑(bif rightN s then l_1 ++ UInt8.ofNat s.size :: s.data.toList else l_1).length : Int).toNat (bif rightN s then l_1 ++ UInt8.ofNat s.size :: s.data.toList else l_1))))).size : Int) ∧ (strPV (List.map e_uint8 (List.drop (↑l.length : Int).toNat (List.take (↑(bif rightN s then l_1 ++ UInt8.ofNat s.size :: s.data.toList else l_1).length : Int).toNat (bif rightN s then l_1 ++ UInt8.ofNat s.size :: s.data.toList else l_1))))).size < (4611686018427387904 : Nat)) ∧ bif (nmT (strPV (List.map e_uint8 (List.drop (↑l.length : Int).toNat (List.take (↑(bif rightN s then l_1 ++ UInt8.ofNat s.size :: s.data.toList else l_1).length : Int).toNat (bif rightN s then l_1 ++ UInt8.ofNat s.size :: s.data.toList else l_1))))) (0 : Int) (0 : Int) Err.nil).toList == s.toList then ((0 : Int) ≤ nmAt (strPV (List.map e_uint8 (List.drop (↑l.length : Int).toNat (List.take (↑(bif rightN s then l_1 ++ UInt8.ofNat s.size :: s.data.toList else l_1).length : Int).toNat (bif rightN s then l_1 ++ UInt8.ofNat s.size :: s.data.toList else l_1))))) (0 : Int) (0 : Int) Err.nil ∧ nmAt (strPV (List.map e_uint8 (List.drop (↑l.length : Int).toNat (List.take (↑(bif rightN s then l_1 ++ UInt8.ofNat s.size :: s.data.toList else l_1).length : Int).toNat (bif rightN s then l_1 ++ UInt8.ofNat s.size :: s.data.toList else l_1))))) (0 : Int) (0 : Int) Err.nil ≤ (↑(strPV (List.map e_uint8 (List.drop (↑l.length : Int).toNat (List.take (↑(bif rightN s then l_1 ++ UInt8.ofNat s.size :: s.data.toList else l_1).length : Int).toNat (bif rightN s then l_1 ++ UInt8.ofNat s.size :: s.data.toList else l_1))))).size : Int) ∧ (strPV (List.map e_uint8 (List.drop (↑l.length : Int).toNat (List.take (↑(bif rightN s then l_1 ++ UInt8.ofNat s.size :: s.data.toList else l_1).length : Int).toNat (bif rightN s then l_1 ++ UInt8.ofNat s.size :: s.data.toList else l_1))))).size < (4611686018427387904 : Nat)) ∧ bif (↑(strPV (List.map e_uint8 (List.drop (↑l.length : Int).toNat (List.take (↑(bif rightN s then l_1 ++ UInt8.ofNat s.size :: s.data.toList else l_1).length : Int).toNat (bif rightN s then l_1 ++ UInt8.ofNat s.size :: s.data.toList else l_1))))).size : Int) - nmAt (strPV (List.map e_uint8 (List.drop (↑l.length : Int).toNat (List.take (↑(bif rightN s then l_1 ++ UInt8.ofNat s.size :: s.data.toList else l_1).length : Int).toNat (bif rightN s then l_1 ++ UInt8.ofNat s.size :: s.data.toList else l_1))))) (0 : Int) (0 : Int) Err.nil == (0 : Int) then bif (nmE (strPV (List.map e_uint8 (List.drop (↑l.length : Int).toNat (List.take (↑(bif rightN s then l_1 ++ UInt8.ofNat s.size :: s.data.toList else l_1).length : Int).toNat (bif rightN s then l_1 ++ UInt8.ofNat s.size :: s.data.toList else l_1))))) (0 : Int) (0 : Int) Err.nil).isNil then k [PV.bool true] [] else k [PV.bool false] [] else k [PV.bool false] [] else k [PV.bool false] [] else k [PV.bool false] [] else k [PV.bool false] []) ∧ s.size < (256 : Nat) ∧ (strPV (List.map e_uint8 l)).size + (ByteArray.mk #[UInt8.ofNat s.size] ++ s).size ≤ (9223372036854775807 : Nat) ∧ (∀ (y : UInt8), (y ∈ bif rightN s then l_1 ++ UInt8.ofNat s.size :: s.data.toList else l_1) → isU8 (e_uint8 y) = true) ∧ bif (strPV (List.map e_uint8 (bif rightN s then l_1 ++ UInt8.ofNat s.size :: s.data.toList else l_1))).toList == (strPV (List.map e_uint8 l) ++ (ByteArray.mk #[UInt8.ofNat s.size] ++ s)).toList then bif (bif rightN s then (0 : Int) else (7 : Int)) == (0 : Int) then ((0 : Int) ≤ (0 : Int) ∧ (0 : Int) ≤ (↑(strPV (List.map e_uint8 (List.drop (↑l.length : Int).toNat (List.take (↑(bif rightN s then l_1 ++ UInt8.ofNat s.size :: s.data.toList else l_1).length : Int).toNat (bif rightN s then l_1 ++ UInt8.ofNat s.size :: s.data.toList else l_1))))).size : Int) ∧ (strPV (List.map e_uint8 (List.drop (↑l.length : Int).toNat (List.take (↑(bif rightN s then l_1 ++ UInt8.ofNat s.size :: s.data.toList else l_1).length : Int).toNat (bif rightN s then l_1 ++ UInt8.ofNat s.size :: s.data.toList else l_1))))).size < (4611686018427387904 : Nat)) ∧ bif (nmT (strPV (List.map e_uint8 (List.drop (↑l.length : Int).toNat (List.take (↑(bif rightN s then l_1 ++ UInt8.ofNat s.size :: s.data.toList else l_1).length : Int).toNat (bif rightN s then l_1 ++ UInt8.ofNat s.size :: s.data.toList else l_1))))) (0 : Int) (0 : Int) Err.nil).toList == s.toList then ((0 : Int) ≤ nmAt (strPV (List.map e_uint8 (List.drop (↑l.length : Int).toNat (List.take (↑(bif rightN s then l_1 ++ UInt8.ofNat s.size :: s.data.toList else l_1).length : Int).toNat (bif rightN s then l_1 ++ UInt8.ofNat s.size :: s.data.toList else l_1))))) (0 : Int) (0 : Int) Err.nil ∧ nmAt (strPV (List.map e_uint8 (List.drop (↑l.length : Int).toNat (List.take (↑(bif rightN s then l_1 ++ UInt8.ofNat s.size :: s.data.toList else l_1).length : Int).toNat (bif rightN s then l_1 ++ UInt8.ofNat s.size :: s.data.toList else l_1))))) (0 : Int) (0 : Int) Err.nil ≤ (↑(strPV (List.map e_uint8 (List.drop (↑l.length : Int).toNat (List.take (↑(bif rightN s then l_1 ++ UInt8.ofNat s.size :: s.data.toList else l_1).length : Int).toNat (bif rightN s then l_1 ++ UInt8.ofNat s.size :: s.data.toList else l_1))))).size : Int) ∧ (strPV (List.map e_uint8 (List.drop (↑l.length : Int).toNat (List.take (↑(bif rightN s then l_1 ++ UInt8.ofNat s.size :: s.data.toList else l_1).length : Int).toNat (bif rightN s then l_1 ++ UInt8.ofNat s.size :: s.data.toList else l_1))))).size < (4611686018427387904 : Nat)) ∧ bif (↑(strPV (List.map e_uint8 (List.drop (↑l.length : Int).toNat (List.take (↑(bif rightN s then l_1 ++ UInt8.ofNat s.size :: s.data.toList else l_1).length : Int).toNat (bif rightN s then l_1 ++ UInt8.ofNat s.size :: s.data.toList else l_1))))).size : Int) - nmAt (strPV (List.map e_uint8 (List.drop (↑l.length : Int).toNat (List.take (↑(bif rightN s then l_1 ++ UInt8.ofNat s.size :: s.data.toList else l_1).length : Int).toNat (bif rightN s then l_1 ++ UInt8.ofNat s.size :: s.data.toList else l_1))))) (0 : Int) (0 : Int) Err.nil == (0 : Int) then bif (nmE (strPV (List.map e_uint8 (List.drop (↑l.length : Int).toNat (List.take (↑(bif rightN s then l_1 ++ UInt8.ofNat s.size :: s.data.toList else l_1).length : Int).toNat (bif rightN s then l_1 ++ UInt8.ofNat s.size :: s.data.toList else l_1))))) (0 : Int) (0 : Int) Err.nil).isNil then k [PV.bool true] [] else k [PV.bool false] [] else k [PV.bool false] [] else k [PV.bool false] [] else k [PV.bool false] [] else k [PV.bool false] []) := by kernel_rfl
def lawNPS : SpecS := fun ys Φ => match ys with
  | [x_0, .str s] => ∃ (l : List UInt8), x_0 = .sl _ e_uint8 l ∧ Φ [.bool true]
  | _ => False
theorem lawNPS_mono : MonoS lawNPS := by
  intro ys Φ Ψ h hF
  unfold lawNPS at hF ⊢
  split at hF
  · obtain ⟨a0, q0, hk⟩ := hF; exact ⟨a0, q0, h _ hk⟩
  · exact hF.elim
theorem lawNPS_inv {ys : List PV} {Φ : List PV → Prop} (h : lawNPS ys Φ) : ∃ (l : List UInt8) (s : ByteArray), ys = [.sl _ e_uint8 l, .str s] ∧ Φ [.bool true] := by
  unfold lawNPS at h
  split at h
  · obtain ⟨a0, q0, hz⟩ := h
    subst q0
    exact ⟨a0, _, rfl, hz⟩
  · exact h.elim
theorem ok_NP : FunS B 3 lawNPS := by
  refine funS_of (N := 96) (f := ff_NamePuts) env_L7 mixed fn_NamePuts (by kernel_rfl) (by kernel_rfl) (by kernel_rfl) lawNPS_mono ?_
  intro A k ys hA hF
  obtain ⟨l, s, rfl, hk⟩ := lawNPS_inv hF; clear hF
  refine ⟨by kernel_rfl, (hA.nf (nf_NamePuts A k l s) ?_)⟩
  cases h1 : decide ((l.length : Int) > 50) with
  | true => exact hk
  | false =>
  cases h2 : decide ((s.size : Int) > 100) with
  | true => exact hk
  | false =>
  rw [decide_eq_false_iff_not] at h1 h2
  have hu : ∀ (l : List UInt8) (y : UInt8), y ∈ l → isU8 (e_uint8 y) = true := fun _ _ _ => rfl
  refine ⟨hu l, l, rfl, ⟨by omega, by omega⟩, ?_⟩
  cases hR : rightN s with
  | false =>
    simp only [strPV_e, beq_self_eq_true, Bool.not_true, Bool.not_false, cond_true, cond_false]
    exact ⟨hu _, hu _, hk⟩
  | true =>
    have hl := blen s
    have d1 : decide (((l ++ UInt8.ofNat s.size :: s.data.toList).length : Int) < (l.length : Int)) = false := decide_eq_false (by rw [List.length_append]; omega)
    have hd : List.drop l.length (List.take (l ++ UInt8.ofNat s.size :: s.data.toList).length (l ++ UInt8.ofNat s.size :: s.data.toList)) = UInt8.ofNat s.size :: s.data.toList := by
      rw [List.take_length, List.drop_left]
    have he : ByteArray.mk (l ++ UInt8.ofNat s.size :: s.data.toList).toArray = ByteArray.mk l.toArray ++ (ByteArray.mk #[UInt8.ofNat s.size] ++ s) := by
      apply ByteArray.ext; apply Array.ext'; simp
    obtain ⟨n1, n2, n3⟩ := get_name s hR
    have hz : (ByteArray.mk (UInt8.ofNat s.size :: s.data.toList).toArray).size = s.size + 1 := by rw [mk_size, List.length_cons, hl]
    have hz2 : (ByteArray.mk #[UInt8.ofNat s.size] ++ s).size = s.size + 1 := by rw [ByteArray.size_append]; show 1 + s.size = _; omega
    have e0 : Err.nil.isNil = true := rfl
    simp only [cond_true]
    simp only [d1, Int.toNat_natCast, hd, strPV_e, n1, n2, n3, hz, he, beq_self_eq_true, Bool.not_true, cond_true, cond_false, Int.sub_self, e0]
    have hb : (0 : Int) ≤ 0 ∧ (0 : Int) ≤ ((s.size + 1 : Nat) : Int) ∧ s.size + 1 < 4611686018427387904 := ⟨Int.le_refl _, by omega, by omega⟩
    have hb2 : (0 : Int) ≤ ((s.size + 1 : Nat) : Int) ∧ ((s.size + 1 : Nat) : Int) ≤ ((s.size + 1 : Nat) : Int) ∧ s.size + 1 < 4611686018427387904 := ⟨by omega, by omega, by omega⟩
    have hs1 : s.size < 256 := by omega
    have hs2 : (ByteArray.mk l.toArray).size + (ByteArray.mk #[UInt8.ofNat s.size] ++ s).size ≤ 9223372036854775807 := by rw [hz2, mk_size]; omega
    have hs3 : (0 : Int) ≤ (l.length : Int) ∧ (l.length : Int) ≤ ((l ++ UInt8.ofNat s.size :: s.data.toList).length : Int) ∧ ((l ++ UInt8.ofNat s.size :: s.data.toList).length : Int) ≤ ((l ++ UInt8.ofNat s.size :: s.data.toList).length : Int) := by
      rw [List.length_append]; refine ⟨by omega, by omega, by omega⟩
    exact ⟨hu _, fun _ _ => rfl, hs3, hu _, ⟨hu _, hs1, hs2, hb, hb2, hk⟩, hs1, hs2, hu _, hb, hb2, hk⟩
theorem pre_NamePuts (l : List UInt8) (s : ByteArray) (_ : g_o22 l) (_ : g_o9 s) : lawNPS [a_o22 l, a_o9 s] fun rs => rs = [.bool true] :=
  ⟨_, rfl, rfl⟩
end Go.Ab.T
