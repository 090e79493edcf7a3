import Derived.Test.YtiemgkjmifpfcaaReader
import Derived.Test.YtiemgkjmifpfcaaName0
import Derived.Test.YtiemgkjmifpfcaaNameGet
import Derived.Test.YtiemgkjmifpfcaaMaB
set_option linter.unusedVariables false
set_option linter.unusedSimpArgs false
namespace Go.Ab.T
open Go Go.Ab Go.Proofs
set_option maxRecDepth 100000
set_option maxHeartbeats 4000000
noncomputable def P0 := base (fun g => match g with | 68 => some (lift 0 namesF) | 67 => some (lift 0 namesF) | 11 => some (lift 0 NewS) | 71 => some (lift 1 FailS) | 44 => some (lift 1 NeedS) | 15 => some (lift 1 ErrS) | 70 => some (lift 1 numberS) | 43 => some (lift 1 U8S) | 45 => some (lift 1 TextS) | 13 => some (lift 1 nGetS) | _ => none) (fun g => match g with | 36 => some nameS | 37 => some nameS | 65 => some newS | 64 => some atS | 63 => some inS | 78 => some sizeS | 79 => some getS | 42 => some PlaceS | 14 => some LeftS | 40 => some mayS | 41 => some letS | 9 => some rightS | 10 => some rightS | _ => none) (fun _ => none)
theorem env_P0 : EnvOk P0 := env_of (by
    intro g F h
    split at h
    · cases h; exact ok_Name
    · cases h; exact ok_rName
    · cases h; exact ok_New
    · cases h; exact ok_At
    · cases h; exact ok_In
    · cases h; exact ok_size
    · cases h; exact ok_Get
    · cases h; exact ok_Place
    · cases h; exact ok_Left
    · cases h; exact ok_may
    · cases h; exact ok_letter
    · cases h; exact ok_right
    · cases h; exact ok_rright
    · cases h) (by
    intro g F h
    split at h
    · cases h; exact (lift_ok ok_rnames)
    · cases h; exact (lift_ok ok_names)
    · cases h; exact (lift_ok ok_rNew)
    · cases h; exact (lift_ok ok_Fail)
    · cases h; exact (lift_ok ok_Need)
    · cases h; exact (lift_ok ok_rErr)
    · cases h; exact (lift_ok ok_number)
    · cases h; exact (lift_ok ok_U8)
    · cases h; exact (lift_ok ok_Text)
    · cases h; exact (lift_ok ok_nGet)
    · cases h) (fun g F h => (by cases h))
def cloneS : List PV → Heap Kd → (List PV → Heap Kd → Prop) → Prop := fun ys L k => match ys, L with
  | [x_0], [] => ∃ (l : List UInt8), x_0 = .sl _ e_uint8 l ∧ (l.length < 1099511627776) ∧ k [.own 0] [.row 5 l]
  | _, _ => False
theorem cloneS_inv {ys : List PV} {L : Heap Kd} {k : List PV → Heap Kd → Prop} (h : cloneS ys L k) : ∃ (l : List UInt8), ys = [.sl _ e_uint8 l] ∧ L = [] ∧ (l.length < 1099511627776) ∧ k [.own 0] [.row 5 l] := by
  unfold cloneS at h
  split at h
  · obtain ⟨a0, q0, hz⟩ := h
    subst q0
    exact ⟨a0, rfl, rfl, hz⟩
  · exact h.elim
theorem fn_clone : FnOk Try.prog 38 Try.f38 (bodyOf Try.f38) := ⟨by kernel_rfl, by kernel_rfl, by kernel_rfl⟩
noncomputable def ff_clone : Fun := ⟨Try.f38.ntmps, 0, Try.f38.results.toList, fun _ => none, fun _ => false, fun _ => []⟩
theorem nf_clone (A : KA Kd) (k : List PV → Heap Kd → Prop) (l : List UInt8) : evT P0 ff_clone A k 400 false [.code (bodyOf Try.f38)] (startEnv 8 [.sl _ e_uint8 l]) [] = (∀ (b : Bool), (l ≠ [] → b = false) → bif b then k [PV.own (0 : Nat)] [AObj.row (5 : Nat) []] else ∃ (zs : List UInt8), List.map e_uint8 zs = [] ∧ ∃ (ys : List UInt8), List.map e_uint8 ys = List.map e_uint8 l ∧ (zs.length + ys.length) * (TInfo.mk (TD.int IntKind.u8) (1 : Nat) (1 : Nat) [PV.int IntKind.u8 (0 : Int)] false []).bytes ≤ (140737488355328 : Nat) ∧ k [PV.own (0 : Nat)] [AObj.row (5 : Nat) (zs ++ ys)]) := by kernel_rfl
theorem ok_clone : FunF B 38 0 cloneS := by
  refine funF_of (N := 8) (f := ff_clone) env_P0 mixed fn_clone (by kernel_rfl) (by kernel_rfl) ?_
  intro A k ys L hA hF
  obtain ⟨l, rfl, rfl, h1, hk⟩ := cloneS_inv hF; clear hF
  refine ⟨by kernel_rfl, (hA.nf (nf_clone A k l) ?_)⟩
  intro b hb
  cases b with
  | false => exact ⟨[], rfl, l, rfl, by show (0 + l.length) * 1 ≤ _; omega, hk⟩
  | true =>
    cases l with
    | nil => exact hk
    | cons x r => exact absurd (hb (by simp)) (by simp)
def fitsS : SpecS := fun ys Φ => match ys with
  | [.int .u64 v, .int .i64 n] => (n = 1 ∧ 0 ≤ v ∧ v < 256) ∧ Φ [.bool true]
  | _ => False
theorem fitsS_mono : MonoS fitsS := by
  intro ys Φ Ψ h hF
  unfold fitsS at hF ⊢
  split at hF
  · obtain ⟨hp, hk⟩ := hF; exact ⟨hp, h _ hk⟩
  · exact hF.elim
theorem fitsS_inv {ys : List PV} {Φ : List PV → Prop} (h : fitsS ys Φ) : ∃ (v : Int) (n : Int), ys = [.int .u64 v, .int .i64 n] ∧ (n = 1 ∧ 0 ≤ v ∧ v < 256) ∧ Φ [.bool true] := by
  unfold fitsS at h
  split at h
  · exact ⟨_, _, rfl, h⟩
  · exact h.elim
theorem fn_fits : FnOk Try.prog 69 Try.f69 (bodyOf Try.f69) := ⟨by kernel_rfl, by kernel_rfl, by kernel_rfl⟩
noncomputable def ff_fits : Fun := ⟨Try.f69.ntmps, 0, Try.f69.results.toList, fun _ => none, fun _ => false, fun _ => []⟩
theorem nf_fits (A : KA Kd) (k : List PV → Heap Kd → Prop) (v : Int) : evT P0 ff_fits A k 400 false [.code (bodyOf Try.f69)] (startEnv 23 [.int .u64 v, .int .i64 1]) [] = ((0 : Int) ≤ sizeB (1 : Int) ∧ k [PV.bool (v.fdiv ((2 : Int) ^ min (sizeB (1 : Int)).toNat IntKind.u64.bits) == (0 : Int))] []) := by kernel_rfl
theorem ok_fits : FunS B 69 fitsS := by
  refine funS_of (N := 23) (f := ff_fits) env_P0 mixed fn_fits (by kernel_rfl) (by kernel_rfl) (by kernel_rfl) fitsS_mono ?_
  intro A k ys hA hF
  obtain ⟨v, n, rfl, ⟨rfl, h0, h1⟩, hk⟩ := fitsS_inv hF; clear hF
  refine ⟨by kernel_rfl, (hA.nf (nf_fits A k v) ?_)⟩
  have e : ((2 : Int) ^ min (sizeB (1 : Int)).toNat IntKind.u64.bits) = 256 := by decide
  have e2 : v.fdiv 256 = 0 := by rw [Int.fdiv_eq_ediv_of_nonneg v (by omega)]; omega
  rw [e, e2]
  exact ⟨by decide, hk⟩
def rTxtS : SpecS := fun ys Φ => match ys with
  | [.str s] => (s.size < 256) ∧ Φ [.str (⟨#[UInt8.ofNat s.size]⟩ ++ s)]
  | _ => False
theorem rTxtS_mono : MonoS rTxtS := by
  intro ys Φ Ψ h hF
  unfold rTxtS at hF ⊢
  split at hF
  · obtain ⟨hp, hk⟩ := hF; exact ⟨hp, h _ hk⟩
  · exact hF.elim
theorem rTxtS_inv {ys : List PV} {Φ : List PV → Prop} (h : rTxtS ys Φ) : ∃ (s : ByteArray), ys = [.str s] ∧ (s.size < 256) ∧ Φ [.str (⟨#[UInt8.ofNat s.size]⟩ ++ s)] := by
  unfold rTxtS at h
  split at h
  · exact ⟨_, rfl, h⟩
  · exact h.elim
theorem fn_rTxt : FnOk Try.prog 12 Try.f12 (bodyOf Try.f12) := ⟨by kernel_rfl, by kernel_rfl, by kernel_rfl⟩
noncomputable def ff_rTxt : Fun := ⟨Try.f12.ntmps, 0, Try.f12.results.toList, fun _ => none, fun _ => false, fun _ => []⟩
theorem nf_rTxt (A : KA Kd) (k : List PV → Heap Kd → Prop) (s : ByteArray) : evT P0 ff_rTxt A k 400 false [.code (bodyOf Try.f12)] (startEnv 10 [.str s]) [] = (∃ (zs : List UInt8), List.map e_uint8 zs = [PV.int IntKind.u8 (IntKind.u8.wrap (↑s.size : Int))] ∧ (∀ (y : UInt8), y ∈ zs → isU8 (e_uint8 y) = true) ∧ (strPV (List.map e_uint8 zs)).size + s.size ≤ (9223372036854775807 : Nat) ∧ k [PV.str (strPV (List.map e_uint8 zs) ++ s)] []) := by kernel_rfl
theorem ok_rTxt : FunS B 12 rTxtS := by
  refine funS_of (N := 10) (f := ff_rTxt) env_P0 mixed fn_rTxt (by kernel_rfl) (by kernel_rfl) (by kernel_rfl) rTxtS_mono ?_
  intro A k ys hA hF
  obtain ⟨s, rfl, h0, hk⟩ := rTxtS_inv hF; clear hF
  refine ⟨by kernel_rfl, (hA.nf (nf_rTxt A k s) ?_)⟩
  have hb2 : (UInt8.ofNat s.size).toNat = s.size := by rw [UInt8.toNat_ofNat']; omega
  refine ⟨[UInt8.ofNat s.size], ?_, fun y _ => rfl, ?_, ?_⟩
  · show [PV.int .u8 (((UInt8.ofNat s.size).toNat : Nat) : Int)] = _
    rw [hb2, u8_id _ (by omega) (by omega)]
  · rw [strPV_e, mk_size]; show 1 + s.size ≤ _; omega
  · rw [strPV_e]; exact hk
noncomputable def P1 := base (fun g => match g with | 68 => some (lift 0 namesF) | 67 => some (lift 0 namesF) | 11 => some (lift 0 NewS) | 71 => some (lift 1 FailS) | 44 => some (lift 1 NeedS) | 15 => some (lift 1 ErrS) | 70 => some (lift 1 numberS) | 43 => some (lift 1 U8S) | 45 => some (lift 1 TextS) | 13 => some (lift 1 nGetS) | 38 => some (lift 0 cloneS) | _ => none) (fun g => match g with | 36 => some nameS | 37 => some nameS | 65 => some newS | 64 => some atS | 63 => some inS | 78 => some sizeS | 79 => some getS | 42 => some PlaceS | 14 => some LeftS | 40 => some mayS | 41 => some letS | 9 => some rightS | 10 => some rightS | 69 => some fitsS | 12 => some rTxtS | _ => none) (fun _ => none)
theorem env_P1 : EnvOk P1 := env_of (by
    intro g F h
    split at h
    · cases h; exact ok_Name
    · cases h; exact ok_rName
    · cases h; exact ok_New
    · cases h; exact ok_At
    · cases h; exact ok_In
    · cases h; exact ok_size
    · cases h; exact ok_Get
    · cases h; exact ok_Place
    · cases h; exact ok_Left
    · cases h; exact ok_may
    · cases h; exact ok_letter
    · cases h; exact ok_right
    · cases h; exact ok_rright
    · cases h; exact ok_fits
    · cases h; exact ok_rTxt
    · cases h) (by
    intro g F h
    split at h
    · cases h; exact (lift_ok ok_rnames)
    · cases h; exact (lift_ok ok_names)
    · cases h; exact (lift_ok ok_rNew)
    · cases h; exact (lift_ok ok_Fail)
    · cases h; exact (lift_ok ok_Need)
    · cases h; exact (lift_ok ok_rErr)
    · cases h; exact (lift_ok ok_number)
    · cases h; exact (lift_ok ok_U8)
    · cases h; exact (lift_ok ok_Text)
    · cases h; exact (lift_ok ok_nGet)
    · cases h; exact (lift_ok ok_clone)
    · cases h) (fun g F h => (by cases h))
def putS : List PV → Heap Kd → (List PV → Heap Kd → Prop) → Prop := fun ys L k => match ys, L with
  | [x_0, .int .u64 v, .int .i64 n], [] => ∃ (l : List UInt8), x_0 = .sl _ e_uint8 l ∧ (n = 1 ∧ 0 ≤ v ∧ v < 256 ∧ l.length < 1099511627776) ∧ k [.own 0, .bool true] [.row 5 (l ++ [UInt8.ofNat v.toNat])]
  | _, _ => False
theorem putS_inv {ys : List PV} {L : Heap Kd} {k : List PV → Heap Kd → Prop} (h : putS ys L k) : ∃ (l : List UInt8) (v : Int) (n : Int), ys = [.sl _ e_uint8 l, .int .u64 v, .int .i64 n] ∧ L = [] ∧ (n = 1 ∧ 0 ≤ v ∧ v < 256 ∧ l.length < 1099511627776) ∧ k [.own 0, .bool true] [.row 5 (l ++ [UInt8.ofNat v.toNat])] := by
  unfold putS at h
  split at h
  · obtain ⟨a0, q0, hz⟩ := h
    subst q0
    exact ⟨a0, _, _, rfl, rfl, hz⟩
  · exact h.elim
theorem fn_put : FnOk Try.prog 39 Try.f39 (bodyOf Try.f39) := ⟨by kernel_rfl, by kernel_rfl, by kernel_rfl⟩
noncomputable def ff_put : Fun := ⟨Try.f39.ntmps, 0, Try.f39.results.toList, fun i => match i with | 5 => some [1, 8, 9] | _ => none, fun _ => false, fun _ => []⟩
theorem nf_put_a (A : KA Kd) (k : List PV → Heap Kd → Prop) (l : List UInt8) (v : Int) : evT P1 ff_put A k 400 false [.code (bodyOf Try.f39)] (startEnv 32 [.sl _ e_uint8 l, .int .u64 v, .int .i64 1]) [] = (∃ (l_1 : List UInt8), PV.sl UInt8 e_uint8 l = PV.sl UInt8 e_uint8 l_1 ∧ l_1.length < (1099511627776 : Nat) ∧ ((1 : Int) = (1 : Int) ∧ (0 : Int) ≤ v ∧ v < (256 : Int)) ∧ A (td Try.f39 (5 : Nat)) (envAt (32 : Nat) [((1 : Nat), PV.int IntKind.u64 v), ((8 : Nat), PV.own (0 : Nat)), ((9 : Nat), PV.int IntKind.i64 (IntKind.i64.wrap ((1 : Int) - (1 : Int))))]) [AObj.row (5 : Nat) l_1]) := by kernel_rfl
theorem nf_put_b (A : KA Kd) (k : List PV → Heap Kd → Prop) (l : List UInt8) (v : Int) : evT P1 ff_put A k 400 true (td Try.f39 5) (envAt 32 [(1, .int .u64 v), (8, .own 0), (9, .int .i64 0)]) [.row 5 l] = ((0 : Int) ≤ IntKind.i64.wrap ((8 : Int) * (0 : Int)) ∧ ∃ (zs : List UInt8), List.map e_uint8 zs = [PV.int IntKind.u8 (IntKind.u8.wrap (v.fdiv ((2 : Int) ^ min (IntKind.i64.wrap ((8 : Int) * (0 : Int))).toNat IntKind.u64.bits)))] ∧ (l.length + (zs).length) * (TInfo.mk (TD.int IntKind.u8) (1 : Nat) (1 : Nat) [PV.int IntKind.u8 (0 : Int)] false []).bytes ≤ (140737488355328 : Nat) ∧ A (td Try.f39 (5 : Nat)) (envAt (32 : Nat) [((1 : Nat), PV.int IntKind.u64 v), ((8 : Nat), PV.own (0 : Nat)), ((9 : Nat), PV.int IntKind.i64 (IntKind.i64.wrap ((0 : Int) - (1 : Int))))]) [AObj.row (5 : Nat) (l ++ zs)]) := by kernel_rfl
theorem nf_put_c (A : KA Kd) (k : List PV → Heap Kd → Prop) (l : List UInt8) (v : Int) : evT P1 ff_put A k 400 true (td Try.f39 5) (envAt 32 [(1, .int .u64 v), (8, .own 0), (9, .int .i64 (-1))]) [.row 5 l] = (k [PV.own (0 : Nat), PV.bool true] [AObj.row (5 : Nat) l]) := by kernel_rfl
theorem ok_put : FunF B 39 0 putS := by
  refine funF_of (N := 32) (f := ff_put) env_P1 mixed fn_put (by kernel_rfl) (by kernel_rfl) ?_
  intro A k ys L hA hF
  obtain ⟨l, v, n, rfl, rfl, ⟨rfl, h0, h1, h2⟩, hk⟩ := putS_inv hF; clear hF
  refine ⟨by kernel_rfl, (hA.nf (nf_put_a A k l v) ?_)⟩
  refine ⟨l, rfl, h2, ⟨rfl, h0, h1⟩, ?_⟩
  have w0 : IntKind.i64.wrap ((1 : Int) - 1) = 0 := by decide
  have w1 : IntKind.i64.wrap ((0 : Int) - 1) = -1 := by decide
  rw [w0]
  refine (hA.nf (nf_put_b A k l v) ?_)
  have e : ((2 : Int) ^ min (IntKind.i64.wrap ((8 : Int) * 0)).toNat IntKind.u64.bits) = 1 := by decide
  have e2 : v.fdiv 1 = v := by rw [Int.fdiv_eq_ediv_of_nonneg v (by omega)]; omega
  have hb2 : (UInt8.ofNat v.toNat).toNat = v.toNat := by rw [UInt8.toNat_ofNat']; omega
  rw [e, e2, w1, u8_id v h0 h1]
  refine ⟨by decide, [UInt8.ofNat v.toNat], ?_, by show (l.length + 1) * 1 ≤ _; omega, ?_⟩
  · show [PV.int .u8 (((UInt8.ofNat v.toNat).toNat : Nat) : Int)] = _
    rw [hb2, Int.toNat_of_nonneg h0]
  · exact (hA.nf (nf_put_c A k (l ++ [UInt8.ofNat v.toNat]) v) hk)
noncomputable def P2 := base (fun g => match g with | 68 => some (lift 0 namesF) | 67 => some (lift 0 namesF) | 11 => some (lift 0 NewS) | 71 => some (lift 1 FailS) | 44 => some (lift 1 NeedS) | 15 => some (lift 1 ErrS) | 70 => some (lift 1 numberS) | 43 => some (lift 1 U8S) | 45 => some (lift 1 TextS) | 13 => some (lift 1 nGetS) | 38 => some (lift 0 cloneS) | 39 => some (lift 0 putS) | _ => none) (fun g => match g with | 36 => some nameS | 37 => some nameS | 65 => some newS | 64 => some atS | 63 => some inS | 78 => some sizeS | 79 => some getS | 42 => some PlaceS | 14 => some LeftS | 40 => some mayS | 41 => some letS | 9 => some rightS | 10 => some rightS | 69 => some fitsS | 12 => some rTxtS | _ => none) (fun _ => none)
theorem env_P2 : EnvOk P2 := env_of (by
    intro g F h
    split at h
    · cases h; exact ok_Name
    · cases h; exact ok_rName
    · cases h; exact ok_New
    · cases h; exact ok_At
    · cases h; exact ok_In
    · cases h; exact ok_size
    · cases h; exact ok_Get
    · cases h; exact ok_Place
    · cases h; exact ok_Left
    · cases h; exact ok_may
    · cases h; exact ok_letter
    · cases h; exact ok_right
    · cases h; exact ok_rright
    · cases h; exact ok_fits
    · cases h; exact ok_rTxt
    · cases h) (by
    intro g F h
    split at h
    · cases h; exact (lift_ok ok_rnames)
    · cases h; exact (lift_ok ok_names)
    · cases h; exact (lift_ok ok_rNew)
    · cases h; exact (lift_ok ok_Fail)
    · cases h; exact (lift_ok ok_Need)
    · cases h; exact (lift_ok ok_rErr)
    · cases h; exact (lift_ok ok_number)
    · cases h; exact (lift_ok ok_U8)
    · cases h; exact (lift_ok ok_Text)
    · cases h; exact (lift_ok ok_nGet)
    · cases h; exact (lift_ok ok_clone)
    · cases h; exact (lift_ok ok_put)
    · cases h) (fun g F h => (by cases h))
def nPutS : List PV → Heap Kd → (List PV → Heap Kd → Prop) → Prop := fun ys L k => match ys, L with
  | [x_0, .str s], [] => ∃ (l : List UInt8), x_0 = .sl _ e_uint8 l ∧ (l.length < 1099511627775 ∧ s.size < 1099511627775) ∧ k [.own 0, .int .i64 (bif rightN s then 0 else 7)] [.row 5 (bif rightN s then l ++ (UInt8.ofNat s.size :: s.data.toList) else l)]
  | _, _ => False
theorem nPutS_inv {ys : List PV} {L : Heap Kd} {k : List PV → Heap Kd → Prop} (h : nPutS ys L k) : ∃ (l : List UInt8) (s : ByteArray), ys = [.sl _ e_uint8 l, .str s] ∧ L = [] ∧ (l.length < 1099511627775 ∧ s.size < 1099511627775) ∧ k [.own 0, .int .i64 (bif rightN s then 0 else 7)] [.row 5 (bif rightN s then l ++ (UInt8.ofNat s.size :: s.data.toList) else l)] := by
  unfold nPutS at h
  split at h
  · obtain ⟨a0, q0, hz⟩ := h
    subst q0
    exact ⟨a0, _, rfl, rfl, hz⟩
  · exact h.elim
theorem fn_nPut : FnOk Try.prog 8 Try.f8 (bodyOf Try.f8) := ⟨by kernel_rfl, by kernel_rfl, by kernel_rfl⟩
noncomputable def ff_nPut : Fun := ⟨Try.f8.ntmps, 0, Try.f8.results.toList, fun _ => none, fun _ => false, fun _ => []⟩
theorem nf_nPut (A : KA Kd) (k : List PV → Heap Kd → Prop) (l : List UInt8) (s : ByteArray) : evT P2 ff_nPut A k 400 false [.code (bodyOf Try.f8)] (startEnv 24 [.sl _ e_uint8 l, .str s]) [] = (bif !rightN s then ∃ (l_1 : List UInt8), PV.sl UInt8 e_uint8 l = PV.sl UInt8 e_uint8 l_1 ∧ l_1.length < (1099511627776 : Nat) ∧ k [PV.own (0 : Nat), PV.int IntKind.i64 (7 : Int)] [AObj.row (5 : Nat) l_1]
else ∃ (l_1 : List UInt8), PV.sl UInt8 e_uint8 l = PV.sl UInt8 e_uint8 l_1 ∧ ((1 : Int) = (1 : Int) ∧ (0 : Int) ≤ IntKind.u64.wrap (↑s.size : Int) ∧ IntKind.u64.wrap (↑s.size : Int) < (256 : Int) ∧ l_1.length < (1099511627776 : Nat)) ∧ ∃ (ys : List UInt8), List.map e_uint8 ys = bytesPV s ∧ ((l_1 ++ [UInt8.ofNat (IntKind.u64.wrap (↑s.size : Int)).toNat]).length + ys.length) * (TInfo.mk (TD.int IntKind.u8) (1 : Nat) (1 : Nat) [PV.int IntKind.u8 (0 : Int)] false []).bytes ≤ (140737488355328 : Nat) ∧ k [PV.own (0 : Nat), PV.int IntKind.i64 (0 : Int)] [AObj.row (5 : Nat) ((l_1 ++ [UInt8.ofNat (IntKind.u64.wrap (↑s.size : Int)).toNat]) ++ ys)]) := by kernel_rfl
theorem ok_nPut : FunF B 8 0 nPutS := by
  refine funF_of (N := 24) (f := ff_nPut) env_P2 mixed fn_nPut (by kernel_rfl) (by kernel_rfl) ?_
  intro A k ys L hA hF
  obtain ⟨l, s, rfl, rfl, ⟨h0, h1⟩, hk⟩ := nPutS_inv hF; clear hF
  refine ⟨by kernel_rfl, (hA.nf (nf_nPut A k l s) ?_)⟩
  cases h : rightN s with
  | false =>
    rw [h] at hk
    exact ⟨l, rfl, by omega, hk⟩
  | true =>
    rw [h] at hk
    have hr := h
    simp only [rightN, Bool.and_eq_true, decide_eq_true_eq] at hr
    have hl := blen s
    have hz : IntKind.u64.wrap (s.size : Int) = (s.size : Int) := u64_id _ (by omega) (by omega)
    refine ⟨l, rfl, ⟨rfl, by rw [hz]; omega, by rw [hz]; omega, by omega⟩, s.data.toList, rfl, ?_, ?_⟩
    · show ((l ++ [_]).length + s.data.toList.length) * 1 ≤ _
      rw [List.length_append, List.length_singleton]; omega
    · rw [hz, Int.toNat_natCast, List.append_assoc]
      exact hk
end Go.Ab.T
