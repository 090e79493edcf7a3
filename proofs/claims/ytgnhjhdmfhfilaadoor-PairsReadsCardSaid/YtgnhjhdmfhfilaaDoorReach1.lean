import Derived.Test.YtgnhjhdmfhfilaaDoorPairs1
import Derived.Test.YtgnhjhdmfhfilaaDoorMaB
set_option linter.unusedVariables false
set_option linter.unusedSimpArgs false
namespace Go.Ab.T
open Go Go.Ab Go.Proofs
set_option maxRecDepth 100000
set_option maxHeartbeats 4000000
noncomputable def RE0 := base (fun g => match g with | 133 => some (lift 0 namesF) | 106 => some (lift 0 namesF) | 62 => some (lift 0 cloneS) | 63 => some (eitherOwn (lift 1 putIS) (lift 0 putS)) | 33 => some (lift 0 NewS) | 73 => some (lift 1 EnterS) | 101 => some (lift 1 FailS) | 76 => some (lift 1 NeedS) | 74 => some (lift 1 ErrS) | 100 => some (lift 1 numberS) | 75 => some (lift 1 U8S) | _ => none) (fun g => match g with | 83 => some nameS | 103 => some nameS | 48 => some newS | 50 => some atS | 71 => some inS | 89 => some sizeS | 132 => some rSizeS | 58 => some getS | 102 => some getS | 61 => some fitsS | 23 => some ofS | 39 => some PlaceS | 37 => some LeftS | 80 => some nanS | 43 => some cmpIS | 42 => some orS | 99 => some cmpPS | 69 => some idS | 72 => some ltPS | 70 => some ltPS | _ => none) (fun _ => none)
theorem env_RE0 : EnvOk RE0 := env_of (by
    intro g F h
    split at h
    · cases h; exact ok_Name
    · cases h; exact ok_rName
    · cases h; exact ok_New
    · cases h; exact ok_At
    · cases h; exact ok_In
    · cases h; exact ok_size
    · cases h; exact ok_rSize
    · cases h; exact ok_Get
    · cases h; exact ok_rGet
    · cases h; exact ok_fits
    · cases h; exact of_ok
    · cases h; exact ok_Place
    · cases h; exact ok_Left
    · cases h; exact ok_nanI
    · cases h; exact ok_cmpI
    · cases h; exact ok_orF
    · cases h; exact ok_cmpP
    · cases h; exact ok_prRight
    · cases h; exact ok_rLess10
    · cases h; exact ok_less10
    · cases h) (by
    intro g F h
    split at h
    · cases h; exact (lift_ok ok_rnames)
    · cases h; exact (lift_ok ok_names)
    · cases h; exact (lift_ok ok_clone)
    · cases h; exact (eitherOwn_ok (lift_ok ok_putI) (lift_ok ok_put))
    · cases h; exact (lift_ok ok_rNew)
    · cases h; exact (lift_ok ok_Enter)
    · cases h; exact (lift_ok ok_Fail)
    · cases h; exact (lift_ok ok_Need)
    · cases h; exact (lift_ok ok_rErr)
    · cases h; exact (lift_ok ok_number)
    · cases h; exact (lift_ok ok_U8)
    · cases h) (fun g F h => (by cases h))
def len64S : SpecS := fun ys Φ => match ys with
  | [.int .u64 n] => (n = 0 ∨ n = 1) ∧ Φ [.int .i64 n]
  | _ => False
theorem len64S_mono : MonoS len64S := by
  intro ys Φ Ψ h hF
  unfold len64S at hF ⊢
  split at hF
  · obtain ⟨hp, hk⟩ := hF; exact ⟨hp, h _ hk⟩
  · exact hF.elim
theorem len64S_inv {ys : List PV} {Φ : List PV → Prop} (h : len64S ys Φ) : ∃ (n : Int), ys = [.int .u64 n] ∧ (n = 0 ∨ n = 1) ∧ Φ [.int .i64 n] := by
  unfold len64S at h
  split at h
  · exact ⟨_, rfl, h⟩
  · exact h.elim
theorem fn_len64 : FnOk Tryd.prog 125 Tryd.f125 (bodyOf Tryd.f125) := ⟨by kernel_rfl, by kernel_rfl, by kernel_rfl⟩
noncomputable def ff_len64 : Fun := ⟨Tryd.f125.ntmps, 0, Tryd.f125.results.toList, fun _ => none, fun _ => false, fun _ => []⟩
theorem nf_len64 (A : KA Kd) (k : List PV → Heap Kd → Prop) (n : Int) : evT RE0 ff_len64 A k 400 false [.code (bodyOf Tryd.f125)] (startEnv 25 [.int .u64 n]) [] = (bif decide (n ≥ (4294967296 : Int)) then (0 : Int) ≤ (32 : Int) ∧ bif decide (n.fdiv ((2 : Int) ^ min (Int.toNat (32 : Int)) IntKind.u64.bits) ≥ (65536 : Int)) then (0 : Int) ≤ (16 : Int) ∧ bif decide ((n.fdiv ((2 : Int) ^ min (Int.toNat (32 : Int)) IntKind.u64.bits)).fdiv ((2 : Int) ^ min (Int.toNat (16 : Int)) IntKind.u64.bits) ≥ (256 : Int)) then (0 : Int) ≤ (8 : Int) ∧ ((0 : Int) ≤ IntKind.u8.wrap (((n.fdiv ((2 : Int) ^ min (Int.toNat (32 : Int)) IntKind.u64.bits)).fdiv ((2 : Int) ^ min (Int.toNat (16 : Int)) IntKind.u64.bits)).fdiv ((2 : Int) ^ min (Int.toNat (8 : Int)) IntKind.u64.bits)) ∧ IntKind.u8.wrap (((n.fdiv ((2 : Int) ^ min (Int.toNat (32 : Int)) IntKind.u64.bits)).fdiv ((2 : Int) ^ min (Int.toNat (16 : Int)) IntKind.u64.bits)).fdiv ((2 : Int) ^ min (Int.toNat (8 : Int)) IntKind.u64.bits)) < (↑(ByteArray.mk (([(0 : UInt8), (1 : UInt8), (2 : UInt8), (2 : UInt8), (3 : UInt8), (3 : UInt8), (3 : UInt8), (3 : UInt8), (4 : UInt8), (4 : UInt8), (4 : UInt8), (4 : UInt8), (4 : UInt8), (4 : UInt8), (4 : UInt8), (4 : UInt8), (5 : UInt8), (5 : UInt8), (5 : UInt8), (5 : UInt8), (5 : UInt8), (5 : UInt8), (5 : UInt8), (5 : UInt8), (5 : UInt8), (5 : UInt8), (5 : UInt8), (5 : UInt8), (5 : UInt8), (5 : UInt8), (5 : UInt8), (5 : UInt8), (6 : UInt8), (6 : UInt8), (6 : UInt8), (6 : UInt8), (6 : UInt8), (6 : UInt8), (6 : UInt8), (6 : UInt8), (6 : UInt8), (6 : UInt8), (6 : UInt8), (6 : UInt8), (6 : UInt8), (6 : UInt8), (6 : UInt8), (6 : UInt8), (6 : UInt8), (6 : UInt8), (6 : UInt8), (6 : UInt8), (6 : UInt8), (6 : UInt8), (6 : UInt8), (6 : UInt8), (6 : UInt8), (6 : UInt8), (6 : UInt8), (6 : UInt8), (6 : UInt8), (6 : UInt8), (6 : UInt8), (6 : UInt8)].append [(7 : UInt8), (7 : UInt8), (7 : UInt8), (7 : UInt8), (7 : UInt8), (7 : UInt8), (7 : UInt8), (7 : UInt8), (7 : UInt8), (7 : UInt8), (7 : UInt8), (7 : UInt8), (7 : UInt8), (7 : UInt8), (7 : UInt8), (7 : UInt8), (7 : UInt8), (7 : UInt8), (7 : UInt8), (7 : UInt8), (7 : UInt8), (7 : UInt8), (7 : UInt8), (7 : UInt8), (7 : UInt8), (7 : UInt8), (7 : UInt8), (7 : UInt8), (7 : UInt8), (7 : UInt8), (7 : UInt8), (7 : UInt8), (7 : UInt8), (7 : UInt8), (7 : UInt8), (7 : UInt8), (7 : UInt8), (7 : UInt8), (7 : UInt8), (7 : UInt8), (7 : UInt8), (7 : UInt8), (7 : UInt8), (7 : UInt8), (7 : UInt8), (7 : UInt8), (7 : UInt8), (7 : UInt8), (7 : UInt8), (7 : UInt8), (7 : UInt8), (7 : UInt8), (7 : UInt8), (7 : UInt8), (7 : UInt8), (7 : UInt8), (7 : UInt8), (7 : UInt8), (7 : UInt8), (7 : UInt8), (7 : UInt8), (7 : UInt8), (7 : UInt8), (7 : UInt8)]).append ([(8 : UInt8), (8 : UInt8), (8 : UInt8), (8 : UInt8), (8 : UInt8), (8 : UInt8), (8 : UInt8), (8 : UInt8), (8 : UInt8), (8 : UInt8), (8 : UInt8), (8 : UInt8), (8 : UInt8), (8 : UInt8), (8 : UInt8), (8 : UInt8), (8 : UInt8), (8 : UInt8), (8 : UInt8), (8 : UInt8), (8 : UInt8), (8 : UInt8), (8 : UInt8), (8 : UInt8), (8 : UInt8), (8 : UInt8), (8 : UInt8), (8 : UInt8), (8 : UInt8), (8 : UInt8), (8 : UInt8), (8 : UInt8), (8 : UInt8), (8 : UInt8), (8 : UInt8), (8 : UInt8), (8 : UInt8), (8 : UInt8), (8 : UInt8), (8 : UInt8), (8 : UInt8), (8 : UInt8), (8 : UInt8), (8 : UInt8), (8 : UInt8), (8 : UInt8), (8 : UInt8), (8 : UInt8), (8 : UInt8), (8 : UInt8), (8 : UInt8), (8 : UInt8), (8 : UInt8), (8 : UInt8), (8 : UInt8), (8 : UInt8), (8 : UInt8), (8 : UInt8), (8 : UInt8), (8 : UInt8), (8 : UInt8), (8 : UInt8), (8 : UInt8), (8 : UInt8)].append [(8 : UInt8), (8 : UInt8), (8 : UInt8), (8 : UInt8), (8 : UInt8), (8 : UInt8), (8 : UInt8), (8 : UInt8), (8 : UInt8), (8 : UInt8), (8 : UInt8), (8 : UInt8), (8 : UInt8), (8 : UInt8), (8 : UInt8), (8 : UInt8), (8 : UInt8), (8 : UInt8), (8 : UInt8), (8 : UInt8), (8 : UInt8), (8 : UInt8), (8 : UInt8), (8 : UInt8), (8 : UInt8), (8 : UInt8), (8 : UInt8), (8 : UInt8), (8 : UInt8), (8 : UInt8), (8 : UInt8), (8 : UInt8), (8 : UInt8), (8 : UInt8), (8 : UInt8), (8 : UInt8), (8 : UInt8), (8 : UInt8), (8 : UInt8), (8 : UInt8), (8 : UInt8), (8 : UInt8), (8 : UInt8), (8 : UInt8), (8 : UInt8), (8 : UInt8), (8 : UInt8), (8 : UInt8), (8 : UInt8), (8 : UInt8), (8 : UInt8), (8 : UInt8), (8 : UInt8), (8 : UInt8), (8 : UInt8), (8 : UInt8), (8 : UInt8), (8 : UInt8), (8 : UInt8), (8 : UInt8), (8 : UInt8), (8 : UInt8), (8 : UInt8), (8 : UInt8)])).toArray).size : Int)) ∧ ∀ (b : UInt8), (ByteArray.mk (([(0 : UInt8), (1 : UInt8), (2 : UInt8), (2 : UInt8), (3 : UInt8), (3 : UInt8), (3 : UInt8), (3 : UInt8), (4 : UInt8), (4 : UInt8), (4 : UInt8), (4 : UInt8), (4 : UInt8), (4 : UInt8), (4 : UInt8), (4 : UInt8), (5 : UInt8), (5 : UInt8), (5 : UInt8), (5 : UInt8), (5 : UInt8), (5 : UInt8), (5 : UInt8), (5 : UInt8), (5 : UInt8), (5 : UInt8), (5 : UInt8), (5 : UInt8), (5 : UInt8), (5 : UInt8), (5 : UInt8), (5 : UInt8), (6 : UInt8), (6 : UInt8), (6 : UInt8), (6 : UInt8), (6 : UInt8), (6 : UInt8), (6 : UInt8), (6 : UInt8), (6 : UInt8), (6 : UInt8), (6 : UInt8), (6 : UInt8), (6 : UInt8), (6 : UInt8), (6 : UInt8), (6 : UInt8), (6 : UInt8), (6 : UInt8), (6 : UInt8), (6 : UInt8), (6 : UInt8), (6 : UInt8), (6 : UInt8), (6 : UInt8), (6 : UInt8), (6 : UInt8), (6 : UInt8), (6 : UInt8), (6 : UInt8), (6 : UInt8), (6 : UInt8), (6 : UInt8)].append [(7 : UInt8), (7 : UInt8), (7 : UInt8), (7 : UInt8), (7 : UInt8), (7 : UInt8), (7 : UInt8), (7 : UInt8), (7 : UInt8), (7 : UInt8), (7 : UInt8), (7 : UInt8), (7 : UInt8), (7 : UInt8), (7 : UInt8), (7 : UInt8), (7 : UInt8), (7 : UInt8), (7 : UInt8), (7 : UInt8), (7 : UInt8), (7 : UInt8), (7 : UInt8), (7 : UInt8), (7 : UInt8), (7 : UInt8), (7 : UInt8), (7 : UInt8), (7 : UInt8), (7 : UInt8), (7 : UInt8), (7 : UInt8), (7 : UInt8), (7 : UInt8), (7 : UInt8), (7 : UInt8), (7 : UInt8), (7 : UInt8), (7 : UInt8), (7 : UInt8), (7 : UInt8), (7 : UInt8), (7 : UInt8), (7 : UInt8), (7 : UInt8), (7 : UInt8), (7 : UInt8), (7 : UInt8), (7 : UInt8), (7 : UInt8), (7 : UInt8), (7 : UInt8), (7 : UInt8), (7 : UInt8), (7 : UInt8), (7 : UInt8), (7 : UInt8), (7 : UInt8), (7 : UInt8), (7 : UInt8), (7 : UInt8), (7 : UInt8), (7 : UInt8), (7 : UInt8)]).append ([(8 : UInt8), (8 : UInt8), (8 : UInt8), (8 : UInt8), (8 : UInt8), (8 : UInt8), (8 : UInt8), (8 : UInt8), (8 : UInt8), (8 : UInt8), (8 : UInt8), (8 : UInt8), (8 : UInt8), (8 : UInt8), (8 : UInt8), (8 : UInt8), (8 : UInt8), (8 : UInt8), (8 : UInt8), (8 : UInt8), (8 : UInt8), (8 : UInt8), (8 : UInt8), (8 : UInt8), (8 : UInt8), (8 : UInt8), (8 : UInt8), (8 : UInt8), (8 : UInt8), (8 : UInt8), (8 : UInt8), (8 : UInt8), (8 : UInt8), (8 : UInt8), (8 : UInt8), (8 : UInt8), (8 : UInt8), (8 : UInt8), (8 : UInt8), (8 : UInt8), (8 : UInt8), (8 : UInt8), (8 : UInt8), (8 : UInt8), (8 : UInt8), (8 : UInt8), (8 : UInt8), (8 : UInt8), (8 : UInt8), (8 : UInt8), (8 : UInt8), (8 : UInt8), (8 : UInt8), (8 : UInt8), (8 : UInt8), (8 : UInt8), (8 : UInt8), (8 : UInt8), (8 : UInt8), (8 : UInt8), (8 : UInt8), (8 : UInt8), (8 : UInt8), (8 : UInt8)].append [(8 : UInt8), (8 : UInt8), (8 : UInt8), (8 : UInt8), (8 : UInt8), (8 : UInt8), (8 : UInt8), (8 : UInt8), (8 : UInt8), (8 : UInt8), (8 : UInt8), (8 : UInt8), (8 : UInt8), (8 : UInt8), (8 : UInt8), (8 : UInt8), (8 : UInt8), (8 : UInt8), (8 : UInt8), (8 : UInt8), (8 : UInt8), (8 : UInt8), (8 : UInt8), (8 : UInt8), (8 : UInt8), (8 : UInt8), (8 : UInt8), (8 : UInt8), (8 : UInt8), (8 : UInt8), (8 : UInt8), (8 : UInt8), (8 : UInt8), (8 : UInt8), (8 : UInt8), (8 : UInt8), (8 : UInt8), (8 : UInt8), (8 : UInt8), (8 : UInt8), (8 : UInt8), (8 : UInt8), (8 : UInt8), (8 : UInt8), (8 : UInt8), (8 : UInt8), (8 : UInt8), (8 : UInt8), (8 : UInt8), (8 : UInt8), (8 : UInt8), (8 : UInt8), (8 : UInt8), (8 : UInt8), (8 : UInt8), (8 : UInt8), (8 : UInt8), (8 : UInt8), (8 : UInt8), (8 : UInt8), (8 : UInt8), (8 : UInt8), (8 : UInt8), (8 : UInt8)])).toArray)[(IntKind.u8.wrap (((n.fdiv ((2 : Int) ^ min (Int.toNat (32 : Int)) IntKind.u64.bits)).fdiv ((2 : Int) ^ min (Int.toNat (16 : Int)) IntKind.u64.bits)).fdiv ((2 : Int) ^ min (Int.toNat (8 : Int)) IntKind.u64.bits))).toNat]? = some b → k [PV.int IntKind.i64 (IntKind.i64.wrap (IntKind.i64.wrap (IntKind.i64.wrap ((32 : Int) + (16 : Int)) + (8 : Int)) + IntKind.i64.wrap (↑b.toNat : Int)))] [] else ((0 : Int) ≤ IntKind.u8.wrap ((n.fdiv ((2 : Int) ^ min (Int.toNat (32 : Int)) IntKind.u64.bits)).fdiv ((2 : Int) ^ min (Int.toNat (16 : Int)) IntKind.u64.bits)) ∧ IntKind.u8.wrap ((n.fdiv ((2 : Int) ^ min (Int.toNat (32 : Int)) IntKind.u64.bits)).fdiv ((2 : Int) ^ min (Int.toNat (16 : Int)) IntKind.u64.bits)) < (↑(ByteArray.mk (([(0 : UInt8), (1 : UInt8), (2 : UInt8), (2 : UInt8), (3 : UInt8), (3 : UInt8), (3 : UInt8), (3 : UInt8), (4 : UInt8), (4 : UInt8), (4 : UInt8), (4 : UInt8), (4 : UInt8), (4 : UInt8), (4 : UInt8), (4 : UInt8), (5 : UInt8), (5 : UInt8), (5 : UInt8), (5 : UInt8), (5 : UInt8), (5 : UInt8), (5 : UInt8), (5 : UInt8), (5 : UInt8), (5 : UInt8), (5 : UInt8), (5 : UInt8), (5 : UInt8), (5 : UInt8), (5 : UInt8), (5 : UInt8), (6 : UInt8), (6 : UInt8), (6 : UInt8), (6 : UInt8), (6 : UInt8), (6 : UInt8), (6 : UInt8), (6 : UInt8), (6 : UInt8), (6 : UInt8), (6 : UInt8), (6 : UInt8), (6 : UInt8), (6 : UInt8), (6 : UInt8), (6 : UInt8), (6 : UInt8), (6 : UInt8), (6 : UInt8), (6 : UInt8), (6 : UInt8), (6 : UInt8), (6 : UInt8), (6 : UInt8), (6 : UInt8), (6 : UInt8), (6 : UInt8), (6 : UInt8), (6 : UInt8), (6 : UInt8), (6 : UInt8), (6 : UInt8)].append [(7 : UInt8), (7 : UInt8), (7 : UInt8), (7 : UInt8), (7 : UInt8), (7 : UInt8), (7 : UInt8), (7 : UInt8), (7 : UInt8), (7 : UInt8), (7 : UInt8), (7 : UInt8), (7 : UInt8), (7 : UInt8), (7 : UInt8), (7 : UInt8), (7 : UInt8), (7 : UInt8), (7 : UInt8), (7 : UInt8), (7 : UInt8), (7 : UInt8), (7 : UInt8), (7 : UInt8), (7 : UInt8), (7 : UInt8), (7 : UInt8), (7 : UInt8), (7 : UInt8), (7 : UInt8), (7 : UInt8), (7 : UInt8), (7 : UInt8), (7 : UInt8), (7 : UInt8), (7 : UInt8), (7 : UInt8), (7 : UInt8), (7 : UInt8), (7 : UInt8), (7 : UInt8), (7 : UInt8), (7 : UInt8), (7 : UInt8), (7 : UInt8), (7 : UInt8), (7 : UInt8), (7 : UInt8), (7 : UInt8), (7 : UInt8), (7 : UInt8), (7 : UInt8), (7 : UInt8), (7 : UInt8), (7 : UInt8), (7 : UInt8), (7 : UInt8), (7 : UInt8), (7 : UInt8), (7 : UInt8), (7 : UInt8), (7 : UInt8), (7 : UInt8), (7 : UInt8)]).append ([(8 : UInt8), (8 : UInt8), (8 : UInt8), (8 : UInt8), (8 : UInt8), (8 : UInt8), (8 : UInt8), (8 : UInt8), (8 : UInt8), (8 : UInt8), (8 : UInt8), (8 : UInt8), (8 : UInt8), (8 : UInt8), (8 : UInt8), (8 : UInt8), (8 : UInt8), (8 : UInt8), (8 : UInt8), (8 : UInt8), (8 : UInt8), (8 : UInt8), (8 : UInt8), (8 : UInt8), (8 : UInt8), (8 : UInt8), (8 : UInt8), (8 : UInt8), (8 : UInt8), (8 : UInt8), (8 : UInt8), (8 : UInt8), (8 : UInt8), (8 : UInt8), (8 : UInt8), (8 : UInt8), (8 : UInt8), (8 : UInt8), (8 : UInt8), (8 : UInt8), (8 : UInt8), (8 : UInt8), (8 : UInt8), (8 : UInt8), (8 : UInt8), (8 : UInt8), (8 : UInt8), (8 : UInt8), (8 : UInt8), (8 : UInt8), (8 : UInt8), (8 : UInt8), (8 : UInt8), (8 : UInt8), (8 : UInt8), (8 : UInt8), (8 : UInt8), (8 : UInt8), (8 : UInt8), (8 : UInt8), (8 : UInt8), (8 : UInt8), (8 : UInt8), (8 : UInt8)].append [(8 : UInt8), (8 : UInt8), (8 : UInt8), (8 : UInt8), (8 : UInt8), (8 : UInt8), (8 : UInt8), (8 : UInt8), (8 : UInt8), (8 : UInt8), (8 : UInt8), (8 : UInt8), (8 : UInt8), (8 : UInt8), (8 : UInt8), (8 : UInt8), (8 : UInt8), (8 : UInt8), (8 : UInt8), (8 : UInt8), (8 : UInt8), (8 : UInt8), (8 : UInt8), (8 : UInt8), (8 : UInt8), (8 : UInt8), (8 : UInt8), (8 : UInt8), (8 : UInt8), (8 : UInt8), (8 : UInt8), (8 : UInt8), (8 : UInt8), (8 : UInt8), (8 : UInt8), (8 : UInt8), (8 : UInt8), (8 : UInt8), (8 : UInt8), (8 : UInt8), (8 : UInt8), (8 : UInt8), (8 : UInt8), (8 : UInt8), (8 : UInt8), (8 : UInt8), (8 : UInt8), (8 : UInt8), (8 : UInt8), (8 : UInt8), (8 : UInt8), (8 : UInt8), (8 : UInt8), (8 : UInt8), (8 : UInt8), (8 : UInt8), (8 : UInt8), (8 : UInt8), (8 : UInt8), (8 : UInt8), (8 : UInt8), (8 : UInt8), (8 : UInt8), (8 : UInt8)])).toArray).size : Int)) ∧ ∀ (b : UInt8), (ByteArray.mk (([(0 : UInt8), (1 : UInt8), (2 : UInt8), (2 : UInt8), (3 : UInt8), (3 : UInt8), (3 : UInt8), (3 : UInt8), (4 : UInt8), (4 : UInt8), (4 : UInt8), (4 : UInt8), (4 : UInt8), (4 : UInt8), (4 : UInt8), (4 : UInt8), (5 : UInt8), (5 : UInt8), (5 : UInt8), (5 : UInt8), (5 : UInt8), (5 : UInt8), (5 : UInt8), (5 : UInt8), (5 : UInt8), (5 : UInt8), (5 : UInt8), (5 : UInt8), (5 : UInt8), (5 : UInt8), (5 : UInt8), (5 : UInt8), (6 : UInt8), (6 : UInt8), (6 : UInt8), (6 : UInt8), (6 : UInt8), (6 : UInt8), (6 : UInt8), (6 : UInt8), (6 : UInt8), (6 : UInt8), (6 : UInt8), (6 : UInt8), (6 : UInt8), (6 : UInt8), (6 : UInt8), (6 : UInt8), (6 : UInt8), (6 : UInt8), (6 : UInt8), (6 : UInt8), (6 : UInt8), (6 : UInt8), (6 : UInt8), (6 : UInt8), (6 : UInt8), (6 : UInt8), (6 : UInt8), (6 : UInt8), (6 : UInt8), (6 : UInt8), (6 : UInt8), (6 : UInt8)].append [(7 : UInt8), (7 : UInt8), (7 : UInt8), (7 : UInt8), (7 : UInt8), (7 : UInt8), (7 : UInt8), (7 : UInt8), (7 : UInt8), (7 : UInt8), (7 : UInt8), (7 : UInt8), (7 : UInt8), (7 : UInt8), (7 : UInt8), (7 : UInt8), (7 : UInt8), (7 : UInt8), (7 : UInt8), (7 : UInt8), (7 : UInt8), (7 : UInt8), (7 : UInt8), (7 : UInt8), (7 : UInt8), (7 : UInt8), (7 : UInt8), (7 : UInt8), (7 : UInt8), (7 : UInt8), (7 : UInt8), (7 : UInt8), (7 : UInt8), (7 : UInt8), (7 : UInt8), (7 : UInt8), (7 : UInt8), (7 : UInt8), (7 : UInt8), (7 : UInt8), (7 : UInt8), (7 : UInt8), (7 : UInt8), (7 : UInt8), (7 : UInt8), (7 : UInt8), (7 : UInt8), (7 : UInt8), (7 : UInt8), (7 : UInt8), (7 : UInt8), (7 : UInt8), (7 : UInt8), (7 : UInt8), (7 : UInt8), (7 : UInt8), (7 : UInt8), (7 : UInt8), (7 : UInt8), (7 : UInt8), (7 : UInt8), (7 : UInt8), (7 : UInt8), (7 : UInt8)]).append ([(8 : UInt8), (8 : UInt8), (8 : UInt8), (8 : UInt8), (8 : UInt8), (8 : UInt8), (8 : UInt8), (8 : UInt8), (8 : UInt8), (8 : UInt8), (8 : UInt8), (8 : UInt8), (8 : UInt8), (8 : UInt8), (8 : UInt8), (8 : UInt8), (8 : UInt8), (8 : UInt8), (8 : UInt8), (8 : UInt8), (8 : UInt8), (8 : UInt8), (8 : UInt8), (8 : UInt8), (8 : UInt8), (8 : UInt8), (8 : UInt8), (8 : UInt8), (8 : UInt8), (8 : UInt8), (8 : UInt8), (8 : UInt8), (8 : UInt8), (8 : UInt8), (8 : UInt8), (8 : UInt8), (8 : UInt8), (8 : UInt8), (8 : UInt8), (8 : UInt8), (8 : UInt8), (8 : UInt8), (8 : UInt8), (8 : UInt8), (8 : UInt8), (8 : UInt8), (8 : UInt8), (8 : UInt8), (8 : UInt8), (8 : UInt8), (8 : UInt8), (8 : UInt8), (8 : UInt8), (8 : UInt8), (8 : UInt8), (8 : UInt8), (8 : UInt8), (8 : UInt8), (8 : UInt8), (8 : UInt8), (8 : UInt8), (8 : UInt8), (8 : UInt8), (8 : UInt8)].append [(8 : UInt8), (8 : UInt8), (8 : UInt8), (8 : UInt8), (8 : UInt8), (8 : UInt8), (8 : UInt8), (8 : UInt8), (8 : UInt8), (8 : UInt8), (8 : UInt8), (8 : UInt8), (8 : UInt8), (8 : UInt8), (8 : UInt8), (8 : UInt8), (8 : UInt8), (8 : UInt8), (8 : UInt8), (8 : UInt8), (8 : UInt8), (8 : UInt8), (8 : UInt8), (8 : UInt8), (8 : UInt8), (8 : UInt8), (8 : UInt8), (8 : UInt8), (8 : UInt8), (8 : UInt8), (8 : UInt8), (8 : UInt8), (8 : UInt8), (8 : UInt8), (8 : UInt8), (8 : UInt8), (8 : UInt8), (8 : UInt8), (8 : UInt8), (8 : UInt8), (8 : UInt8), (8 : UInt8), (8 : UInt8), (8 : UInt8), (8 : UInt8), (8 : UInt8), (8 : UInt8), (8 : UInt8), (8 : UInt8), (8 : UInt8), (8 : UInt8), (8 : UInt8), (8 : UInt8), (8 : UInt8), (8 : UInt8), (8 : UInt8), (8 : UInt8), (8 : UInt8), (8 : UInt8), (8 : UInt8), (8 : UInt8), (8 : UInt8), (8 : UInt8), (8 : UInt8)])).toArray)[(IntKind.u8.wrap ((n.fdiv ((2 : Int) ^ min (Int.toNat (32 : Int)) IntKind.u64.bits)).fdiv ((2 : Int) ^ min (Int.toNat (16 : Int)) IntKind.u64.bits))).toNat]? = some b → k [PV.int IntKind.i64 (IntKind.i64.wrap (IntKind.i64.wrap ((32 : Int) + (16 : Int)) + IntKind.i64.wrap (↑b.toNat : Int)))] [] else bif decide (n.fdiv ((2 : Int) ^ min (Int.toNat (32 : Int)) IntKind.u64.bits) ≥ (256 : Int)) then (0 : Int) ≤ (8 : Int) ∧ ((0 : Int) ≤ IntKind.u8.wrap ((n.fdiv ((2 : Int) ^ min (Int.toNat (32 : Int)) IntKind.u64.bits)).fdiv ((2 : Int) ^ min (Int.toNat (8 : Int)) IntKind.u64.bits)) ∧ IntKind.u8.wrap ((n.fdiv ((2 : Int) ^ min (Int.toNat (32 : Int)) IntKind.u64.bits)).fdiv ((2 : Int) ^ min (Int.toNat (8 : Int)) IntKind.u64.bits)) < (↑(ByteArray.mk (([(0 : UInt8), (1 : UInt8), (2 : UInt8), (2 : UInt8), (3 : UInt8), (3 : UInt8), (3 : UInt8), (3 : UInt8), (4 : UInt8), (4 : UInt8), (4 : UInt8), (4 : UInt8), (4 : UInt8), (4 : UInt8), (4 : UInt8), (4 : UInt8), (5 : UInt8), (5 : UInt8), (5 : UInt8), (5 : UInt8), (5 : UInt8), (5 : UInt8), (5 : UInt8), (5 : UInt8), (5 : UInt8), (5 : UInt8), (5 : UInt8), (5 : UInt8), (5 : UInt8), (5 : UInt8), (5 : UInt8), (5 : UInt8), (6 : UInt8), (6 : UInt8), (6 : UInt8), (6 : UInt8), (6 : UInt8), (6 : UInt8), (6 : UInt8), (6 : UInt8), (6 : UInt8), (6 : UInt8), (6 : UInt8), (6 : UInt8), (6 : UInt8), (6 : UInt8), (6 : UInt8), (6 : UInt8), (6 : UInt8), (6 : UInt8), (6 : UInt8), (6 : UInt8), (6 : UInt8), (6 : UInt8), (6 : UInt8), (6 : UInt8), (6 : UInt8), (6 : UInt8), (6 : UInt8), (6 : UInt8), (6 : UInt8), (6 : UInt8), (6 : UInt8), (6 : UInt8)].append [(7 : UInt8), (7 : UInt8), (7 : UInt8), (7 : UInt8), (7 : UInt8), (7 : UInt8), (7 : UInt8), (7 : UInt8), (7 : UInt8), (7 : UInt8), (7 : UInt8), (7 : UInt8), (7 : UInt8), (7 : UInt8), (7 : UInt8), (7 : UInt8), (7 : UInt8), (7 : UInt8), (7 : UInt8), (7 : UInt8), (7 : UInt8), (7 : UInt8), (7 : UInt8), (7 : UInt8), (7 : UInt8), (7 : UInt8), (7 : UInt8), (7 : UInt8), (7 : UInt8), (7 : UInt8), (7 : UInt8), (7 : UInt8), (7 : UInt8), (7 : UInt8), (7 : UInt8), (7 : UInt8), (7 : UInt8), (7 : UInt8), (7 : UInt8), (7 : UInt8), (7 : UInt8), (7 : UInt8), (7 : UInt8), (7 : UInt8), (7 : UInt8), (7 : UInt8), (7 : UInt8), (7 : UInt8), (7 : UInt8), (7 : UInt8), (7 : UInt8), (7 : UInt8), (7 : UInt8), (7 : UInt8), (7 : UInt8), (7 : UInt8), (7 : UInt8), (7 : UInt8), (7 : UInt8), (7 : UInt8), (7 : UInt8), (7 : UInt8), (7 : UInt8), (7 : UInt8)]).append ([(8 : UInt8), (8 : UInt8), (8 : UInt8), (8 : UInt8), (8 : UInt8), (8 : UInt8), (8 : UInt8), (8 : UInt8), (8 : UInt8), (8 : UInt8), (8 : UInt8), (8 : UInt8), (8 : UInt8), (8 : UInt8), (8 : UInt8), (8 : UInt8), (8 : UInt8), (8 : UInt8), (8 : UInt8), (8 : UInt8), (8 : UInt8), (8 : UInt8), (8 : UInt8), (8 : UInt8), (8 : UInt8), (8 : UInt8), (8 : UInt8), (8 : UInt8), (8 : UInt8), (8 : UInt8), (8 : UInt8), (8 : UInt8), (8 : UInt8), (8 : UInt8), (8 : UInt8), (8 : UInt8), (8 : UInt8), (8 : UInt8), (8 : UInt8), (8 : UInt8), (8 : UInt8), (8 : UInt8), (8 : UInt8), (8 : UInt8), (8 : UInt8), (8 : UInt8), (8 : UInt8), (8 : UInt8), (8 : UInt8), (8 : UInt8), (8 : UInt8), (8 : UInt8), (8 : UInt8), (8 : UInt8), (8 : UInt8), (8 : UInt8), (8 : UInt8), (8 : UInt8), (8 : UInt8), (8 : UInt8), (8 : UInt8), (8 : UInt8), (8 : UInt8), (8 : UInt8)].append [(8 : UInt8), (8 : UInt8), (8 : UInt8), (8 : UInt8), (8 : UInt8), (8 : UInt8), (8 : UInt8), (8 : UInt8), (8 : UInt8), (8 : UInt8), (8 : UInt8), (8 : UInt8), (8 : UInt8), (8 : UInt8), (8 : UInt8), (8 : UInt8), (8 : UInt8), (8 : UInt8), (8 : UInt8), (8 : UInt8), (8 : UInt8), (8 : UInt8), (8 : UInt8), (8 : UInt8), (8 : UInt8), (8 : UInt8), (8 : UInt8), (8 : UInt8), (8 : UInt8), (8 : UInt8), (8 : UInt8), (8 : UInt8), (8 : UInt8), (8 : UInt8), (8 : UInt8), (8 : UInt8), (8 : UInt8), (8 : UInt8), (8 : UInt8), (8 : UInt8), (8 : UInt8), (8 : UInt8), (8 : UInt8), (8 : UInt8), (8 : UInt8), (8 : UInt8), (8 : UInt8), (8 : UInt8), (8 : UInt8), (8 : UInt8), (8 : UInt8), (8 : UInt8), (8 : UInt8), (8 : UInt8), (8 : UInt8), (8 : UInt8), (8 : UInt8), (8 : UInt8), (8 : UInt8), (8 : UInt8), (8 : UInt8), (8 : UInt8), (8 : UInt8), (8 : UInt8)])).toArray).size : Int)) ∧ ∀ (b : UInt8), (ByteArray.mk (([(0 : UInt8), (1 : UInt8), (2 : UInt8), (2 : UInt8), (3 : UInt8), (3 : UInt8), (3 : UInt8), (3 : UInt8), (4 : UInt8), (4 : UInt8), (4 : UInt8), (4 : UInt8), (4 : UInt8), (4 : UInt8), (4 : UInt8), (4 : UInt8), (5 : UInt8), (5 : UInt8), (5 : UInt8), (5 : UInt8), (5 : UInt8), (5 : UInt8), (5 : UInt8), (5 : UInt8), (5 : UInt8), (5 : UInt8), (5 : UInt8), (5 : UInt8), (5 : UInt8), (5 : UInt8), (5 : UInt8), (5 : UInt8), (6 : UInt8), (6 : UInt8), (6 : UInt8), (6 : UInt8), (6 : UInt8), (6 : UInt8), (6 : UInt8), (6 : UInt8), (6 : UInt8), (6 : UInt8), (6 : UInt8), (6 : UInt8), (6 : UInt8), (6 : UInt8), (6 : UInt8), (6 : UInt8), (6 : UInt8), (6 : UInt8), (6 : UInt8), (6 : UInt8), (6 : UInt8), (6 : UInt8), (6 : UInt8), (6 : UInt8), (6 : UInt8), (6 : UInt8), (6 : UInt8), (6 : UInt8), (6 : UInt8), (6 : UInt8), (6 : UInt8), (6 : UInt8)].append [(7 : UInt8), (7 : UInt8), (7 : UInt8), (7 : UInt8), (7 : UInt8), (7 : UInt8), (7 : UInt8), (7 : UInt8), (7 : UInt8), (7 : UInt8), (7 : UInt8), (7 : UInt8), (7 : UInt8), (7 : UInt8), (7 : UInt8), (7 : UInt8), (7 : UInt8), (7 : UInt8), (7 : UInt8), (7 : UInt8), (7 : UInt8), (7 : UInt8), (7 : UInt8), (7 : UInt8), (7 : UInt8), (7 : UInt8), (7 : UInt8), (7 : UInt8), (7 : UInt8), (7 : UInt8), (7 : UInt8), (7 : UInt8), (7 : UInt8), (7 : UInt8), (7 : UInt8), (7 : UInt8), (7 : UInt8), (7 : UInt8), (7 : UInt8), (7 : UInt8), (7 : UInt8), (7 : UInt8), (7 : UInt8), (7 : UInt8), (7 : UInt8), (7 : UInt8), (7 : UInt8), (7 : UInt8), (7 : UInt8), (7 : UInt8), (7 : UInt8), (7 : UInt8), (7 : UInt8), (7 : UInt8), (7 : UInt8), (7 : UInt8), (7 : UInt8), (7 : UInt8), (7 : UInt8), (7 : UInt8), (7 : UInt8), (7 : UInt8), (7 : UInt8), (7 : UInt8)]).append ([(8 : UInt8), (8 : UInt8), (8 : UInt8), (8 : UInt8), (8 : UInt8), (8 : UInt8), (8 : UInt8), (8 : UInt8), (8 : UInt8), (8 : UInt8), (8 : UInt8), (8 : UInt8), (8 : UInt8), (8 : UInt8), (8 : UInt8), (8 : UInt8), (8 : UInt8), (8 : UInt8), (8 : UInt8), (8 : UInt8), (8 : UInt8), (8 : UInt8), (8 : UInt8), (8 : UInt8), (8 : UInt8), (8 : UInt8), (8 : UInt8), (8 : UInt8), (8 : UInt8), (8 : UInt8), (8 : UInt8), (8 : UInt8), (8 : UInt8), (8 : UInt8), (8 : UInt8), (8 : UInt8), (8 : UInt8), (8 : UInt8), (8 : UInt8), (8 : UInt8), (8 : UInt8), (8 : UInt8), (8 : UInt8), (8 : UInt8), (8 : UInt8), (8 : UInt8), (8 : UInt8), (8 : UInt8), (8 : UInt8), (8 : UInt8), (8 : UInt8), (8 : UInt8), (8 : UInt8), (8 : UInt8), (8 : UInt8), (8 : UInt8), (8 : UInt8), (8 : UInt8), (8 : UInt8), (8 : UInt8), (8 : UInt8), (8 : UInt8), (8 : UInt8), (8 : UInt8)].append [(8 : UInt8), (8 : UInt8), (8 : UInt8), (8 : UInt8), (8 : UInt8), (8 : UInt8), (8 : UInt8), (8 : UInt8), (8 : UInt8), (8 : UInt8), (8 : UInt8), (8 : UInt8), (8 : UInt8), (8 : UInt8), (8 : UInt8), (8 : UInt8), (8 : UInt8), (8 : UInt8), (8 : UInt8), (8 : UInt8), (8 : UInt8), (8 : UInt8), (8 : UInt8), (8 : UInt8), (8 : UInt8), (8 : UInt8), (8 : UInt8), (8 : UInt8), (8 : UInt8), (8 : UInt8), (8 : UInt8), (8 : UInt8), (8 : UInt8), (8 : UInt8), (8 : UInt8), (8 : UInt8), (8 : UInt8), (8 : UInt8), (8 : UInt8), (8 : UInt8), (8 : UInt8), (8 : UInt8), (8 : UInt8), (8 : UInt8), (8 : UInt8), (8 : UInt8), (8 : UInt8), (8 : UInt8), (8 : UInt8), (8 : UInt8), (8 : UInt8), (8 : UInt8), (8 : UInt8), (8 : UInt8), (8 : UInt8), (8 : UInt8), (8 : UInt8), (8 : UInt8), (8 : UInt8), (8 : UInt8), (8 : UInt8), (8 : UInt8), (8 : UInt8), (8 : UInt8)])).toArray)[(IntKind.u8.wrap ((n.fdiv ((2 : Int) ^ min (Int.toNat (32 : Int)) IntKind.u64.bits)).fdiv ((2 : Int) ^ min (Int.toNat (8 : Int)) IntKind.u64.bits))).toNat]? = some b → k [PV.int IntKind.i64 (IntKind.i64.wrap (IntKind.i64.wrap ((32 : Int) + (8 : Int)) + IntKind.i64.wrap (↑b.toNat : Int)))] [] else ((0 : Int) ≤ IntKind.u8.wrap (n.fdiv ((2 : Int) ^ min (Int.toNat (32 : Int)) IntKind.u64.bits)) ∧ IntKind.u8.wrap (n.fdiv ((2 : Int) ^ min (Int.toNat (32 : Int)) IntKind.u64.bits)) < (↑(ByteArray.mk (([(0 : UInt8), (1 : UInt8), (2 : UInt8), (2 : UInt8), (3 : UInt8), (3 : UInt8), (3 : UInt8), (3 : UInt8), (4 : UInt8), (4 : UInt8), (4 : UInt8), (4 : UInt8), (4 : UInt8), (4 : UInt8), (4 : UInt8), (4 : UInt8), (5 : UInt8), (5 : UInt8), (5 : UInt8), (5 : UInt8), (5 : UInt8), (5 : UInt8), (5 : UInt8), (5 : UInt8), (5 : UInt8), (5 : UInt8), (5 : UInt8), (5 : UInt8), (5 : UInt8), (5 : UInt8), (5 : UInt8), (5 : UInt8), (6 : UInt8), (6 : UInt8), (6 : UInt8), (6 : UInt8), (6 : UInt8), (6 : UInt8), (6 : UInt8), (6 : UInt8), (6 : UInt8), (6 : UInt8), (6 : UInt8), (6 : UInt8), (6 : UInt8), (6 : UInt8), (6 : UInt8), (6 : UInt8), (6 : UInt8), (6 : UInt8), (6 : UInt8), (6 : UInt8), (6 : UInt8), (6 : UInt8), (6 : UInt8), (6 : UInt8), (6 : UInt8), (6 : UInt8), (6 : UInt8), (6 : UInt8), (6 : UInt8), (6 : UInt8), (6 : UInt8), (6 : UInt8)].append [(7 : UInt8), (7 : UInt8), (7 : UInt8), (7 : UInt8), (7 : UInt8), (7 : UInt8), (7 : UInt8), (7 : UInt8), (7 : UInt8), (7 : UInt8), (7 : UInt8), (7 : UInt8), (7 : UInt8), (7 : UInt8), (7 : UInt8), (7 : UInt8), (7 : UInt8), (7 : UInt8), (7 : UInt8), (7 : UInt8), (7 : UInt8), (7 : UInt8), (7 : UInt8), (7 : UInt8), (7 : UInt8), (7 : UInt8), (7 : UInt8), (7 : UInt8), (7 : UInt8), (7 : UInt8), (7 : UInt8), (7 : UInt8), (7 : UInt8), (7 : UInt8), (7 : UInt8), (7 : UInt8), (7 : UInt8), (7 : UInt8), (7 : UInt8), (7 : UInt8), (7 : UInt8), (7 : UInt8), (7 : UInt8), (7 : UInt8), (7 : UInt8), (7 : UInt8), (7 : UInt8), (7 : UInt8), (7 : UInt8), (7 : UInt8), (7 : UInt8), (7 : UInt8), (7 : UInt8), (7 : UInt8), (7 : UInt8), (7 : UInt8), (7 : UInt8), (7 : UInt8), (7 : UInt8), (7 : UInt8), (7 : UInt8), (7 : UInt8), (7 : UInt8), (7 : UInt8)]).append ([(8 : UInt8), (8 : UInt8), (8 : UInt8), (8 : UInt8), (8 : UInt8), (8 : UInt8), (8 : UInt8), (8 : UInt8), (8 : UInt8), (8 : UInt8), (8 : UInt8), (8 : UInt8), (8 : UInt8), (8 : UInt8), (8 : UInt8), (8 : UInt8), (8 : UInt8), (8 : UInt8), (8 : UInt8), (8 : UInt8), (8 : UInt8), (8 : UInt8), (8 : UInt8), (8 : UInt8), (8 : UInt8), (8 : UInt8), (8 : UInt8), (8 : UInt8), (8 : UInt8), (8 : UInt8), (8 : UInt8), (8 : UInt8), (8 : UInt8), (8 : UInt8), (8 : UInt8), (8 : UInt8), (8 : UInt8), (8 : UInt8), (8 : UInt8), (8 : UInt8), (8 : UInt8), (8 : UInt8), (8 : UInt8), (8 : UInt8), (8 : UInt8), (8 : UInt8), (8 : UInt8), (8 : UInt8), (8 : UInt8), (8 : UInt8), (8 : UInt8), (8 : UInt8), (8 : UInt8), (8 : UInt8), (8 : UInt8), (8 : UInt8), (8 : UInt8), (8 : UInt8), (8 : UInt8), (8 : UInt8), (8 : UInt8), (8 : UInt8), (8 : UInt8), (8 : UInt8)].append [(8 : UInt8), (8 : UInt8), (8 : UInt8), (8 : UInt8), (8 : UInt8), (8 : UInt8), (8 : UInt8), (8 : UInt8), (8 : UInt8), (8 : UInt8), (8 : UInt8), (8 : UInt8), (8 : UInt8), (8 : UInt8), (8 : UInt8), (8 : UInt8), (8 : UInt8), (8 : UInt8), (8 : UInt8), (8 : UInt8), (8 : UInt8), (8 : UInt8), (8 : UInt8), (8 : UInt8), (8 : UInt8), (8 : UInt8), (8 : UInt8), (8 : UInt8), (8 : UInt8), (8 : UInt8), (8 : UInt8), (8 : UInt8), (8 : UInt8), (8 : UInt8), (8 : UInt8), (8 : UInt8), (8 : UInt8), (8 : UInt8), (8 : UInt8), (8 : UInt8), (8 : UInt8), (8 : UInt8), (8 : UInt8), (8 : UInt8), (8 : UInt8), (8 : UInt8), (8 : UInt8), (8 : UInt8), (8 : UInt8), (8 : UInt8), (8 : UInt8), (8 : UInt8), (8 : UInt8), (8 : UInt8), (8 : UInt8), (8 : UInt8), (8 : UInt8), (8 : UInt8), (8 : UInt8), (8 : UInt8), (8 : UInt8), (8 : UInt8), (8 : UInt8), (8 : UInt8)])).toArray).size : Int)) ∧ ∀ (b : UInt8), (ByteArray.mk (([(0 : UInt8), (1 : UInt8), (2 : UInt8), (2 : UInt8), (3 : UInt8), (3 : UInt8), (3 : UInt8), (3 : UInt8), (4 : UInt8), (4 : UInt8), (4 : UInt8), (4 : UInt8), (4 : UInt8), (4 : UInt8), (4 : UInt8), (4 : UInt8), (5 : UInt8), (5 : UInt8), (5 : UInt8), (5 : UInt8), (5 : UInt8), (5 : UInt8), (5 : UInt8), (5 : UInt8), (5 : UInt8), (5 : UInt8), (5 : UInt8), (5 : UInt8), (5 : UInt8), (5 : UInt8), (5 : UInt8), (5 : UInt8), (6 : UInt8), (6 : UInt8), (6 : UInt8), (6 : UInt8), (6 : UInt8), (6 : UInt8), (6 : UInt8), (6 : UInt8), (6 : UInt8), (6 : UInt8), (6 : UInt8), (6 : UInt8), (6 : UInt8), (6 : UInt8), (6 : UInt8), (6 : UInt8), (6 : UInt8), (6 : UInt8), (6 : UInt8), (6 : UInt8), (6 : UInt8), (6 : UInt8), (6 : UInt8), (6 : UInt8), (6 : UInt8), (6 : UInt8), (6 : UInt8), (6 : UInt8), (6 : UInt8), (6 : UInt8), (6 : UInt8), (6 : UInt8)].append [(7 : UInt8), (7 : UInt8), (7 : UInt8), (7 : UInt8), (7 : UInt8), (7 : UInt8), (7 : UInt8), (7 : UInt8), (7 : UInt8), (7 : UInt8), (7 : UInt8), (7 : UInt8), (7 : UInt8), (7 : UInt8), (7 : UInt8), (7 : UInt8), (7 : UInt8), (7 : UInt8), (7 : UInt8), (7 : UInt8), (7 : UInt8), (7 : UInt8), (7 : UInt8), (7 : UInt8), (7 : UInt8), (7 : UInt8), (7 : UInt8), (7 : UInt8), (7 : UInt8), (7 : UInt8), (7 : UInt8), (7 : UInt8), (7 : UInt8), (7 : UInt8), (7 : UInt8), (7 : UInt8), (7 : UInt8), (7 : UInt8), (7 : UInt8), (7 : UInt8), (7 : UInt8), (7 : UInt8), (7 : UInt8), (7 : UInt8), (7 : UInt8), (7 : UInt8), (7 : UInt8), (7 : UInt8), (7 : UInt8), (7 : UInt8), (7 : UInt8), (7 : UInt8), (7 : UInt8), (7 : UInt8), (7 : UInt8), (7 : UInt8), (7 : UInt8), (7 : UInt8), (7 : UInt8), (7 : UInt8), (7 : UInt8), (7 : UInt8), (7 : UInt8), (7 : UInt8)]).append ([(8 : UInt8), (8 : UInt8), (8 : UInt8), (8 : UInt8), (8 : UInt8), (8 : UInt8), (8 : UInt8), (8 : UInt8), (8 : UInt8), (8 : UInt8), (8 : UInt8), (8 : UInt8), (8 : UInt8), (8 : UInt8), (8 : UInt8), (8 : UInt8), (8 : UInt8), (8 : UInt8), (8 : UInt8), (8 : UInt8), (8 : UInt8), (8 : UInt8), (8 : UInt8), (8 : UInt8), (8 : UInt8), (8 : UInt8), (8 : UInt8), (8 : UInt8), (8 : UInt8), (8 : UInt8), (8 : UInt8), (8 : UInt8), (8 : UInt8), (8 : UInt8), (8 : UInt8), (8 : UInt8), (8 : UInt8), (8 : UInt8), (8 : UInt8), (8 : UInt8), (8 : UInt8), (8 : UInt8), (8 : UInt8), (8 : UInt8), (8 : UInt8), (8 : UInt8), (8 : UInt8), (8 : UInt8), (8 : UInt8), (8 : UInt8), (8 : UInt8), (8 : UInt8), (8 : UInt8), (8 : UInt8), (8 : UInt8), (8 : UInt8), (8 : UInt8), (8 : UInt8), (8 : UInt8), (8 : UInt8), (8 : UInt8), (8 : UInt8), (8 : UInt8), (8 : UInt8)].append [(8 : UInt8), (8 : UInt8), (8 : UInt8), (8 : UInt8), (8 : UInt8), (8 : UInt8), (8 : UInt8), (8 : UInt8), (8 : UInt8), (8 : UInt8), (8 : UInt8), (8 : UInt8), (8 : UInt8), (8 : UInt8), (8 : UInt8), (8 : UInt8), (8 : UInt8), (8 : UInt8), (8 : UInt8), (8 : UInt8), (8 : UInt8), (8 : UInt8), (8 : UInt8), (8 : UInt8), (8 : UInt8), (8 : UInt8), (8 : UInt8), (8 : UInt8), (8 : UInt8), (8 : UInt8), (8 : UInt8), (8 : UInt8), (8 : UInt8), (8 : UInt8), (8 : UInt8), (8 : UInt8), (8 : UInt8), (8 : UInt8), (8 : UInt8), (8 : UInt8), (8 : UInt8), (8 : UInt8), (8 : UInt8), (8 : UInt8), (8 : UInt8), (8 : UInt8), (8 : UInt8), (8 : UInt8), (8 : UInt8), (8 : UInt8), (8 : UInt8), (8 : UInt8), (8 : UInt8), (8 : UInt8), (8 : UInt8), (8 : UInt8), (8 : UInt8), (8 : UInt8), (8 : UInt8), (8 : UInt8), (8 : UInt8), (8 : UInt8), (8 : UInt8), (8 : UInt8)])).toArray)[(IntKind.u8.wrap (n.fdiv ((2 : Int) ^ min (Int.toNat (32 : Int)) IntKind.u64.bits))).toNat]? = some b → k [PV.int IntKind.i64 (IntKind.i64.wrap ((32 : Int) + IntKind.i64.wrap (↑b.toNat : Int)))] []
else bif decide (n ≥ (65536 : Int)) then (0 : Int) ≤ (16 : Int) ∧ bif decide (n.fdiv ((2 : Int) ^ min (Int.toNat (16 : Int)) IntKind.u64.bits) ≥ (256 : Int)) then (0 : Int) ≤ (8 : Int) ∧ ((0 : Int) ≤ IntKind.u8.wrap ((n.fdiv ((2 : Int) ^ min (Int.toNat (16 : Int)) IntKind.u64.bits)).fdiv ((2 : Int) ^ min (Int.toNat (8 : Int)) IntKind.u64.bits)) ∧ IntKind.u8.wrap ((n.fdiv ((2 : Int) ^ min (Int.toNat (16 : Int)) IntKind.u64.bits)).fdiv ((2 : Int) ^ min (Int.toNat (8 : Int)) IntKind.u64.bits)) < (↑(ByteArray.mk (([(0 : UInt8), (1 : UInt8), (2 : UInt8), (2 : UInt8), (3 : UInt8), (3 : UInt8), (3 : UInt8), (3 : UInt8), (4 : UInt8), (4 : UInt8), (4 : UInt8), (4 : UInt8), (4 : UInt8), (4 : UInt8), (4 : UInt8), (4 : UInt8), (5 : UInt8), (5 : UInt8), (5 : UInt8), (5 : UInt8), (5 : UInt8), (5 : UInt8), (5 : UInt8), (5 : UInt8), (5 : UInt8), (5 : UInt8), (5 : UInt8), (5 : UInt8), (5 : UInt8), (5 : UInt8), (5 : UInt8), (5 : UInt8), (6 : UInt8), (6 : UInt8), (6 : UInt8), (6 : UInt8), (6 : UInt8), (6 : UInt8), (6 : UInt8), (6 : UInt8), (6 : UInt8), (6 : UInt8), (6 : UInt8), (6 : UInt8), (6 : UInt8), (6 : UInt8), (6 : UInt8), (6 : UInt8), (6 : UInt8), (6 : UInt8), (6 : UInt8), (6 : UInt8), (6 : UInt8), (6 : UInt8), (6 : UInt8), (6 : UInt8), (6 : UInt8), (6 : UInt8), (6 : UInt8), (6 : UInt8), (6 : UInt8), (6 : UInt8), (6 : UInt8), (6 : UInt8)].append [(7 : UInt8), (7 : UInt8), (7 : UInt8), (7 : UInt8), (7 : UInt8), (7 : UInt8), (7 : UInt8), (7 : UInt8), (7 : UInt8), (7 : UInt8), (7 : UInt8), (7 : UInt8), (7 : UInt8), (7 : UInt8), (7 : UInt8), (7 : UInt8), (7 : UInt8), (7 : UInt8), (7 : UInt8), (7 : UInt8), (7 : UInt8), (7 : UInt8), (7 : UInt8), (7 : UInt8), (7 : UInt8), (7 : UInt8), (7 : UInt8), (7 : UInt8), (7 : UInt8), (7 : UInt8), (7 : UInt8), (7 : UInt8), (7 : UInt8), (7 : UInt8), (7 : UInt8), (7 : UInt8), (7 : UInt8), (7 : UInt8), (7 : UInt8), (7 : UInt8), (7 : UInt8), (7 : UInt8), (7 : UInt8), (7 : UInt8), (7 : UInt8), (7 : UInt8), (7 : UInt8), (7 : UInt8), (7 : UInt8), (7 : UInt8), (7 : UInt8), (7 : UInt8), (7 : UInt8), (7 : UInt8), (7 : UInt8), (7 : UInt8), (7 : UInt8), (7 : UInt8), (7 : UInt8), (7 : UInt8), (7 : UInt8), (7 : UInt8), (7 : UInt8), (7 : UInt8)]).append ([(8 : UInt8), (8 : UInt8), (8 : UInt8), (8 : UInt8), (8 : UInt8), (8 : UInt8), (8 : UInt8), (8 : UInt8), (8 : UInt8), (8 : UInt8), (8 : UInt8), (8 : UInt8), (8 : UInt8), (8 : UInt8), (8 : UInt8), (8 : UInt8), (8 : UInt8), (8 : UInt8), (8 : UInt8), (8 : UInt8), (8 : UInt8), (8 : UInt8), (8 : UInt8), (8 : UInt8), (8 : UInt8), (8 : UInt8), (8 : UInt8), (8 : UInt8), (8 : UInt8), (8 : UInt8), (8 : UInt8), (8 : UInt8), (8 : UInt8), (8 : UInt8), (8 : UInt8), (8 : UInt8), (8 : UInt8), (8 : UInt8), (8 : UInt8), (8 : UInt8), (8 : UInt8), (8 : UInt8), (8 : UInt8), (8 : UInt8), (8 : UInt8), (8 : UInt8), (8 : UInt8), (8 : UInt8), (8 : UInt8), (8 : UInt8), (8 : UInt8), (8 : UInt8), (8 : UInt8), (8 : UInt8), (8 : UInt8), (8 : UInt8), (8 : UInt8), (8 : UInt8), (8 : UInt8), (8 : UInt8), (8 : UInt8), (8 : UInt8), (8 : UInt8), (8 : UInt8)].append [(8 : UInt8), (8 : UInt8), (8 : UInt8), (8 : UInt8), (8 : UInt8), (8 : UInt8), (8 : UInt8), (8 : UInt8), (8 : UInt8), (8 : UInt8), (8 : UInt8), (8 : UInt8), (8 : UInt8), (8 : UInt8), (8 : UInt8), (8 : UInt8), (8 : UInt8), (8 : UInt8), (8 : UInt8), (8 : UInt8), (8 : UInt8), (8 : UInt8), (8 : UInt8), (8 : UInt8), (8 : UInt8), (8 : UInt8), (8 : UInt8), (8 : UInt8), (8 : UInt8), (8 : UInt8), (8 : UInt8), (8 : UInt8), (8 : UInt8), (8 : UInt8), (8 : UInt8), (8 : UInt8), (8 : UInt8), (8 : UInt8), (8 : UInt8), (8 : UInt8), (8 : UInt8), (8 : UInt8), (8 : UInt8), (8 : UInt8), (8 : UInt8), (8 : UInt8), (8 : UInt8), (8 : UInt8), (8 : UInt8), (8 : UInt8), (8 : UInt8), (8 : UInt8), (8 : UInt8), (8 : UInt8), (8 : UInt8), (8 : UInt8), (8 : UInt8), (8 : UInt8), (8 : UInt8), (8 : UInt8), (8 : UInt8), (8 : UInt8), (8 : UInt8), (8 : UInt8)])).toArray).size : Int)) ∧ ∀ (b : UInt8), (ByteArray.mk (([(0 : UInt8), (1 : UInt8), (2 : UInt8), (2 : UInt8), (3 : UInt8), (3 : UInt8), (3 : UInt8), (3 : UInt8), (4 : UInt8), (4 : UInt8), (4 : UInt8), (4 : UInt8), (4 : UInt8), (4 : UInt8), (4 : UInt8), (4 : UInt8), (5 : UInt8), (5 : UInt8), (5 : UInt8), (5 : UInt8), (5 : UInt8), (5 : UInt8), (5 : UInt8), (5 : UInt8), (5 : UInt8), (5 : UInt8), (5 : UInt8), (5 : UInt8), (5 : UInt8), (5 : UInt8), (5 : UInt8), (5 : UInt8), (6 : UInt8), (6 : UInt8), (6 : UInt8), (6 : UInt8), (6 : UInt8), (6 : UInt8), (6 : UInt8), (6 : UInt8), (6 : UInt8), (6 : UInt8), (6 : UInt8), (6 : UInt8), (6 : UInt8), (6 : UInt8), (6 : UInt8), (6 : UInt8), (6 : UInt8), (6 : UInt8), (6 : UInt8), (6 : UInt8), (6 : UInt8), (6 : UInt8), (6 : UInt8), (6 : UInt8), (6 : UInt8), (6 : UInt8), (6 : UInt8), (6 : UInt8), (6 : UInt8), (6 : UInt8), (6 : UInt8), (6 : UInt8)].append [(7 : UInt8), (7 : UInt8), (7 : UInt8), (7 : UInt8), (7 : UInt8), (7 : UInt8), (7 : UInt8), (7 : UInt8), (7 : UInt8), (7 : UInt8), (7 : UInt8), (7 : UInt8), (7 : UInt8), (7 : UInt8), (7 : UInt8), (7 : UInt8), (7 : UInt8), (7 : UInt8), (7 : UInt8), (7 : UInt8), (7 : UInt8), (7 : UInt8), (7 : UInt8), (7 : UInt8), (7 : UInt8), (7 : UInt8), (7 : UInt8), (7 : UInt8), (7 : UInt8), (7 : UInt8), (7 : UInt8), (7 : UInt8), (7 : UInt8), (7 : UInt8), (7 : UInt8), (7 : UInt8), (7 : UInt8), (7 : UInt8), (7 : UInt8), (7 : UInt8), (7 : UInt8), (7 : UInt8), (7 : UInt8), (7 : UInt8), (7 : UInt8), (7 : UInt8), (7 : UInt8), (7 : UInt8), (7 : UInt8), (7 : UInt8), (7 : UInt8), (7 : UInt8), (7 : UInt8), (7 : UInt8), (7 : UInt8), (7 : UInt8), (7 : UInt8), (7 : UInt8), (7 : UInt8), (7 : UInt8), (7 : UInt8), (7 : UInt8), (7 : UInt8), (7 : UInt8)]).append ([(8 : UInt8), (8 : UInt8), (8 : UInt8), (8 : UInt8), (8 : UInt8), (8 : UInt8), (8 : UInt8), (8 : UInt8), (8 : UInt8), (8 : UInt8), (8 : UInt8), (8 : UInt8), (8 : UInt8), (8 : UInt8), (8 : UInt8), (8 : UInt8), (8 : UInt8), (8 : UInt8), (8 : UInt8), (8 : UInt8), (8 : UInt8), (8 : UInt8), (8 : UInt8), (8 : UInt8), (8 : UInt8), (8 : UInt8), (8 : UInt8), (8 : UInt8), (8 : UInt8), (8 : UInt8), (8 : UInt8), (8 : UInt8), (8 : UInt8), (8 : UInt8), (8 : UInt8), (8 : UInt8), (8 : UInt8), (8 : UInt8), (8 : UInt8), (8 : UInt8), (8 : UInt8), (8 : UInt8), (8 : UInt8), (8 : UInt8), (8 : UInt8), (8 : UInt8), (8 : UInt8), (8 : UInt8), (8 : UInt8), (8 : UInt8), (8 : UInt8), (8 : UInt8), (8 : UInt8), (8 : UInt8), (8 : UInt8), (8 : UInt8), (8 : UInt8), (8 : UInt8), (8 : UInt8), (8 : UInt8), (8 : UInt8), (8 : UInt8), (8 : UInt8), (8 : UInt8)].append [(8 : UInt8), (8 : UInt8), (8 : UInt8), (8 : UInt8), (8 : UInt8), (8 : UInt8), (8 : UInt8), (8 : UInt8), (8 : UInt8), (8 : UInt8), (8 : UInt8), (8 : UInt8), (8 : UInt8), (8 : UInt8), (8 : UInt8), (8 : UInt8), (8 : UInt8), (8 : UInt8), (8 : UInt8), (8 : UInt8), (8 : UInt8), (8 : UInt8), (8 : UInt8), (8 : UInt8), (8 : UInt8), (8 : UInt8), (8 : UInt8), (8 : UInt8), (8 : UInt8), (8 : UInt8), (8 : UInt8), (8 : UInt8), (8 : UInt8), (8 : UInt8), (8 : UInt8), (8 : UInt8), (8 : UInt8), (8 : UInt8), (8 : UInt8), (8 : UInt8), (8 : UInt8), (8 : UInt8), (8 : UInt8), (8 : UInt8), (8 : UInt8), (8 : UInt8), (8 : UInt8), (8 : UInt8), (8 : UInt8), (8 : UInt8), (8 : UInt8), (8 : UInt8), (8 : UInt8), (8 : UInt8), (8 : UInt8), (8 : UInt8), (8 : UInt8), (8 : UInt8), (8 : UInt8), (8 : UInt8), (8 : UInt8), (8 : UInt8), (8 : UInt8), (8 : UInt8)])).toArray)[(IntKind.u8.wrap ((n.fdiv ((2 : Int) ^ min (Int.toNat (16 : Int)) IntKind.u64.bits)).fdiv ((2 : Int) ^ min (Int.toNat (8 : Int)) IntKind.u64.bits))).toNat]? = some b → k [PV.int IntKind.i64 (IntKind.i64.wrap (IntKind.i64.wrap (IntKind.i64.wrap ((0 : Int) + (16 : Int)) + (8 : Int)) + IntKind.i64.wrap (↑b.toNat : Int)))] [] else ((0 : Int) ≤ IntKind.u8.wrap (n.fdiv ((2 : Int) ^ min (Int.toNat (16 : Int)) IntKind.u64.bits)) ∧ IntKind.u8.wrap (n.fdiv ((2 : Int) ^ min (Int.toNat (16 : Int)) IntKind.u64.bits)) < (↑(ByteArray.mk (([(0 : UInt8), (1 : UInt8), (2 : UInt8), (2 : UInt8), (3 : UInt8), (3 : UInt8), (3 : UInt8), (3 : UInt8), (4 : UInt8), (4 : UInt8), (4 : UInt8), (4 : UInt8), (4 : UInt8), (4 : UInt8), (4 : UInt8), (4 : UInt8), (5 : UInt8), (5 : UInt8), (5 : UInt8), (5 : UInt8), (5 : UInt8), (5 : UInt8), (5 : UInt8), (5 : UInt8), (5 : UInt8), (5 : UInt8), (5 : UInt8), (5 : UInt8), (5 : UInt8), (5 : UInt8), (5 : UInt8), (5 : UInt8), (6 : UInt8), (6 : UInt8), (6 : UInt8), (6 : UInt8), (6 : UInt8), (6 : UInt8), (6 : UInt8), (6 : UInt8), (6 : UInt8), (6 : UInt8), (6 : UInt8), (6 : UInt8), (6 : UInt8), (6 : UInt8), (6 : UInt8), (6 : UInt8), (6 : UInt8), (6 : UInt8), (6 : UInt8), (6 : UInt8), (6 : UInt8), (6 : UInt8), (6 : UInt8), (6 : UInt8), (6 : UInt8), (6 : UInt8), (6 : UInt8), (6 : UInt8), (6 : UInt8), (6 : UInt8), (6 : UInt8), (6 : UInt8)].append [(7 : UInt8), (7 : UInt8), (7 : UInt8), (7 : UInt8), (7 : UInt8), (7 : UInt8), (7 : UInt8), (7 : UInt8), (7 : UInt8), (7 : UInt8), (7 : UInt8), (7 : UInt8), (7 : UInt8), (7 : UInt8), (7 : UInt8), (7 : UInt8), (7 : UInt8), (7 : UInt8), (7 : UInt8), (7 : UInt8), (7 : UInt8), (7 : UInt8), (7 : UInt8), (7 : UInt8), (7 : UInt8), (7 : UInt8), (7 : UInt8), (7 : UInt8), (7 : UInt8), (7 : UInt8), (7 : UInt8), (7 : UInt8), (7 : UInt8), (7 : UInt8), (7 : UInt8), (7 : UInt8), (7 : UInt8), (7 : UInt8), (7 : UInt8), (7 : UInt8), (7 : UInt8), (7 : UInt8), (7 : UInt8), (7 : UInt8), (7 : UInt8), (7 : UInt8), (7 : UInt8), (7 : UInt8), (7 : UInt8), (7 : UInt8), (7 : UInt8), (7 : UInt8), (7 : UInt8), (7 : UInt8), (7 : UInt8), (7 : UInt8), (7 : UInt8), (7 : UInt8), (7 : UInt8), (7 : UInt8), (7 : UInt8), (7 : UInt8), (7 : UInt8), (7 : UInt8)]).append ([(8 : UInt8), (8 : UInt8), (8 : UInt8), (8 : UInt8), (8 : UInt8), (8 : UInt8), (8 : UInt8), (8 : UInt8), (8 : UInt8), (8 : UInt8), (8 : UInt8), (8 : UInt8), (8 : UInt8), (8 : UInt8), (8 : UInt8), (8 : UInt8), (8 : UInt8), (8 : UInt8), (8 : UInt8), (8 : UInt8), (8 : UInt8), (8 : UInt8), (8 : UInt8), (8 : UInt8), (8 : UInt8), (8 : UInt8), (8 : UInt8), (8 : UInt8), (8 : UInt8), (8 : UInt8), (8 : UInt8), (8 : UInt8), (8 : UInt8), (8 : UInt8), (8 : UInt8), (8 : UInt8), (8 : UInt8), (8 : UInt8), (8 : UInt8), (8 : UInt8), (8 : UInt8), (8 : UInt8), (8 : UInt8), (8 : UInt8), (8 : UInt8), (8 : UInt8), (8 : UInt8), (8 : UInt8), (8 : UInt8), (8 : UInt8), (8 : UInt8), (8 : UInt8), (8 : UInt8), (8 : UInt8), (8 : UInt8), (8 : UInt8), (8 : UInt8), (8 : UInt8), (8 : UInt8), (8 : UInt8), (8 : UInt8), (8 : UInt8), (8 : UInt8), (8 : UInt8)].append [(8 : UInt8), (8 : UInt8), (8 : UInt8), (8 : UInt8), (8 : UInt8), (8 : UInt8), (8 : UInt8), (8 : UInt8), (8 : UInt8), (8 : UInt8), (8 : UInt8), (8 : UInt8), (8 : UInt8), (8 : UInt8), (8 : UInt8), (8 : UInt8), (8 : UInt8), (8 : UInt8), (8 : UInt8), (8 : UInt8), (8 : UInt8), (8 : UInt8), (8 : UInt8), (8 : UInt8), (8 : UInt8), (8 : UInt8), (8 : UInt8), (8 : UInt8), (8 : UInt8), (8 : UInt8), (8 : UInt8), (8 : UInt8), (8 : UInt8), (8 : UInt8), (8 : UInt8), (8 : UInt8), (8 : UInt8), (8 : UInt8), (8 : UInt8), (8 : UInt8), (8 : UInt8), (8 : UInt8), (8 : UInt8), (8 : UInt8), (8 : UInt8), (8 : UInt8), (8 : UInt8), (8 : UInt8), (8 : UInt8), (8 : UInt8), (8 : UInt8), (8 : UInt8), (8 : UInt8), (8 : UInt8), (8 : UInt8), (8 : UInt8), (8 : UInt8), (8 : UInt8), (8 : UInt8), (8 : UInt8), (8 : UInt8), (8 : UInt8), (8 : UInt8), (8 : UInt8)])).toArray).size : Int)) ∧ ∀ (b : UInt8), (ByteArray.mk (([(0 : UInt8), (1 : UInt8), (2 : UInt8), (2 : UInt8), (3 : UInt8), (3 : UInt8), (3 : UInt8), (3 : UInt8), (4 : UInt8), (4 : UInt8), (4 : UInt8), (4 : UInt8), (4 : UInt8), (4 : UInt8), (4 : UInt8), (4 : UInt8), (5 : UInt8), (5 : UInt8), (5 : UInt8), (5 : UInt8), (5 : UInt8), (5 : UInt8), (5 : UInt8), (5 : UInt8), (5 : UInt8), (5 : UInt8), (5 : UInt8), (5 : UInt8), (5 : UInt8), (5 : UInt8), (5 : UInt8), (5 : UInt8), (6 : UInt8), (6 : UInt8), (6 : UInt8), (6 : UInt8), (6 : UInt8), (6 : UInt8), (6 : UInt8), (6 : UInt8), (6 : UInt8), (6 : UInt8), (6 : UInt8), (6 : UInt8), (6 : UInt8), (6 : UInt8), (6 : UInt8), (6 : UInt8), (6 : UInt8), (6 : UInt8), (6 : UInt8), (6 : UInt8), (6 : UInt8), (6 : UInt8), (6 : UInt8), (6 : UInt8), (6 : UInt8), (6 : UInt8), (6 : UInt8), (6 : UInt8), (6 : UInt8), (6 : UInt8), (6 : UInt8), (6 : UInt8)].append [(7 : UInt8), (7 : UInt8), (7 : UInt8), (7 : UInt8), (7 : UInt8), (7 : UInt8), (7 : UInt8), (7 : UInt8), (7 : UInt8), (7 : UInt8), (7 : UInt8), (7 : UInt8), (7 : UInt8), (7 : UInt8), (7 : UInt8), (7 : UInt8), (7 : UInt8), (7 : UInt8), (7 : UInt8), (7 : UInt8), (7 : UInt8), (7 : UInt8), (7 : UInt8), (7 : UInt8), (7 : UInt8), (7 : UInt8), (7 : UInt8), (7 : UInt8), (7 : UInt8), (7 : UInt8), (7 : UInt8), (7 : UInt8), (7 : UInt8), (7 : UInt8), (7 : UInt8), (7 : UInt8), (7 : UInt8), (7 : UInt8), (7 : UInt8), (7 : UInt8), (7 : UInt8), (7 : UInt8), (7 : UInt8), (7 : UInt8), (7 : UInt8), (7 : UInt8), (7 : UInt8), (7 : UInt8), (7 : UInt8), (7 : UInt8), (7 : UInt8), (7 : UInt8), (7 : UInt8), (7 : UInt8), (7 : UInt8), (7 : UInt8), (7 : UInt8), (7 : UInt8), (7 : UInt8), (7 : UInt8), (7 : UInt8), (7 : UInt8), (7 : UInt8), (7 : UInt8)]).append ([(8 : UInt8), (8 : UInt8), (8 : UInt8), (8 : UInt8), (8 : UInt8), (8 : UInt8), (8 : UInt8), (8 : UInt8), (8 : UInt8), (8 : UInt8), (8 : UInt8), (8 : UInt8), (8 : UInt8), (8 : UInt8), (8 : UInt8), (8 : UInt8), (8 : UInt8), (8 : UInt8), (8 : UInt8), (8 : UInt8), (8 : UInt8), (8 : UInt8), (8 : UInt8), (8 : UInt8), (8 : UInt8), (8 : UInt8), (8 : UInt8), (8 : UInt8), (8 : UInt8), (8 : UInt8), (8 : UInt8), (8 : UInt8), (8 : UInt8), (8 : UInt8), (8 : UInt8), (8 : UInt8), (8 : UInt8), (8 : UInt8), (8 : UInt8), (8 : UInt8), (8 : UInt8), (8 : UInt8), (8 : UInt8), (8 : UInt8), (8 : UInt8), (8 : UInt8), (8 : UInt8), (8 : UInt8), (8 : UInt8), (8 : UInt8), (8 : UInt8), (8 : UInt8), (8 : UInt8), (8 : UInt8), (8 : UInt8), (8 : UInt8), (8 : UInt8), (8 : UInt8), (8 : UInt8), (8 : UInt8), (8 : UInt8), (8 : UInt8), (8 : UInt8), (8 : UInt8)].append [(8 : UInt8), (8 : UInt8), (8 : UInt8), (8 : UInt8), (8 : UInt8), (8 : UInt8), (8 : UInt8), (8 : UInt8), (8 : UInt8), (8 : UInt8), (8 : UInt8), (8 : UInt8), (8 : UInt8), (8 : UInt8), (8 : UInt8), (8 : UInt8), (8 : UInt8), (8 : UInt8), (8 : UInt8), (8 : UInt8), (8 : UInt8), (8 : UInt8), (8 : UInt8), (8 : UInt8), (8 : UInt8), (8 : UInt8), (8 : UInt8), (8 : UInt8), (8 : UInt8), (8 : UInt8), (8 : UInt8), (8 : UInt8), (8 : UInt8), (8 : UInt8), (8 : UInt8), (8 : UInt8), (8 : UInt8), (8 : UInt8), (8 : UInt8), (8 : UInt8), (8 : UInt8), (8 : UInt8), (8 : UInt8), (8 : UInt8), (8 : UInt8), (8 : UInt8), (8 : UInt8), (8 : UInt8), (8 : UInt8), (8 : UInt8), (8 : UInt8), (8 : UInt8), (8 : UInt8), (8 : UInt8), (8 : UInt8), (8 : UInt8), (8 : UInt8), (8 : UInt8), (8 : UInt8), (8 : UInt8), (8 : UInt8), (8 : UInt8), (8 : UInt8), (8 : UInt8)])).toArray)[(IntKind.u8.wrap (n.fdiv ((2 : Int) ^ min (Int.toNat (16 : Int)) IntKind.u64.bits))).toNat]? = some b → k [PV.int IntKind.i64 (IntKind.i64.wrap (IntKind.i64.wrap ((0 : Int) + (16 : Int)) + IntKind.i64.wrap (↑b.toNat : Int)))] [] else bif decide (n ≥ (256 : Int)) then (0 : Int) ≤ (8 : Int) ∧ ((0 : Int) ≤ IntKind.u8.wrap (n.fdiv ((2 : Int) ^ min (Int.toNat (8 : Int)) IntKind.u64.bits)) ∧ IntKind.u8.wrap (n.fdiv ((2 : Int) ^ min (Int.toNat (8 : Int)) IntKind.u64.bits)) < (↑(ByteArray.mk (([(0 : UInt8), (1 : UInt8), (2 : UInt8), (2 : UInt8), (3 : UInt8), (3 : UInt8), (3 : UInt8), (3 : UInt8), (4 : UInt8), (4 : UInt8), (4 : UInt8), (4 : UInt8), (4 : UInt8), (4 : UInt8), (4 : UInt8), (4 : UInt8), (5 : UInt8), (5 : UInt8), (5 : UInt8), (5 : UInt8), (5 : UInt8), (5 : UInt8), (5 : UInt8), (5 : UInt8), (5 : UInt8), (5 : UInt8), (5 : UInt8), (5 : UInt8), (5 : UInt8), (5 : UInt8), (5 : UInt8), (5 : UInt8), (6 : UInt8), (6 : UInt8), (6 : UInt8), (6 : UInt8), (6 : UInt8), (6 : UInt8), (6 : UInt8), (6 : UInt8), (6 : UInt8), (6 : UInt8), (6 : UInt8), (6 : UInt8), (6 : UInt8), (6 : UInt8), (6 : UInt8), (6 : UInt8), (6 : UInt8), (6 : UInt8), (6 : UInt8), (6 : UInt8), (6 : UInt8), (6 : UInt8), (6 : UInt8), (6 : UInt8), (6 : UInt8), (6 : UInt8), (6 : UInt8), (6 : UInt8), (6 : UInt8), (6 : UInt8), (6 : UInt8), (6 : UInt8)].append [(7 : UInt8), (7 : UInt8), (7 : UInt8), (7 : UInt8), (7 : UInt8), (7 : UInt8), (7 : UInt8), (7 : UInt8), (7 : UInt8), (7 : UInt8), (7 : UInt8), (7 : UInt8), (7 : UInt8), (7 : UInt8), (7 : UInt8), (7 : UInt8), (7 : UInt8), (7 : UInt8), (7 : UInt8), (7 : UInt8), (7 : UInt8), (7 : UInt8), (7 : UInt8), (7 : UInt8), (7 : UInt8), (7 : UInt8), (7 : UInt8), (7 : UInt8), (7 : UInt8), (7 : UInt8), (7 : UInt8), (7 : UInt8), (7 : UInt8), (7 : UInt8), (7 : UInt8), (7 : UInt8), (7 : UInt8), (7 : UInt8), (7 : UInt8), (7 : UInt8), (7 : UInt8), (7 : UInt8), (7 : UInt8), (7 : UInt8), (7 : UInt8), (7 : UInt8), (7 : UInt8), (7 : UInt8), (7 : UInt8), (7 : UInt8), (7 : UInt8), (7 : UInt8), (7 : UInt8), (7 : UInt8), (7 : UInt8), (7 : UInt8), (7 : UInt8), (7 : UInt8), (7 : UInt8), (7 : UInt8), (7 : UInt8), (7 : UInt8), (7 : UInt8), (7 : UInt8)]).append ([(8 : UInt8), (8 : UInt8), (8 : UInt8), (8 : UInt8), (8 : UInt8), (8 : UInt8), (8 : UInt8), (8 : UInt8), (8 : UInt8), (8 : UInt8), (8 : UInt8), (8 : UInt8), (8 : UInt8), (8 : UInt8), (8 : UInt8), (8 : UInt8), (8 : UInt8), (8 : UInt8), (8 : UInt8), (8 : UInt8), (8 : UInt8), (8 : UInt8), (8 : UInt8), (8 : UInt8), (8 : UInt8), (8 : UInt8), (8 : UInt8), (8 : UInt8), (8 : UInt8), (8 : UInt8), (8 : UInt8), (8 : UInt8), (8 : UInt8), (8 : UInt8), (8 : UInt8), (8 : UInt8), (8 : UInt8), (8 : UInt8), (8 : UInt8), (8 : UInt8), (8 : UInt8), (8 : UInt8), (8 : UInt8), (8 : UInt8), (8 : UInt8), (8 : UInt8), (8 : UInt8), (8 : UInt8), (8 : UInt8), (8 : UInt8), (8 : UInt8), (8 : UInt8), (8 : UInt8), (8 : UInt8), (8 : UInt8), (8 : UInt8), (8 : UInt8), (8 : UInt8), (8 : UInt8), (8 : UInt8), (8 : UInt8), (8 : UInt8), (8 : UInt8), (8 : UInt8)].append [(8 : UInt8), (8 : UInt8), (8 : UInt8), (8 : UInt8), (8 : UInt8), (8 : UInt8), (8 : UInt8), (8 : UInt8), (8 : UInt8), (8 : UInt8), (8 : UInt8), (8 : UInt8), (8 : UInt8), (8 : UInt8), (8 : UInt8), (8 : UInt8), (8 : UInt8), (8 : UInt8), (8 : UInt8), (8 : UInt8), (8 : UInt8), (8 : UInt8), (8 : UInt8), (8 : UInt8), (8 : UInt8), (8 : UInt8), (8 : UInt8), (8 : UInt8), (8 : UInt8), (8 : UInt8), (8 : UInt8), (8 : UInt8), (8 : UInt8), (8 : UInt8), (8 : UInt8), (8 : UInt8), (8 : UInt8), (8 : UInt8), (8 : UInt8), (8 : UInt8), (8 : UInt8), (8 : UInt8), (8 : UInt8), (8 : UInt8), (8 : UInt8), (8 : UInt8), (8 : UInt8), (8 : UInt8), (8 : UInt8), (8 : UInt8), (8 : UInt8), (8 : UInt8), (8 : UInt8), (8 : UInt8), (8 : UInt8), (8 : UInt8), (8 : UInt8), (8 : UInt8), (8 : UInt8), (8 : UInt8), (8 : UInt8), (8 : UInt8), (8 : UInt8), (8 : UInt8)])).toArray).size : Int)) ∧ ∀ (b : UInt8), (ByteArray.mk (([(0 : UInt8), (1 : UInt8), (2 : UInt8), (2 : UInt8), (3 : UInt8), (3 : UInt8), (3 : UInt8), (3 : UInt8), (4 : UInt8), (4 : UInt8), (4 : UInt8), (4 : UInt8), (4 : UInt8), (4 : UInt8), (4 : UInt8), (4 : UInt8), (5 : UInt8), (5 : UInt8), (5 : UInt8), (5 : UInt8), (5 : UInt8), (5 : UInt8), (5 : UInt8), (5 : UInt8), (5 : UInt8), (5 : UInt8), (5 : UInt8), (5 : UInt8), (5 : UInt8), (5 : UInt8), (5 : UInt8), (5 : UInt8), (6 : UInt8), (6 : UInt8), (6 : UInt8), (6 : UInt8), (6 : UInt8), (6 : UInt8), (6 : UInt8), (6 : UInt8), (6 : UInt8), (6 : UInt8), (6 : UInt8), (6 : UInt8), (6 : UInt8), (6 : UInt8), (6 : UInt8), (6 : UInt8), (6 : UInt8), (6 : UInt8), (6 : UInt8), (6 : UInt8), (6 : UInt8), (6 : UInt8), (6 : UInt8), (6 : UInt8), (6 : UInt8), (6 : UInt8), (6 : UInt8), (6 : UInt8), (6 : UInt8), (6 : UInt8), (6 : UInt8), (6 : UInt8)].append [(7 : UInt8), (7 : UInt8), (7 : UInt8), (7 : UInt8), (7 : UInt8), (7 : UInt8), (7 : UInt8), (7 : UInt8), (7 : UInt8), (7 : UInt8), (7 : UInt8), (7 : UInt8), (7 : UInt8), (7 : UInt8), (7 : UInt8), (7 : UInt8), (7 : UInt8), (7 : UInt8), (7 : UInt8), (7 : UInt8), (7 : UInt8), (7 : UInt8), (7 : UInt8), (7 : UInt8), (7 : UInt8), (7 : UInt8), (7 : UInt8), (7 : UInt8), (7 : UInt8), (7 : UInt8), (7 : UInt8), (7 : UInt8), (7 : UInt8), (7 : UInt8), (7 : UInt8), (7 : UInt8), (7 : UInt8), (7 : UInt8), (7 : UInt8), (7 : UInt8), (7 : UInt8), (7 : UInt8), (7 : UInt8), (7 : UInt8), (7 : UInt8), (7 : UInt8), (7 : UInt8), (7 : UInt8), (7 : UInt8), (7 : UInt8), (7 : UInt8), (7 : UInt8), (7 : UInt8), (7 : UInt8), (7 : UInt8), (7 : UInt8), (7 : UInt8), (7 : UInt8), (7 : UInt8), (7 : UInt8), (7 : UInt8), (7 : UInt8), (7 : UInt8), (7 : UInt8)]).append ([(8 : UInt8), (8 : UInt8), (8 : UInt8), (8 : UInt8), (8 : UInt8), (8 : UInt8), (8 : UInt8), (8 : UInt8), (8 : UInt8), (8 : UInt8), (8 : UInt8), (8 : UInt8), (8 : UInt8), (8 : UInt8), (8 : UInt8), (8 : UInt8), (8 : UInt8), (8 : UInt8), (8 : UInt8), (8 : UInt8), (8 : UInt8), (8 : UInt8), (8 : UInt8), (8 : UInt8), (8 : UInt8), (8 : UInt8), (8 : UInt8), (8 : UInt8), (8 : UInt8), (8 : UInt8), (8 : UInt8), (8 : UInt8), (8 : UInt8), (8 : UInt8), (8 : UInt8), (8 : UInt8), (8 : UInt8), (8 : UInt8), (8 : UInt8), (8 : UInt8), (8 : UInt8), (8 : UInt8), (8 : UInt8), (8 : UInt8), (8 : UInt8), (8 : UInt8), (8 : UInt8), (8 : UInt8), (8 : UInt8), (8 : UInt8), (8 : UInt8), (8 : UInt8), (8 : UInt8), (8 : UInt8), (8 : UInt8), (8 : UInt8), (8 : UInt8), (8 : UInt8), (8 : UInt8), (8 : UInt8), (8 : UInt8), (8 : UInt8), (8 : UInt8), (8 : UInt8)].append [(8 : UInt8), (8 : UInt8), (8 : UInt8), (8 : UInt8), (8 : UInt8), (8 : UInt8), (8 : UInt8), (8 : UInt8), (8 : UInt8), (8 : UInt8), (8 : UInt8), (8 : UInt8), (8 : UInt8), (8 : UInt8), (8 : UInt8), (8 : UInt8), (8 : UInt8), (8 : UInt8), (8 : UInt8), (8 : UInt8), (8 : UInt8), (8 : UInt8), (8 : UInt8), (8 : UInt8), (8 : UInt8), (8 : UInt8), (8 : UInt8), (8 : UInt8), (8 : UInt8), (8 : UInt8), (8 : UInt8), (8 : UInt8), (8 : UInt8), (8 : UInt8), (8 : UInt8), (8 : UInt8), (8 : UInt8), (8 : UInt8), (8 : UInt8), (8 : UInt8), (8 : UInt8), (8 : UInt8), (8 : UInt8), (8 : UInt8), (8 : UInt8), (8 : UInt8), (8 : UInt8), (8 : UInt8), (8 : UInt8), (8 : UInt8), (8 : UInt8), (8 : UInt8), (8 : UInt8), (8 : UInt8), (8 : UInt8), (8 : UInt8), (8 : UInt8), (8 : UInt8), (8 : UInt8), (8 : UInt8), (8 : UInt8), (8 : UInt8), (8 : UInt8), (8 : UInt8)])).toArray)[(IntKind.u8.wrap (n.fdiv ((2 : Int) ^ min (Int.toNat (8 : Int)) IntKind.u64.bits))).toNat]? = some b → k [PV.int IntKind.i64 (IntKind.i64.wrap (IntKind.i64.wrap ((0 : Int) + (8 : Int)) + IntKind.i64.wrap (↑b.toNat : Int)))] [] else ((0 : Int) ≤ IntKind.u8.wrap n ∧ IntKind.u8.wrap n < (↑(ByteArray.mk (([(0 : UInt8), (1 : UInt8), (2 : UInt8), (2 : UInt8), (3 : UInt8), (3 : UInt8), (3 : UInt8), (3 : UInt8), (4 : UInt8), (4 : UInt8), (4 : UInt8), (4 : UInt8), (4 : UInt8), (4 : UInt8), (4 : UInt8), (4 : UInt8), (5 : UInt8), (5 : UInt8), (5 : UInt8), (5 : UInt8), (5 : UInt8), (5 : UInt8), (5 : UInt8), (5 : UInt8), (5 : UInt8), (5 : UInt8), (5 : UInt8), (5 : UInt8), (5 : UInt8), (5 : UInt8), (5 : UInt8), (5 : UInt8), (6 : UInt8), (6 : UInt8), (6 : UInt8), (6 : UInt8), (6 : UInt8), (6 : UInt8), (6 : UInt8), (6 : UInt8), (6 : UInt8), (6 : UInt8), (6 : UInt8), (6 : UInt8), (6 : UInt8), (6 : UInt8), (6 : UInt8), (6 : UInt8), (6 : UInt8), (6 : UInt8), (6 : UInt8), (6 : UInt8), (6 : UInt8), (6 : UInt8), (6 : UInt8), (6 : UInt8), (6 : UInt8), (6 : UInt8), (6 : UInt8), (6 : UInt8), (6 : UInt8), (6 : UInt8), (6 : UInt8), (6 : UInt8)].append [(7 : UInt8), (7 : UInt8), (7 : UInt8), (7 : UInt8), (7 : UInt8), (7 : UInt8), (7 : UInt8), (7 : UInt8), (7 : UInt8), (7 : UInt8), (7 : UInt8), (7 : UInt8), (7 : UInt8), (7 : UInt8), (7 : UInt8), (7 : UInt8), (7 : UInt8), (7 : UInt8), (7 : UInt8), (7 : UInt8), (7 : UInt8), (7 : UInt8), (7 : UInt8), (7 : UInt8), (7 : UInt8), (7 : UInt8), (7 : UInt8), (7 : UInt8), (7 : UInt8), (7 : UInt8), (7 : UInt8), (7 : UInt8), (7 : UInt8), (7 : UInt8), (7 : UInt8), (7 : UInt8), (7 : UInt8), (7 : UInt8), (7 : UInt8), (7 : UInt8), (7 : UInt8), (7 : UInt8), (7 : UInt8), (7 : UInt8), (7 : UInt8), (7 : UInt8), (7 : UInt8), (7 : UInt8), (7 : UInt8), (7 : UInt8), (7 : UInt8), (7 : UInt8), (7 : UInt8), (7 : UInt8), (7 : UInt8), (7 : UInt8), (7 : UInt8), (7 : UInt8), (7 : UInt8), (7 : UInt8), (7 : UInt8), (7 : UInt8), (7 : UInt8), (7 : UInt8)]).append ([(8 : UInt8), (8 : UInt8), (8 : UInt8), (8 : UInt8), (8 : UInt8), (8 : UInt8), (8 : UInt8), (8 : UInt8), (8 : UInt8), (8 : UInt8), (8 : UInt8), (8 : UInt8), (8 : UInt8), (8 : UInt8), (8 : UInt8), (8 : UInt8), (8 : UInt8), (8 : UInt8), (8 : UInt8), (8 : UInt8), (8 : UInt8), (8 : UInt8), (8 : UInt8), (8 : UInt8), (8 : UInt8), (8 : UInt8), (8 : UInt8), (8 : UInt8), (8 : UInt8), (8 : UInt8), (8 : UInt8), (8 : UInt8), (8 : UInt8), (8 : UInt8), (8 : UInt8), (8 : UInt8), (8 : UInt8), (8 : UInt8), (8 : UInt8), (8 : UInt8), (8 : UInt8), (8 : UInt8), (8 : UInt8), (8 : UInt8), (8 : UInt8), (8 : UInt8), (8 : UInt8), (8 : UInt8), (8 : UInt8), (8 : UInt8), (8 : UInt8), (8 : UInt8), (8 : UInt8), (8 : UInt8), (8 : UInt8), (8 : UInt8), (8 : UInt8), (8 : UInt8), (8 : UInt8), (8 : UInt8), (8 : UInt8), (8 : UInt8), (8 : UInt8), (8 : UInt8)].append [(8 : UInt8), (8 : UInt8), (8 : UInt8), (8 : UInt8), (8 : UInt8), (8 : UInt8), (8 : UInt8), (8 : UInt8), (8 : UInt8), (8 : UInt8), (8 : UInt8), (8 : UInt8), (8 : UInt8), (8 : UInt8), (8 : UInt8), (8 : UInt8), (8 : UInt8), (8 : UInt8), (8 : UInt8), (8 : UInt8), (8 : UInt8), (8 : UInt8), (8 : UInt8), (8 : UInt8), (8 : UInt8), (8 : UInt8), (8 : UInt8), (8 : UInt8), (8 : UInt8), (8 : UInt8), (8 : UInt8), (8 : UInt8), (8 : UInt8), (8 : UInt8), (8 : UInt8), (8 : UInt8), (8 : UInt8), (8 : UInt8), (8 : UInt8), (8 : UInt8), (8 : UInt8), (8 : UInt8), (8 : UInt8), (8 : UInt8), (8 : UInt8), (8 : UInt8), (8 : UInt8), (8 : UInt8), (8 : UInt8), (8 : UInt8), (8 : UInt8), (8 : UInt8), (8 : UInt8), (8 : UInt8), (8 : UInt8), (8 : UInt8), (8 : UInt8), (8 : UInt8), (8 : UInt8), (8 : UInt8), (8 : UInt8), (8 : UInt8), (8 : UInt8), (8 : UInt8)])).toArray).size : Int)) ∧ ∀ (b : UInt8), (ByteArray.mk (([(0 : UInt8), (1 : UInt8), (2 : UInt8), (2 : UInt8), (3 : UInt8), (3 : UInt8), (3 : UInt8), (3 : UInt8), (4 : UInt8), (4 : UInt8), (4 : UInt8), (4 : UInt8), (4 : UInt8), (4 : UInt8), (4 : UInt8), (4 : UInt8), (5 : UInt8), (5 : UInt8), (5 : UInt8), (5 : UInt8), (5 : UInt8), (5 : UInt8), (5 : UInt8), (5 : UInt8), (5 : UInt8), (5 : UInt8), (5 : UInt8), (5 : UInt8), (5 : UInt8), (5 : UInt8), (5 : UInt8), (5 : UInt8), (6 : UInt8), (6 : UInt8), (6 : UInt8), (6 : UInt8), (6 : UInt8), (6 : UInt8), (6 : UInt8), (6 : UInt8), (6 : UInt8), (6 : UInt8), (6 : UInt8), (6 : UInt8), (6 : UInt8), (6 : UInt8), (6 : UInt8), (6 : UInt8), (6 : UInt8), (6 : UInt8), (6 : UInt8), (6 : UInt8), (6 : UInt8), (6 : UInt8), (6 : UInt8), (6 : UInt8), (6 : UInt8), (6 : UInt8), (6 : UInt8), (6 : UInt8), (6 : UInt8), (6 : UInt8), (6 : UInt8), (6 : UInt8)].append [(7 : UInt8), (7 : UInt8), (7 : UInt8), (7 : UInt8), (7 : UInt8), (7 : UInt8), (7 : UInt8), (7 : UInt8), (7 : UInt8), (7 : UInt8), (7 : UInt8), (7 : UInt8), (7 : UInt8), (7 : UInt8), (7 : UInt8), (7 : UInt8), (7 : UInt8), (7 : UInt8), (7 : UInt8), (7 : UInt8), (7 : UInt8), (7 : UInt8), (7 : UInt8), (7 : UInt8), (7 : UInt8), (7 : UInt8), (7 : UInt8), (7 : UInt8), (7 : UInt8), (7 : UInt8), (7 : UInt8), (7 : UInt8), (7 : UInt8), (7 : UInt8), (7 : UInt8), (7 : UInt8), (7 : UInt8), (7 : UInt8), (7 : UInt8), (7 : UInt8), (7 : UInt8), (7 : UInt8), (7 : UInt8), (7 : UInt8), (7 : UInt8), (7 : UInt8), (7 : UInt8), (7 : UInt8), (7 : UInt8), (7 : UInt8), (7 : UInt8), (7 : UInt8), (7 : UInt8), (7 : UInt8), (7 : UInt8), (7 : UInt8), (7 : UInt8), (7 : UInt8), (7 : UInt8), (7 : UInt8), (7 : UInt8), (7 : UInt8), (7 : UInt8), (7 : UInt8)]).append ([(8 : UInt8), (8 : UInt8), (8 : UInt8), (8 : UInt8), (8 : UInt8), (8 : UInt8), (8 : UInt8), (8 : UInt8), (8 : UInt8), (8 : UInt8), (8 : UInt8), (8 : UInt8), (8 : UInt8), (8 : UInt8), (8 : UInt8), (8 : UInt8), (8 : UInt8), (8 : UInt8), (8 : UInt8), (8 : UInt8), (8 : UInt8), (8 : UInt8), (8 : UInt8), (8 : UInt8), (8 : UInt8), (8 : UInt8), (8 : UInt8), (8 : UInt8), (8 : UInt8), (8 : UInt8), (8 : UInt8), (8 : UInt8), (8 : UInt8), (8 : UInt8), (8 : UInt8), (8 : UInt8), (8 : UInt8), (8 : UInt8), (8 : UInt8), (8 : UInt8), (8 : UInt8), (8 : UInt8), (8 : UInt8), (8 : UInt8), (8 : UInt8), (8 : UInt8), (8 : UInt8), (8 : UInt8), (8 : UInt8), (8 : UInt8), (8 : UInt8), (8 : UInt8), (8 : UInt8), (8 : UInt8), (8 : UInt8), (8 : UInt8), (8 : UInt8), (8 : UInt8), (8 : UInt8), (8 : UInt8), (8 : UInt8), (8 : UInt8), (8 : UInt8), (8 : UInt8)].append [(8 : UInt8), (8 : UInt8), (8 : UInt8), (8 : UInt8), (8 : UInt8), (8 : UInt8), (8 : UInt8), (8 : UInt8), (8 : UInt8), (8 : UInt8), (8 : UInt8), (8 : UInt8), (8 : UInt8), (8 : UInt8), (8 : UInt8), (8 : UInt8), (8 : UInt8), (8 : UInt8), (8 : UInt8), (8 : UInt8), (8 : UInt8), (8 : UInt8), (8 : UInt8), (8 : UInt8), (8 : UInt8), (8 : UInt8), (8 : UInt8), (8 : UInt8), (8 : UInt8), (8 : UInt8), (8 : UInt8), (8 : UInt8), (8 : UInt8), (8 : UInt8), (8 : UInt8), (8 : UInt8), (8 : UInt8), (8 : UInt8), (8 : UInt8), (8 : UInt8), (8 : UInt8), (8 : UInt8), (8 : UInt8), (8 : UInt8), (8 : UInt8), (8 : UInt8), (8 : UInt8), (8 : UInt8), (8 : UInt8), (8 : UInt8), (8 : UInt8), (8 : UInt8), (8 : UInt8), (8 : UInt8), (8 : UInt8), (8 : UInt8), (8 : UInt8), (8 : UInt8), (8 : UInt8), (8 : UInt8), (8 : UInt8), (8 : UInt8), (8 : UInt8), (8 : UInt8)])).toArray)[(IntKind.u8.wrap n).toNat]? = some b → k [PV.int IntKind.i64 (IntKind.i64.wrap ((0 : Int) + IntKind.i64.wrap (↑b.toNat : Int)))] []) := by kernel_rfl
theorem ok_len64 : FunS B 125 len64S := by
  refine funS_of (N := 25) (f := ff_len64) env_RE0 mixed fn_len64 (by kernel_rfl) (by kernel_rfl) (by kernel_rfl) len64S_mono ?_
  intro A k ys hA hF
  obtain ⟨n, rfl, hn, hk⟩ := len64S_inv hF; clear hF
  refine ⟨by kernel_rfl, (hA.nf (nf_len64 A k n) ?_)⟩
  rcases hn with rfl | rfl
  · refine ⟨by decide, fun b hb => ?_⟩
    have : b = 0 := (Option.some.inj hb).symm
    subst this; exact hk
  · refine ⟨by decide, fun b hb => ?_⟩
    have : b = 1 := (Option.some.inj hb).symm
    subst this; exact hk
noncomputable def RE1 := base (fun g => match g with | 133 => some (lift 0 namesF) | 106 => some (lift 0 namesF) | 62 => some (lift 0 cloneS) | 63 => some (eitherOwn (lift 1 putIS) (lift 0 putS)) | 33 => some (lift 0 NewS) | 73 => some (lift 1 EnterS) | 101 => some (lift 1 FailS) | 76 => some (lift 1 NeedS) | 74 => some (lift 1 ErrS) | 100 => some (lift 1 numberS) | 75 => some (lift 1 U8S) | _ => none) (fun g => match g with | 83 => some nameS | 103 => some nameS | 48 => some newS | 50 => some atS | 71 => some inS | 89 => some sizeS | 132 => some rSizeS | 58 => some getS | 102 => some getS | 61 => some fitsS | 23 => some ofS | 39 => some PlaceS | 37 => some LeftS | 80 => some nanS | 43 => some cmpIS | 42 => some orS | 99 => some cmpPS | 69 => some idS | 72 => some ltPS | 70 => some ltPS | 125 => some len64S | _ => none) (fun _ => none)
theorem env_RE1 : EnvOk RE1 := env_of (by
    intro g F h
    split at h
    · cases h; exact ok_Name
    · cases h; exact ok_rName
    · cases h; exact ok_New
    · cases h; exact ok_At
    · cases h; exact ok_In
    · cases h; exact ok_size
    · cases h; exact ok_rSize
    · cases h; exact ok_Get
    · cases h; exact ok_rGet
    · cases h; exact ok_fits
    · cases h; exact of_ok
    · cases h; exact ok_Place
    · cases h; exact ok_Left
    · cases h; exact ok_nanI
    · cases h; exact ok_cmpI
    · cases h; exact ok_orF
    · cases h; exact ok_cmpP
    · cases h; exact ok_prRight
    · cases h; exact ok_rLess10
    · cases h; exact ok_less10
    · cases h; exact ok_len64
    · cases h) (by
    intro g F h
    split at h
    · cases h; exact (lift_ok ok_rnames)
    · cases h; exact (lift_ok ok_names)
    · cases h; exact (lift_ok ok_clone)
    · cases h; exact (eitherOwn_ok (lift_ok ok_putI) (lift_ok ok_put))
    · cases h; exact (lift_ok ok_rNew)
    · cases h; exact (lift_ok ok_Enter)
    · cases h; exact (lift_ok ok_Fail)
    · cases h; exact (lift_ok ok_Need)
    · cases h; exact (lift_ok ok_rErr)
    · cases h; exact (lift_ok ok_number)
    · cases h; exact (lift_ok ok_U8)
    · cases h) (fun g F h => (by cases h))
theorem fn_bLen : FnOk Tryd.prog 95 Tryd.f95 (bodyOf Tryd.f95) := ⟨by kernel_rfl, by kernel_rfl, by kernel_rfl⟩
noncomputable def ff_bLen : Fun := ⟨Tryd.f95.ntmps, 0, Tryd.f95.results.toList, fun _ => none, fun _ => false, fun _ => []⟩
theorem nf_bLen (A : KA Kd) (k : List PV → Heap Kd → Prop) (n : Int) : evT RE1 ff_bLen A k 400 false [.code (bodyOf Tryd.f95)] (startEnv 8 [.int .u64 n]) [] = ((n = (0 : Int) ∨ n = (1 : Int)) ∧ k [PV.int IntKind.i64 n] []) := by kernel_rfl
theorem ok_bLen : FunS B 95 len64S := by
  refine funS_of (N := 8) (f := ff_bLen) env_RE1 mixed fn_bLen (by kernel_rfl) (by kernel_rfl) (by kernel_rfl) len64S_mono ?_
  intro A k ys hA hF
  obtain ⟨n, rfl, hn, hk⟩ := len64S_inv hF; clear hF
  refine ⟨by kernel_rfl, (hA.nf (nf_bLen A k n) ?_)⟩
  exact ⟨hn, hk⟩
def insS : SpecS := fun ys Φ => match ys with
  | [x_0, .int .i64 0, .int .i64 n] => ∃ (xs : List Int), x_0 = .sl _ e_int xs ∧ (n ≤ 1) ∧ Φ []
  | _ => False
theorem insS_mono : MonoS insS := by
  intro ys Φ Ψ h hF
  unfold insS at hF ⊢
  split at hF
  · obtain ⟨a0, q0, hp, hk⟩ := hF; exact ⟨a0, q0, hp, h _ hk⟩
  · exact hF.elim
theorem insS_inv {ys : List PV} {Φ : List PV → Prop} (h : insS ys Φ) : ∃ (xs : List Int) (n : Int), ys = [.sl _ e_int xs, .int .i64 0, .int .i64 n] ∧ (n ≤ 1) ∧ Φ [] := by
  unfold insS at h
  split at h
  · obtain ⟨a0, q0, hz⟩ := h
    subst q0
    exact ⟨a0, _, rfl, hz⟩
  · exact h.elim
theorem fn_insS : FnOk Tryd.prog 155 Tryd.f155 (bodyOf Tryd.f155) := ⟨by kernel_rfl, by kernel_rfl, by kernel_rfl⟩
noncomputable def ff_insS : Fun := ⟨Tryd.f155.ntmps, 0, Tryd.f155.results.toList, fun i => match i with | 4 => some [0, 1, 2, 6, 7] | 1 => some [0, 1, 2, 6] | _ => none, fun _ => false, fun _ => []⟩
theorem nf_insS_a (A : KA Kd) (k : List PV → Heap Kd → Prop) (xs : List Int) (n : Int) : evT RE1 ff_insS A k 400 false [.code (bodyOf Tryd.f155)] (startEnv 49 [.sl _ e_int xs, .int .i64 0, .int .i64 n]) [] = (A (td Tryd.f155 (1 : Nat)) (envAt (49 : Nat) [((0 : Nat), PV.sl Int e_int xs), ((1 : Nat), PV.int IntKind.i64 (0 : Int)), ((2 : Nat), PV.int IntKind.i64 n), ((6 : Nat), PV.int IntKind.i64 (IntKind.i64.wrap ((0 : Int) + (1 : Int))))]) []) := by kernel_rfl
theorem nf_insS_b (A : KA Kd) (k : List PV → Heap Kd → Prop) (xs : List Int) (n i : Int) : evT RE1 ff_insS A k 400 true (td Tryd.f155 1) (envAt 49 [(0, .sl _ e_int xs), (1, .int .i64 0), (2, .int .i64 n), (6, .int .i64 i)]) [] = (bif decide (i < n) then A (td Tryd.f155 (4 : Nat)) (envAt (49 : Nat) [((0 : Nat), PV.sl Int e_int xs), ((1 : Nat), PV.int IntKind.i64 (0 : Int)), ((2 : Nat), PV.int IntKind.i64 n), ((6 : Nat), PV.int IntKind.i64 i), ((7 : Nat), PV.int IntKind.i64 i)]) []
else k [] []) := by kernel_rfl
theorem ok_insS : FunS B 155 insS := by
  refine funS_of (N := 49) (f := ff_insS) env_RE1 mixed fn_insS (by kernel_rfl) (by kernel_rfl) (by kernel_rfl) insS_mono ?_
  intro A k ys hA hF
  obtain ⟨xs, n, rfl, hn, hk⟩ := insS_inv hF; clear hF
  refine ⟨by kernel_rfl, (hA.nf (nf_insS_a A k xs n) ?_)⟩
  refine (hA.nf (nf_insS_b A k xs n _) ?_)
  have d : decide (IntKind.i64.wrap (0 + 1) < n) = false := decide_eq_false (by rw [wrap_id _ (by omega) (by omega)]; omega)
  rw [d, cond_false]; exact hk
noncomputable def RE2 := base (fun g => match g with | 133 => some (lift 0 namesF) | 106 => some (lift 0 namesF) | 62 => some (lift 0 cloneS) | 63 => some (eitherOwn (lift 1 putIS) (lift 0 putS)) | 33 => some (lift 0 NewS) | 73 => some (lift 1 EnterS) | 101 => some (lift 1 FailS) | 76 => some (lift 1 NeedS) | 74 => some (lift 1 ErrS) | 100 => some (lift 1 numberS) | 75 => some (lift 1 U8S) | _ => none) (fun g => match g with | 83 => some nameS | 103 => some nameS | 48 => some newS | 50 => some atS | 71 => some inS | 89 => some sizeS | 132 => some rSizeS | 58 => some getS | 102 => some getS | 61 => some fitsS | 23 => some ofS | 39 => some PlaceS | 37 => some LeftS | 80 => some nanS | 43 => some cmpIS | 42 => some orS | 99 => some cmpPS | 69 => some idS | 72 => some ltPS | 70 => some ltPS | 125 => some len64S | 95 => some len64S | 155 => some insS | _ => none) (fun _ => none)
theorem env_RE2 : EnvOk RE2 := env_of (by
    intro g F h
    split at h
    · cases h; exact ok_Name
    · cases h; exact ok_rName
    · cases h; exact ok_New
    · cases h; exact ok_At
    · cases h; exact ok_In
    · cases h; exact ok_size
    · cases h; exact ok_rSize
    · cases h; exact ok_Get
    · cases h; exact ok_rGet
    · cases h; exact ok_fits
    · cases h; exact of_ok
    · cases h; exact ok_Place
    · cases h; exact ok_Left
    · cases h; exact ok_nanI
    · cases h; exact ok_cmpI
    · cases h; exact ok_orF
    · cases h; exact ok_cmpP
    · cases h; exact ok_prRight
    · cases h; exact ok_rLess10
    · cases h; exact ok_less10
    · cases h; exact ok_len64
    · cases h; exact ok_bLen
    · cases h; exact ok_insS
    · cases h) (by
    intro g F h
    split at h
    · cases h; exact (lift_ok ok_rnames)
    · cases h; exact (lift_ok ok_names)
    · cases h; exact (lift_ok ok_clone)
    · cases h; exact (eitherOwn_ok (lift_ok ok_putI) (lift_ok ok_put))
    · cases h; exact (lift_ok ok_rNew)
    · cases h; exact (lift_ok ok_Enter)
    · cases h; exact (lift_ok ok_Fail)
    · cases h; exact (lift_ok ok_Need)
    · cases h; exact (lift_ok ok_rErr)
    · cases h; exact (lift_ok ok_number)
    · cases h; exact (lift_ok ok_U8)
    · cases h) (fun g F h => (by cases h))
def pdqS : SpecS := fun ys Φ => match ys with
  | [x_0, .int .i64 0, .int .i64 n, .int .i64 l] => ∃ (xs : List Int), x_0 = .sl _ e_int xs ∧ (0 ≤ n ∧ n ≤ 1) ∧ Φ []
  | _ => False
theorem pdqS_mono : MonoS pdqS := by
  intro ys Φ Ψ h hF
  unfold pdqS at hF ⊢
  split at hF
  · obtain ⟨a0, q0, hp, hk⟩ := hF; exact ⟨a0, q0, hp, h _ hk⟩
  · exact hF.elim
theorem pdqS_inv {ys : List PV} {Φ : List PV → Prop} (h : pdqS ys Φ) : ∃ (xs : List Int) (n : Int) (l : Int), ys = [.sl _ e_int xs, .int .i64 0, .int .i64 n, .int .i64 l] ∧ (0 ≤ n ∧ n ≤ 1) ∧ Φ [] := by
  unfold pdqS at h
  split at h
  · obtain ⟨a0, q0, hz⟩ := h
    subst q0
    exact ⟨a0, _, _, rfl, hz⟩
  · exact h.elim
theorem fn_pdqS : FnOk Tryd.prog 146 Tryd.f146 (bodyOf Tryd.f146) := ⟨by kernel_rfl, by kernel_rfl, by kernel_rfl⟩
noncomputable def ff_pdqS : Fun := ⟨Tryd.f146.ntmps, 0, Tryd.f146.results.toList, fun i => match i with | 2 => some [0, 1, 2, 3, 8, 9] | _ => none, fun _ => false, fun _ => []⟩
theorem nf_pdqS_a (A : KA Kd) (k : List PV → Heap Kd → Prop) (xs : List Int) (n l : Int) : evT RE2 ff_pdqS A k 400 false [.code (bodyOf Tryd.f146)] (startEnv 134 [.sl _ e_int xs, .int .i64 0, .int .i64 n, .int .i64 l]) [] = (A (td Tryd.f146 (2 : Nat)) (envAt (134 : Nat) [((0 : Nat), PV.sl Int e_int xs), ((1 : Nat), PV.int IntKind.i64 (0 : Int)), ((2 : Nat), PV.int IntKind.i64 n), ((3 : Nat), PV.int IntKind.i64 l), ((8 : Nat), PV.bool true), ((9 : Nat), PV.bool true)]) []) := by kernel_rfl
theorem nf_pdqS_b (A : KA Kd) (k : List PV → Heap Kd → Prop) (xs : List Int) (n l : Int) : evT RE2 ff_pdqS A k 400 true (td Tryd.f146 2) (envAt 134 [(0, .sl _ e_int xs), (1, .int .i64 0), (2, .int .i64 n), (3, .int .i64 l), (8, .bool true), (9, .bool true)]) [] = (bif decide (IntKind.i64.wrap (n - (0 : Int)) ≤ (12 : Int)) then ∃ (xs_1 : List Int), PV.sl Int e_int xs = PV.sl Int e_int xs_1 ∧ n ≤ (1 : Int) ∧ k [] []
else bif l == (0 : Int) then False else False) := by kernel_rfl
theorem ok_pdqS : FunS B 146 pdqS := by
  refine funS_of (N := 134) (f := ff_pdqS) env_RE2 mixed fn_pdqS (by kernel_rfl) (by kernel_rfl) (by kernel_rfl) pdqS_mono ?_
  intro A k ys hA hF
  obtain ⟨xs, n, l, rfl, ⟨h0, hn⟩, hk⟩ := pdqS_inv hF; clear hF
  refine ⟨by kernel_rfl, (hA.nf (nf_pdqS_a A k xs n l) ?_)⟩
  refine (hA.nf (nf_pdqS_b A k xs n l) ?_)
  have d : decide (IntKind.i64.wrap (n - 0) ≤ 12) = true := decide_eq_true (by rw [wrap_id _ (by omega) (by omega)]; omega)
  rw [d, cond_true]; exact ⟨xs, rfl, hn, hk⟩
noncomputable def RE3 := base (fun g => match g with | 133 => some (lift 0 namesF) | 106 => some (lift 0 namesF) | 62 => some (lift 0 cloneS) | 63 => some (eitherOwn (lift 1 putIS) (lift 0 putS)) | 33 => some (lift 0 NewS) | 73 => some (lift 1 EnterS) | 101 => some (lift 1 FailS) | 76 => some (lift 1 NeedS) | 74 => some (lift 1 ErrS) | 100 => some (lift 1 numberS) | 75 => some (lift 1 U8S) | _ => none) (fun g => match g with | 83 => some nameS | 103 => some nameS | 48 => some newS | 50 => some atS | 71 => some inS | 89 => some sizeS | 132 => some rSizeS | 58 => some getS | 102 => some getS | 61 => some fitsS | 23 => some ofS | 39 => some PlaceS | 37 => some LeftS | 80 => some nanS | 43 => some cmpIS | 42 => some orS | 99 => some cmpPS | 69 => some idS | 72 => some ltPS | 70 => some ltPS | 125 => some len64S | 95 => some len64S | 155 => some insS | 146 => some pdqS | _ => none) (fun _ => none)
theorem env_RE3 : EnvOk RE3 := env_of (by
    intro g F h
    split at h
    · cases h; exact ok_Name
    · cases h; exact ok_rName
    · cases h; exact ok_New
    · cases h; exact ok_At
    · cases h; exact ok_In
    · cases h; exact ok_size
    · cases h; exact ok_rSize
    · cases h; exact ok_Get
    · cases h; exact ok_rGet
    · cases h; exact ok_fits
    · cases h; exact of_ok
    · cases h; exact ok_Place
    · cases h; exact ok_Left
    · cases h; exact ok_nanI
    · cases h; exact ok_cmpI
    · cases h; exact ok_orF
    · cases h; exact ok_cmpP
    · cases h; exact ok_prRight
    · cases h; exact ok_rLess10
    · cases h; exact ok_less10
    · cases h; exact ok_len64
    · cases h; exact ok_bLen
    · cases h; exact ok_insS
    · cases h; exact ok_pdqS
    · cases h) (by
    intro g F h
    split at h
    · cases h; exact (lift_ok ok_rnames)
    · cases h; exact (lift_ok ok_names)
    · cases h; exact (lift_ok ok_clone)
    · cases h; exact (eitherOwn_ok (lift_ok ok_putI) (lift_ok ok_put))
    · cases h; exact (lift_ok ok_rNew)
    · cases h; exact (lift_ok ok_Enter)
    · cases h; exact (lift_ok ok_Fail)
    · cases h; exact (lift_ok ok_Need)
    · cases h; exact (lift_ok ok_rErr)
    · cases h; exact (lift_ok ok_number)
    · cases h; exact (lift_ok ok_U8)
    · cases h) (fun g F h => (by cases h))
def sortS : SpecS := fun ys Φ => match ys with
  | [x_0] => ∃ (xs : List Int), x_0 = .sl _ e_int xs ∧ (xs.length ≤ 1) ∧ Φ []
  | _ => False
theorem sortS_mono : MonoS sortS := by
  intro ys Φ Ψ h hF
  unfold sortS at hF ⊢
  split at hF
  · obtain ⟨a0, q0, hp, hk⟩ := hF; exact ⟨a0, q0, hp, h _ hk⟩
  · exact hF.elim
theorem sortS_inv {ys : List PV} {Φ : List PV → Prop} (h : sortS ys Φ) : ∃ (xs : List Int), ys = [.sl _ e_int xs] ∧ (xs.length ≤ 1) ∧ Φ [] := by
  unfold sortS at h
  split at h
  · obtain ⟨a0, q0, hz⟩ := h
    subst q0
    exact ⟨a0, rfl, hz⟩
  · exact h.elim
theorem fn_sortS : FnOk Tryd.prog 126 Tryd.f126 (bodyOf Tryd.f126) := ⟨by kernel_rfl, by kernel_rfl, by kernel_rfl⟩
noncomputable def ff_sortS : Fun := ⟨Tryd.f126.ntmps, 0, Tryd.f126.results.toList, fun _ => none, fun _ => false, fun _ => []⟩
theorem nf_sortS (A : KA Kd) (k : List PV → Heap Kd → Prop) (xs : List Int) : evT RE3 ff_sortS A k 400 false [.code (bodyOf Tryd.f126)] (startEnv 11 [.sl _ e_int xs]) [] = ((IntKind.u64.wrap (↑xs.length : Int) = (0 : Int) ∨ IntKind.u64.wrap (↑xs.length : Int) = (1 : Int)) ∧ ∃ (xs_1 : List Int), PV.sl Int e_int xs = PV.sl Int e_int xs_1 ∧ ((0 : Int) ≤ (↑xs.length : Int) ∧ (↑xs.length : Int) ≤ (1 : Int)) ∧ k [] []) := by kernel_rfl
theorem ok_sortS : FunS B 126 sortS := by
  refine funS_of (N := 11) (f := ff_sortS) env_RE3 mixed fn_sortS (by kernel_rfl) (by kernel_rfl) (by kernel_rfl) sortS_mono ?_
  intro A k ys hA hF
  obtain ⟨xs, rfl, h, hk⟩ := sortS_inv hF; clear hF
  refine ⟨by kernel_rfl, (hA.nf (nf_sortS A k xs) ?_)⟩
  rw [u64_id _ (by omega) (by omega)]
  exact ⟨by omega, xs, rfl, ⟨by omega, by omega⟩, hk⟩
def cptS : List PV → Heap Kd → (List PV → Heap Kd → Prop) → Prop := fun ys L k => match ys, L with
  | [.own 0], [.row 3 xs] => (xs.length ≤ 1) ∧ k [.own 0] [.row 3 xs]
  | _, _ => False
theorem cptS_inv {ys : List PV} {L : Heap Kd} {k : List PV → Heap Kd → Prop} (h : cptS ys L k) : ∃ (xs : List Int), ys = [.own 0] ∧ L = [.row 3 xs] ∧ (xs.length ≤ 1) ∧ k [.own 0] [.row 3 xs] := by
  unfold cptS at h
  split at h
  · exact ⟨_, rfl, rfl, h⟩
  · exact h.elim
theorem fn_cptS : FnOk Tryd.prog 127 Tryd.f127 (bodyOf Tryd.f127) := ⟨by kernel_rfl, by kernel_rfl, by kernel_rfl⟩
noncomputable def ff_cptS : Fun := ⟨Tryd.f127.ntmps, 1, Tryd.f127.results.toList, fun i => match i with | 9 => some [0, 3, 4, 5] | 4 => some [0, 3] | _ => none, fun _ => false, fun _ => []⟩
theorem nf_cptS (A : KA Kd) (k : List PV → Heap Kd → Prop) (xs : List Int) : evT RE3 ff_cptS A k 400 false [.code (bodyOf Tryd.f127)] (startEnv 61 [.own 0]) [.row 3 xs] = (bif decide ((↑xs.length : Int) < (2 : Int)) then k [PV.own (0 : Nat)] [AObj.row (3 : Nat) xs]
else A (td Tryd.f127 (4 : Nat)) (envAt (61 : Nat) [((0 : Nat), PV.own (0 : Nat)), ((3 : Nat), PV.int IntKind.i64 (1 : Int))]) [AObj.row (3 : Nat) xs]) := by kernel_rfl
theorem ok_cptS : FunF B 127 1 cptS := by
  refine funF_of (N := 61) (f := ff_cptS) env_RE3 mixed fn_cptS (by kernel_rfl) (by kernel_rfl) ?_
  intro A k ys L hA hF
  obtain ⟨xs, rfl, rfl, h, hk⟩ := cptS_inv hF; clear hF
  refine ⟨by kernel_rfl, (hA.nf (nf_cptS A k xs) ?_)⟩
  have d : decide ((xs.length : Int) < 2) = true := decide_eq_true (by omega)
  rw [d, cond_true]; exact hk
def lessIS : SpecS := fun ys Φ => match ys with
  | [.int .i64 a, .int .i64 b] => Φ [.bool (decide (a < b))]
  | _ => False
theorem lessIS_mono : MonoS lessIS := by
  intro ys Φ Ψ h hF
  unfold lessIS at hF ⊢
  split at hF
  · exact h _ hF
  · exact hF.elim
theorem lessIS_inv {ys : List PV} {Φ : List PV → Prop} (h : lessIS ys Φ) : ∃ (a : Int) (b : Int), ys = [.int .i64 a, .int .i64 b] ∧ Φ [.bool (decide (a < b))] := by
  unfold lessIS at h
  split at h
  · exact ⟨_, _, rfl, h⟩
  · exact h.elim
theorem fn_lessI : FnOk Tryd.prog 128 Tryd.f128 (bodyOf Tryd.f128) := ⟨by kernel_rfl, by kernel_rfl, by kernel_rfl⟩
noncomputable def ff_lessI : Fun := ⟨Tryd.f128.ntmps, 0, Tryd.f128.results.toList, fun _ => none, fun _ => false, fun _ => []⟩
theorem nf_lessI (A : KA Kd) (k : List PV → Heap Kd → Prop) (a b : Int) : evT RE3 ff_lessI A k 400 false [.code (bodyOf Tryd.f128)] (startEnv 17 [.int .i64 a, .int .i64 b]) [] = (k [PV.bool (decide (a < b))] []) := by kernel_rfl
theorem ok_lessI : FunS B 128 lessIS := by
  refine funS_of (N := 17) (f := ff_lessI) env_RE3 mixed fn_lessI (by kernel_rfl) (by kernel_rfl) (by kernel_rfl) lessIS_mono ?_
  intro A k ys hA hF
  obtain ⟨a, b, rfl, hk⟩ := lessIS_inv hF; clear hF
  refine ⟨by kernel_rfl, (hA.nf (nf_lessI A k a b) ?_)⟩
  cases h : decide (a < b) <;> rw [h] at hk <;> exact hk
theorem fn_nanJ : FnOk Tryd.prog 129 Tryd.f129 (bodyOf Tryd.f129) := ⟨by kernel_rfl, by kernel_rfl, by kernel_rfl⟩
noncomputable def ff_nanJ : Fun := ⟨Tryd.f129.ntmps, 0, Tryd.f129.results.toList, fun _ => none, fun _ => false, fun _ => []⟩
theorem nf_nanJ (A : KA Kd) (k : List PV → Heap Kd → Prop) (v : Int) : evT RE3 ff_nanJ A k 400 false [.code (bodyOf Tryd.f129)] (startEnv 6 [.int .i64 v]) [] = (k [PV.bool (v != v)] []) := by kernel_rfl
theorem ok_nanJ : FunS B 129 nanS := by
  refine funS_of (N := 6) (f := ff_nanJ) env_RE3 mixed fn_nanJ (by kernel_rfl) (by kernel_rfl) (by kernel_rfl) nanS_mono ?_
  intro A k ys hA hF
  obtain ⟨v, rfl, hk⟩ := nanS_inv hF; clear hF
  refine ⟨by kernel_rfl, (hA.nf (nf_nanJ A k v) ?_)⟩
  rw [bne_self_eq_false]; exact hk
noncomputable def RE4 := base (fun g => match g with | 133 => some (lift 0 namesF) | 106 => some (lift 0 namesF) | 62 => some (lift 0 cloneS) | 63 => some (eitherOwn (lift 1 putIS) (lift 0 putS)) | 33 => some (lift 0 NewS) | 73 => some (lift 1 EnterS) | 101 => some (lift 1 FailS) | 76 => some (lift 1 NeedS) | 74 => some (lift 1 ErrS) | 100 => some (lift 1 numberS) | 75 => some (lift 1 U8S) | 127 => some (lift 1 cptS) | _ => none) (fun g => match g with | 83 => some nameS | 103 => some nameS | 48 => some newS | 50 => some atS | 71 => some inS | 89 => some sizeS | 132 => some rSizeS | 58 => some getS | 102 => some getS | 61 => some fitsS | 23 => some ofS | 39 => some PlaceS | 37 => some LeftS | 80 => some nanS | 43 => some cmpIS | 42 => some orS | 99 => some cmpPS | 69 => some idS | 72 => some ltPS | 70 => some ltPS | 125 => some len64S | 95 => some len64S | 155 => some insS | 146 => some pdqS | 126 => some sortS | 128 => some lessIS | 129 => some nanS | _ => none) (fun _ => none)
theorem env_RE4 : EnvOk RE4 := env_of (by
    intro g F h
    split at h
    · cases h; exact ok_Name
    · cases h; exact ok_rName
    · cases h; exact ok_New
    · cases h; exact ok_At
    · cases h; exact ok_In
    · cases h; exact ok_size
    · cases h; exact ok_rSize
    · cases h; exact ok_Get
    · cases h; exact ok_rGet
    · cases h; exact ok_fits
    · cases h; exact of_ok
    · cases h; exact ok_Place
    · cases h; exact ok_Left
    · cases h; exact ok_nanI
    · cases h; exact ok_cmpI
    · cases h; exact ok_orF
    · cases h; exact ok_cmpP
    · cases h; exact ok_prRight
    · cases h; exact ok_rLess10
    · cases h; exact ok_less10
    · cases h; exact ok_len64
    · cases h; exact ok_bLen
    · cases h; exact ok_insS
    · cases h; exact ok_pdqS
    · cases h; exact ok_sortS
    · cases h; exact ok_lessI
    · cases h; exact ok_nanJ
    · cases h) (by
    intro g F h
    split at h
    · cases h; exact (lift_ok ok_rnames)
    · cases h; exact (lift_ok ok_names)
    · cases h; exact (lift_ok ok_clone)
    · cases h; exact (eitherOwn_ok (lift_ok ok_putI) (lift_ok ok_put))
    · cases h; exact (lift_ok ok_rNew)
    · cases h; exact (lift_ok ok_Enter)
    · cases h; exact (lift_ok ok_Fail)
    · cases h; exact (lift_ok ok_Need)
    · cases h; exact (lift_ok ok_rErr)
    · cases h; exact (lift_ok ok_number)
    · cases h; exact (lift_ok ok_U8)
    · cases h; exact (lift_ok ok_cptS)
    · cases h) (fun g F h => (by cases h))
def bsS : SpecS := fun ys Φ => match ys with
  | [x_0, .int .i64 t] => ∃ (l : List Int), ∃ (p : Nat), x_0 = .sl _ e_int l ∧ (p ≤ l.length ∧ l.length < 2305843009213693952 ∧ ∀ (h : Nat) (y : Int), l[h]? = some y → (y < t ↔ h < p)) ∧ Φ [.int .i64 (p : Int), .bool (decide (l[p]? = some t))]
  | _ => False
theorem bsS_mono : MonoS bsS := by
  intro ys Φ Ψ h hF
  unfold bsS at hF ⊢
  split at hF
  · obtain ⟨a0, a1, q0, hp, hk⟩ := hF; exact ⟨a0, a1, q0, hp, h _ hk⟩
  · exact hF.elim
theorem bsS_inv {ys : List PV} {Φ : List PV → Prop} (h : bsS ys Φ) : ∃ (l : List Int) (t : Int) (p : Nat), ys = [.sl _ e_int l, .int .i64 t] ∧ (p ≤ l.length ∧ l.length < 2305843009213693952 ∧ ∀ (h : Nat) (y : Int), l[h]? = some y → (y < t ↔ h < p)) ∧ Φ [.int .i64 (p : Int), .bool (decide (l[p]? = some t))] := by
  unfold bsS at h
  split at h
  · obtain ⟨a0, a1, q0, hz⟩ := h
    subst q0
    exact ⟨a0, _, a1, rfl, hz⟩
  · exact h.elim
theorem fn_bsF : FnOk Tryd.prog 97 Tryd.f97 (bodyOf Tryd.f97) := ⟨by kernel_rfl, by kernel_rfl, by kernel_rfl⟩
noncomputable def ff_bsF : Fun := ⟨Tryd.f97.ntmps, 0, Tryd.f97.results.toList, fun i => match i with | 3 => some [0, 1, 6, 7, 8] | _ => none, fun _ => false, fun _ => []⟩
theorem nf_bsF_a (A : KA Kd) (k : List PV → Heap Kd → Prop) (l : List Int) (t : Int) : evT RE4 ff_bsF A k 400 false [.code (bodyOf Tryd.f97)] (startEnv 54 [.sl _ e_int l, .int .i64 t]) [] = (A (td Tryd.f97 (3 : Nat)) (envAt (54 : Nat) [((0 : Nat), PV.sl Int e_int l), ((1 : Nat), PV.int IntKind.i64 t), ((6 : Nat), PV.int IntKind.i64 (↑l.length : Int)), ((7 : Nat), PV.int IntKind.i64 (0 : Int)), ((8 : Nat), PV.int IntKind.i64 (↑l.length : Int))]) []) := by kernel_rfl
theorem nf_bsF_b (A : KA Kd) (k : List PV → Heap Kd → Prop) (l : List Int) (t n i j : Int) : evT RE4 ff_bsF A k 400 true (td Tryd.f97 3) (envAt 54 [(0, .sl _ e_int l), (1, .int .i64 t), (6, .int .i64 n), (7, .int .i64 i), (8, .int .i64 j)]) [] = (bif decide (i < j) then (0 : Int) ≤ (1 : Int) ∧ ((0 : Int) ≤ IntKind.i64.wrap ((IntKind.u64.wrap (IntKind.i64.wrap (i + j))).fdiv ((2 : Int) ^ min (Int.toNat (1 : Int)) IntKind.u64.bits)) ∧ IntKind.i64.wrap ((IntKind.u64.wrap (IntKind.i64.wrap (i + j))).fdiv ((2 : Int) ^ min (Int.toNat (1 : Int)) IntKind.u64.bits)) < (↑l.length : Int)) ∧ ∀ (y : Int), l[(IntKind.i64.wrap ((IntKind.u64.wrap (IntKind.i64.wrap (i + j))).fdiv ((2 : Int) ^ min (Int.toNat (1 : Int)) IntKind.u64.bits))).toNat]? = some y → bif decide (y < t) then A (td Tryd.f97 (3 : Nat)) (envAt (54 : Nat) [((0 : Nat), PV.sl Int e_int l), ((1 : Nat), PV.int IntKind.i64 t), ((6 : Nat), PV.int IntKind.i64 n), ((7 : Nat), PV.int IntKind.i64 (IntKind.i64.wrap (IntKind.i64.wrap ((IntKind.u64.wrap (IntKind.i64.wrap (i + j))).fdiv ((2 : Int) ^ min (Int.toNat (1 : Int)) IntKind.u64.bits)) + (1 : Int)))), ((8 : Nat), PV.int IntKind.i64 j)]) [] else A (td Tryd.f97 (3 : Nat)) (envAt (54 : Nat) [((0 : Nat), PV.sl Int e_int l), ((1 : Nat), PV.int IntKind.i64 t), ((6 : Nat), PV.int IntKind.i64 n), ((7 : Nat), PV.int IntKind.i64 i), ((8 : Nat), PV.int IntKind.i64 (IntKind.i64.wrap ((IntKind.u64.wrap (IntKind.i64.wrap (i + j))).fdiv ((2 : Int) ^ min (Int.toNat (1 : Int)) IntKind.u64.bits))))]) []
else bif decide (i < n) then ((0 : Int) ≤ i ∧ i < (↑l.length : Int)) ∧ ∀ (y : Int), l[i.toNat]? = some y → bif y == t then k [PV.int IntKind.i64 i, PV.bool true] [] else ((0 : Int) ≤ i ∧ i < (↑l.length : Int)) ∧ ∀ (y : Int), l[i.toNat]? = some y → k [PV.int IntKind.i64 i, PV.bool false] [] else k [PV.int IntKind.i64 i, PV.bool false] []) := by kernel_rfl
theorem bsF_loop (A : KA Kd) (k : List PV → Heap Kd → Prop) (hA : Closed RE4 ff_bsF k A) (l : List Int) (t : Int) (p : Nat) (hp : p ≤ l.length) (hl : l.length < 2305843009213693952) (hm : ∀ (h : Nat) (y : Int), l[h]? = some y → (y < t ↔ h < p)) (hk : k [.int .i64 (p : Int), .bool (decide (l[p]? = some t))] []) :
    ∀ (m i j : Nat), j - i ≤ m → i ≤ p → p ≤ j → j ≤ l.length → A (td Tryd.f97 3) (envAt 54 [(0, .sl _ e_int l), (1, .int .i64 t), (6, .int .i64 (l.length : Int)), (7, .int .i64 (i : Int)), (8, .int .i64 (j : Int))]) [] := by
  have hend : ∀ i j : Nat, ¬ i < j → i ≤ p → p ≤ j → A (td Tryd.f97 3) (envAt 54 [(0, .sl _ e_int l), (1, .int .i64 t), (6, .int .i64 (l.length : Int)), (7, .int .i64 (i : Int)), (8, .int .i64 (j : Int))]) [] := by
    intro i j hij h1 h2
    have : i = p := by omega
    subst this
    refine (hA.nf (nf_bsF_b A k l t _ _ _) ?_)
    rw [ilt_false hij, cond_false]
    rcases Nat.lt_or_ge i l.length with h | h
    · rw [ilt_true h, cond_true]
      obtain ⟨z, hz⟩ : ∃ z, l[i]? = some z := ⟨l[i], List.getElem?_eq_getElem h⟩
      refine get_at hz ?_
      rw [hz] at hk
      cases c : z == t with
      | true =>
        rw [decide_eq_true (by rw [eq_of_beq c])] at hk
        exact hk
      | false =>
        rw [decide_eq_false (by intro e; rw [Option.some.inj e, beq_self_eq_true] at c; cases c)] at hk
        exact get_at hz hk
    · rw [ilt_false (by omega), cond_false]
      rw [List.getElem?_eq_none h] at hk
      exact hk
  intro m
  induction m with
  | zero => intro i j h0 h1 h2 h3; exact hend i j (by omega) h1 h2
  | succ m ih =>
    intro i j h0 h1 h2 h3
    by_cases hij : i < j
    · refine (hA.nf (nf_bsF_b A k l t _ _ _) ?_)
      rw [ilt_true hij, cond_true, half hij (by omega)]
      refine ⟨by omega, ?_⟩
      obtain ⟨z, hz⟩ : ∃ z, l[(i + j) / 2]? = some z := ⟨l[(i + j) / 2]'(by omega), List.getElem?_eq_getElem (by omega)⟩
      refine get_at hz ?_
      have := hm _ _ hz
      cases c : decide (z < t) with
      | true =>
        rw [decide_eq_true_eq] at c
        rw [cond_true, wrap_succ (by omega)]
        exact ih _ _ (by omega) (by omega) h2 h3
      | false =>
        rw [decide_eq_false_iff_not] at c
        rw [cond_false]
        exact ih _ _ (by omega) h1 (by omega) (by omega)
    · exact hend i j hij h1 h2
theorem ok_bsF : FunS B 97 bsS := by
  refine funS_of (N := 54) (f := ff_bsF) env_RE4 mixed fn_bsF (by kernel_rfl) (by kernel_rfl) (by kernel_rfl) bsS_mono ?_
  intro A k ys hA hF
  obtain ⟨l, t, p, rfl, ⟨hp, hl, hm⟩, hk⟩ := bsS_inv hF; clear hF
  refine ⟨by kernel_rfl, (hA.nf (nf_bsF_a A k l t) ?_)⟩
  exact bsF_loop A k hA l t p hp hl hm hk l.length 0 l.length (by omega) (Nat.zero_le _) hp (Nat.le_refl _)
noncomputable def RE5 := base (fun g => match g with | 133 => some (lift 0 namesF) | 106 => some (lift 0 namesF) | 62 => some (lift 0 cloneS) | 63 => some (eitherOwn (lift 1 putIS) (lift 0 putS)) | 33 => some (lift 0 NewS) | 73 => some (lift 1 EnterS) | 101 => some (lift 1 FailS) | 76 => some (lift 1 NeedS) | 74 => some (lift 1 ErrS) | 100 => some (lift 1 numberS) | 75 => some (lift 1 U8S) | 127 => some (lift 1 cptS) | _ => none) (fun g => match g with | 83 => some nameS | 103 => some nameS | 48 => some newS | 50 => some atS | 71 => some inS | 89 => some sizeS | 132 => some rSizeS | 58 => some getS | 102 => some getS | 61 => some fitsS | 23 => some ofS | 39 => some PlaceS | 37 => some LeftS | 80 => some nanS | 43 => some cmpIS | 42 => some orS | 99 => some cmpPS | 69 => some idS | 72 => some ltPS | 70 => some ltPS | 125 => some len64S | 95 => some len64S | 155 => some insS | 146 => some pdqS | 126 => some sortS | 128 => some lessIS | 129 => some nanS | 97 => some bsS | _ => none) (fun _ => none) true
theorem env_RE5 : EnvOk RE5 := env_of (by
    intro g F h
    split at h
    · cases h; exact ok_Name
    · cases h; exact ok_rName
    · cases h; exact ok_New
    · cases h; exact ok_At
    · cases h; exact ok_In
    · cases h; exact ok_size
    · cases h; exact ok_rSize
    · cases h; exact ok_Get
    · cases h; exact ok_rGet
    · cases h; exact ok_fits
    · cases h; exact of_ok
    · cases h; exact ok_Place
    · cases h; exact ok_Left
    · cases h; exact ok_nanI
    · cases h; exact ok_cmpI
    · cases h; exact ok_orF
    · cases h; exact ok_cmpP
    · cases h; exact ok_prRight
    · cases h; exact ok_rLess10
    · cases h; exact ok_less10
    · cases h; exact ok_len64
    · cases h; exact ok_bLen
    · cases h; exact ok_insS
    · cases h; exact ok_pdqS
    · cases h; exact ok_sortS
    · cases h; exact ok_lessI
    · cases h; exact ok_nanJ
    · cases h; exact ok_bsF
    · cases h) (by
    intro g F h
    split at h
    · cases h; exact (lift_ok ok_rnames)
    · cases h; exact (lift_ok ok_names)
    · cases h; exact (lift_ok ok_clone)
    · cases h; exact (eitherOwn_ok (lift_ok ok_putI) (lift_ok ok_put))
    · cases h; exact (lift_ok ok_rNew)
    · cases h; exact (lift_ok ok_Enter)
    · cases h; exact (lift_ok ok_Fail)
    · cases h; exact (lift_ok ok_Need)
    · cases h; exact (lift_ok ok_rErr)
    · cases h; exact (lift_ok ok_number)
    · cases h; exact (lift_ok ok_U8)
    · cases h; exact (lift_ok ok_cptS)
    · cases h) (fun g F h => (by cases h))
def insertS : List PV → Heap Kd → (List PV → Heap Kd → Prop) → Prop := fun ys L k => match ys, L with
  | [.own 0, .int .i64 i, .own 1], [.row 3 l, .row 3 v] => (i = (l.length : Int) ∧ v.length = 1 ∧ l.length < 100000) ∧ k [.own 0] [.row 3 (addI l v), .row 3 v]
  | _, _ => False
theorem insertS_inv {ys : List PV} {L : Heap Kd} {k : List PV → Heap Kd → Prop} (h : insertS ys L k) : ∃ (l : List Int) (v : List Int) (i : Int), ys = [.own 0, .int .i64 i, .own 1] ∧ L = [.row 3 l, .row 3 v] ∧ (i = (l.length : Int) ∧ v.length = 1 ∧ l.length < 100000) ∧ k [.own 0] [.row 3 (addI l v), .row 3 v] := by
  unfold insertS at h
  split at h
  · exact ⟨_, _, _, rfl, rfl, h⟩
  · exact h.elim
theorem fn_insert : FnOk Tryd.prog 98 Tryd.f98 (bodyOf Tryd.f98) := ⟨by kernel_rfl, by kernel_rfl, by kernel_rfl⟩
noncomputable def ff_insert : Fun := ⟨Tryd.f98.ntmps, 2, Tryd.f98.results.toList, fun _ => none, fun _ => false, fun _ => []⟩
theorem nf_insert (A : KA Kd) (k : List PV → Heap Kd → Prop) (l v : List Int) (i : Int) : evT RE5 ff_insert A k 400 false [.code (bodyOf Tryd.f98)] (startEnv 95 [.own 0, .int .i64 i, .own 1]) [.row 3 l, .row 3 v] = ((∀ (y : Int), y ∈ l → (e_int y).cells.length = (TInfo.mk (TD.int IntKind.i64) (1 : Nat) (8 : Nat) [PV.int IntKind.i64 (0 : Int)] false []).size) ∧ ((0 : Int) ≤ i ∧ i ≤ (↑l.length : Int) ∧ (↑l.length : Int) ≤ (↑l.length : Int)) ∧ bif (↑v.length : Int) == (0 : Int) then k [PV.own (0 : Nat)] [AObj.row (3 : Nat) l, AObj.row (3 : Nat) v] else bif i == (↑l.length : Int) then (l.length + (v).length) * (TInfo.mk (TD.int IntKind.i64) (1 : Nat) (8 : Nat) [PV.int IntKind.i64 (0 : Int)] false []).bytes ≤ (140737488355328 : Nat) ∧ k [PV.own (0 : Nat)] [AObj.row (3 : Nat) (l ++ v), AObj.row (3 : Nat) v] else False) := by kernel_rfl
theorem ok_insert : FunF B 98 2 insertS := by
  refine funF_of (N := 95) (f := ff_insert) env_RE5 mixed fn_insert (by kernel_rfl) (by kernel_rfl) ?_
  intro A k ys L hA hF
  obtain ⟨l, v, i, rfl, rfl, ⟨rfl, hv, hl⟩, hk⟩ := insertS_inv hF; clear hF
  refine ⟨by kernel_rfl, (hA.nf (nf_insert A k l v _) ?_)⟩
  have d0 : ((v.length : Int) == 0) = false := by rw [beq_eq_false_iff_ne]; omega
  rw [d0, cond_false, beq_self_eq_true, cond_true]
  exact ⟨fun _ _ => rfl, ⟨by omega, by omega, by omega⟩, by show (l.length + v.length) * 8 ≤ _; omega, hk⟩
noncomputable def RE6 := base (fun g => match g with | 133 => some (lift 0 namesF) | 106 => some (lift 0 namesF) | 62 => some (lift 0 cloneS) | 63 => some (eitherOwn (lift 1 putIS) (lift 0 putS)) | 33 => some (lift 0 NewS) | 73 => some (lift 1 EnterS) | 101 => some (lift 1 FailS) | 76 => some (lift 1 NeedS) | 74 => some (lift 1 ErrS) | 100 => some (lift 1 numberS) | 75 => some (lift 1 U8S) | 127 => some (lift 1 cptS) | 98 => some (lift 2 insertS) | _ => none) (fun g => match g with | 83 => some nameS | 103 => some nameS | 48 => some newS | 50 => some atS | 71 => some inS | 89 => some sizeS | 132 => some rSizeS | 58 => some getS | 102 => some getS | 61 => some fitsS | 23 => some ofS | 39 => some PlaceS | 37 => some LeftS | 80 => some nanS | 43 => some cmpIS | 42 => some orS | 99 => some cmpPS | 69 => some idS | 72 => some ltPS | 70 => some ltPS | 125 => some len64S | 95 => some len64S | 155 => some insS | 146 => some pdqS | 126 => some sortS | 128 => some lessIS | 129 => some nanS | 97 => some bsS | _ => none) (fun _ => none)
theorem env_RE6 : EnvOk RE6 := env_of (by
    intro g F h
    split at h
    · cases h; exact ok_Name
    · cases h; exact ok_rName
    · cases h; exact ok_New
    · cases h; exact ok_At
    · cases h; exact ok_In
    · cases h; exact ok_size
    · cases h; exact ok_rSize
    · cases h; exact ok_Get
    · cases h; exact ok_rGet
    · cases h; exact ok_fits
    · cases h; exact of_ok
    · cases h; exact ok_Place
    · cases h; exact ok_Left
    · cases h; exact ok_nanI
    · cases h; exact ok_cmpI
    · cases h; exact ok_orF
    · cases h; exact ok_cmpP
    · cases h; exact ok_prRight
    · cases h; exact ok_rLess10
    · cases h; exact ok_less10
    · cases h; exact ok_len64
    · cases h; exact ok_bLen
    · cases h; exact ok_insS
    · cases h; exact ok_pdqS
    · cases h; exact ok_sortS
    · cases h; exact ok_lessI
    · cases h; exact ok_nanJ
    · cases h; exact ok_bsF
    · cases h) (by
    intro g F h
    split at h
    · cases h; exact (lift_ok ok_rnames)
    · cases h; exact (lift_ok ok_names)
    · cases h; exact (lift_ok ok_clone)
    · cases h; exact (eitherOwn_ok (lift_ok ok_putI) (lift_ok ok_put))
    · cases h; exact (lift_ok ok_rNew)
    · cases h; exact (lift_ok ok_Enter)
    · cases h; exact (lift_ok ok_Fail)
    · cases h; exact (lift_ok ok_Need)
    · cases h; exact (lift_ok ok_rErr)
    · cases h; exact (lift_ok ok_number)
    · cases h; exact (lift_ok ok_U8)
    · cases h; exact (lift_ok ok_cptS)
    · cases h; exact (lift_ok ok_insert)
    · cases h) (fun g F h => (by cases h))
def targetsS : List PV → Heap Kd → (List PV → Heap Kd → Prop) → Prop := fun ys L k => match ys, L with
  | [x_0, .int .i64 id], [] => ∃ (l : List Pr), x_0 = .sl _ e_api_Pair l ∧ (l.length < 100000 ∧ (tgt l id).length ≤ 1) ∧ k [.own 0] [.row 3 (tgt l id)]
  | _, _ => False
theorem targetsS_inv {ys : List PV} {L : Heap Kd} {k : List PV → Heap Kd → Prop} (h : targetsS ys L k) : ∃ (l : List Pr) (id : Int), ys = [.sl _ e_api_Pair l, .int .i64 id] ∧ L = [] ∧ (l.length < 100000 ∧ (tgt l id).length ≤ 1) ∧ k [.own 0] [.row 3 (tgt l id)] := by
  unfold targetsS at h
  split at h
  · obtain ⟨a0, q0, hz⟩ := h
    subst q0
    exact ⟨a0, _, rfl, rfl, hz⟩
  · exact h.elim
theorem fn_targets : FnOk Tryd.prog 96 Tryd.f96 (bodyOf Tryd.f96) := ⟨by kernel_rfl, by kernel_rfl, by kernel_rfl⟩
noncomputable def ff_targets : Fun := ⟨Tryd.f96.ntmps, 0, Tryd.f96.results.toList, fun i => match i with | 3 => some [1, 5, 8, 9, 10] | _ => none, fun _ => false, fun _ => []⟩
theorem nf_targets_a (A : KA Kd) (k : List PV → Heap Kd → Prop) (l : List Pr) (id : Int) : evT RE6 ff_targets A k 400 false [.code (bodyOf Tryd.f96)] (startEnv 28 [.sl _ e_api_Pair l, .int .i64 id]) [] = (A (td Tryd.f96 (3 : Nat)) (envAt (28 : Nat) [((1 : Nat), PV.int IntKind.i64 id), ((5 : Nat), PV.own (0 : Nat)), ((8 : Nat), PV.sl (Int × Int) e_api_Pair l), ((9 : Nat), PV.int IntKind.i64 (↑l.length : Int)), ((10 : Nat), PV.int IntKind.i64 (0 : Int))]) [AObj.row (3 : Nat) []]) := by kernel_rfl
theorem nf_targets_b (A : KA Kd) (k : List PV → Heap Kd → Prop) (l : List Pr) (id n i : Int) (r : List Int) : evT RE6 ff_targets A k 400 true (td Tryd.f96 3) (envAt 28 [(1, .int .i64 id), (5, .own 0), (8, .sl _ e_api_Pair l), (9, .int .i64 n), (10, .int .i64 i)]) [.row 3 r] = (bif decide (i < n) then ((0 : Int) ≤ i ∧ i < (↑l.length : Int)) ∧ ∀ (y : Int × Int), l[i.toNat]? = some y → bif y.fst == id then ∃ (zs : List Int), List.map e_int zs = [PV.int IntKind.i64 y.snd] ∧ (r.length + (zs).length) * (TInfo.mk (TD.int IntKind.i64) (1 : Nat) (8 : Nat) [PV.int IntKind.i64 (0 : Int)] false []).bytes ≤ (140737488355328 : Nat) ∧ A (td Tryd.f96 (3 : Nat)) (envAt (28 : Nat) [((1 : Nat), PV.int IntKind.i64 id), ((5 : Nat), PV.own (0 : Nat)), ((8 : Nat), PV.sl (Int × Int) e_api_Pair l), ((9 : Nat), PV.int IntKind.i64 n), ((10 : Nat), PV.int IntKind.i64 (IntKind.i64.wrap (i + (1 : Int))))]) [AObj.row (3 : Nat) (r ++ zs)] else A (td Tryd.f96 (3 : Nat)) (envAt (28 : Nat) [((1 : Nat), PV.int IntKind.i64 id), ((5 : Nat), PV.own (0 : Nat)), ((8 : Nat), PV.sl (Int × Int) e_api_Pair l), ((9 : Nat), PV.int IntKind.i64 n), ((10 : Nat), PV.int IntKind.i64 (IntKind.i64.wrap (i + (1 : Int))))]) [AObj.row (3 : Nat) r]
else ∃ (xs : List Int), PV.sl Int e_int r = PV.sl Int e_int xs ∧ xs.length ≤ (1 : Nat) ∧ r.length ≤ (1 : Nat) ∧ k [PV.own (0 : Nat)] [AObj.row (3 : Nat) r]) := by kernel_rfl
theorem ok_targets : FunF B 96 0 targetsS := by
  refine funF_of (N := 28) (f := ff_targets) env_RE6 mixed fn_targets (by kernel_rfl) (by kernel_rfl) ?_
  intro A k ys L hA hF
  obtain ⟨l, id, rfl, rfl, ⟨hl, ht⟩, hk⟩ := targetsS_inv hF; clear hF
  refine ⟨by kernel_rfl, (hA.nf (nf_targets_a A k l id) ?_)⟩
  have key := down_loop l (fun i => ∀ r : List Int, r.length ≤ i → addI r (tgt (l.drop i) id) = tgt l id → A (td Tryd.f96 3) (envAt 28 [(1, .int .i64 id), (5, .own 0), (8, .sl _ e_api_Pair l), (9, .int .i64 (l.length : Int)), (10, .int .i64 (i : Int))]) [.row 3 r]) ?_ ?_ 0 (Nat.zero_le _)
  · exact key [] (Nat.le_refl _) rfl
  · intro r _ hr
    refine (hA.nf (nf_targets_b A k l id _ _ r) ?_)
    rw [ilt_false (Nat.lt_irrefl _)]
    have e : r = tgt l id := by rw [← hr, List.drop_length]; exact (List.append_nil r).symm
    subst e
    exact ⟨_, rfl, ht, ht, hk⟩
  · intro i y hy ih r hr h
    have hlt := lt_of_get hy
    refine (hA.nf (nf_targets_b A k l id _ _ r) ?_)
    rw [ilt_true hlt, cond_true]
    refine get_at hy ?_
    rw [drop_cons' hy, tgt_cons] at h
    rw [wrap_succ (by omega)]
    cases c : y.1 == id with
    | true =>
      rw [c, cond_true] at h
      exact ⟨[y.2], rfl, by show (r.length + 1) * 8 ≤ _; omega, ih (r ++ [y.2]) (by rw [List.length_append, List.length_singleton]; omega) (by rw [← h]; unfold addI; rw [List.append_assoc]; rfl)⟩
    | false =>
      rw [c, cond_false] at h
      exact ih r (by omega) h
noncomputable def RE7 := base (fun g => match g with | 133 => some (lift 0 namesF) | 106 => some (lift 0 namesF) | 62 => some (lift 0 cloneS) | 63 => some (eitherOwn (lift 1 putIS) (lift 0 putS)) | 33 => some (lift 0 NewS) | 73 => some (lift 1 EnterS) | 101 => some (lift 1 FailS) | 76 => some (lift 1 NeedS) | 74 => some (lift 1 ErrS) | 100 => some (lift 1 numberS) | 75 => some (lift 1 U8S) | 127 => some (lift 1 cptS) | 98 => some (lift 2 insertS) | 96 => some (lift 0 targetsS) | _ => none) (fun g => match g with | 83 => some nameS | 103 => some nameS | 48 => some newS | 50 => some atS | 71 => some inS | 89 => some sizeS | 132 => some rSizeS | 58 => some getS | 102 => some getS | 61 => some fitsS | 23 => some ofS | 39 => some PlaceS | 37 => some LeftS | 80 => some nanS | 43 => some cmpIS | 42 => some orS | 99 => some cmpPS | 69 => some idS | 72 => some ltPS | 70 => some ltPS | 125 => some len64S | 95 => some len64S | 155 => some insS | 146 => some pdqS | 126 => some sortS | 128 => some lessIS | 129 => some nanS | 97 => some bsS | _ => none) (fun _ => none)
theorem env_RE7 : EnvOk RE7 := env_of (by
    intro g F h
    split at h
    · cases h; exact ok_Name
    · cases h; exact ok_rName
    · cases h; exact ok_New
    · cases h; exact ok_At
    · cases h; exact ok_In
    · cases h; exact ok_size
    · cases h; exact ok_rSize
    · cases h; exact ok_Get
    · cases h; exact ok_rGet
    · cases h; exact ok_fits
    · cases h; exact of_ok
    · cases h; exact ok_Place
    · cases h; exact ok_Left
    · cases h; exact ok_nanI
    · cases h; exact ok_cmpI
    · cases h; exact ok_orF
    · cases h; exact ok_cmpP
    · cases h; exact ok_prRight
    · cases h; exact ok_rLess10
    · cases h; exact ok_less10
    · cases h; exact ok_len64
    · cases h; exact ok_bLen
    · cases h; exact ok_insS
    · cases h; exact ok_pdqS
    · cases h; exact ok_sortS
    · cases h; exact ok_lessI
    · cases h; exact ok_nanJ
    · cases h; exact ok_bsF
    · cases h) (by
    intro g F h
    split at h
    · cases h; exact (lift_ok ok_rnames)
    · cases h; exact (lift_ok ok_names)
    · cases h; exact (lift_ok ok_clone)
    · cases h; exact (eitherOwn_ok (lift_ok ok_putI) (lift_ok ok_put))
    · cases h; exact (lift_ok ok_rNew)
    · cases h; exact (lift_ok ok_Enter)
    · cases h; exact (lift_ok ok_Fail)
    · cases h; exact (lift_ok ok_Need)
    · cases h; exact (lift_ok ok_rErr)
    · cases h; exact (lift_ok ok_number)
    · cases h; exact (lift_ok ok_U8)
    · cases h; exact (lift_ok ok_cptS)
    · cases h; exact (lift_ok ok_insert)
    · cases h; exact (lift_ok ok_targets)
    · cases h) (fun g F h => (by cases h))
theorem fn_reach : FnOk Tryd.prog 68 Tryd.f68 (bodyOf Tryd.f68) := ⟨by kernel_rfl, by kernel_rfl, by kernel_rfl⟩
noncomputable def ff_reach : Fun := ⟨Tryd.f68.ntmps, 0, Tryd.f68.results.toList, fun i => match i with | 6 => some [0, 5, 15, 16, 17, 23, 24, 25] | 3 => some [0, 5, 15, 16, 17] | 2 => some [0, 5] | _ => none, fun _ => false, fun _ => []⟩
theorem nf_reach_a (A : KA Kd) (k : List PV → Heap Kd → Prop) (l : List Pr) (id : Int) : evT RE7 ff_reach A k 400 false [.code (bodyOf Tryd.f68)] (startEnv 45 [.sl _ e_api_Pair l, .int .i64 id]) [] = (∃ (l_1 : List Pr), PV.sl (Int × Int) e_api_Pair l = PV.sl (Int × Int) e_api_Pair l_1 ∧ (l_1.length < (100000 : Nat) ∧ (tgt l_1 id).length ≤ (1 : Nat)) ∧ A (td Tryd.f68 (2 : Nat)) (envAt (45 : Nat) [((0 : Nat), PV.sl (Int × Int) e_api_Pair l), ((5 : Nat), PV.own (0 : Nat))]) [AObj.row (3 : Nat) (tgt l_1 id)]) := by kernel_rfl
theorem nf_reach_b (A : KA Kd) (k : List PV → Heap Kd → Prop) (l : List Pr) (r : List Int) : evT RE7 ff_reach A k 400 true (td Tryd.f68 2) (envAt 45 [(0, .sl _ e_api_Pair l), (5, .own 0)]) [.row 3 r] = (A (td Tryd.f68 (3 : Nat)) (envAt (45 : Nat) [((0 : Nat), PV.sl (Int × Int) e_api_Pair l), ((5 : Nat), PV.own (0 : Nat)), ((15 : Nat), PV.own (0 : Nat)), ((16 : Nat), PV.int IntKind.i64 (↑r.length : Int)), ((17 : Nat), PV.int IntKind.i64 (0 : Int))]) [AObj.row (3 : Nat) r]) := by kernel_rfl
theorem nf_reach_c (A : KA Kd) (k : List PV → Heap Kd → Prop) (l : List Pr) (r : List Int) (n i : Int) : evT RE7 ff_reach A k 400 true (td Tryd.f68 3) (envAt 45 [(0, .sl _ e_api_Pair l), (5, .own 0), (15, .own 0), (16, .int .i64 n), (17, .int .i64 i)]) [.row 3 r] = (bif decide (i < n) then ((0 : Int) ≤ i ∧ i < (↑r.length : Int)) ∧ ∀ (y : Int), r[i.toNat]? = some y → ∃ (l_1 : List Pr), PV.sl (Int × Int) e_api_Pair l = PV.sl (Int × Int) e_api_Pair l_1 ∧ (l_1.length < (100000 : Nat) ∧ (tgt l_1 y).length ≤ (1 : Nat)) ∧ A (td Tryd.f68 (6 : Nat)) (envAt (45 : Nat) [((0 : Nat), PV.sl (Int × Int) e_api_Pair l), ((5 : Nat), PV.own (0 : Nat)), ((15 : Nat), PV.own (0 : Nat)), ((16 : Nat), PV.int IntKind.i64 n), ((17 : Nat), PV.int IntKind.i64 i), ((23 : Nat), PV.own (1 : Nat)), ((24 : Nat), PV.int IntKind.i64 (↑(tgt l_1 y).length : Int)), ((25 : Nat), PV.int IntKind.i64 (0 : Int))]) [AObj.row (3 : Nat) r, AObj.row (3 : Nat) (tgt l_1 y)]
else k [PV.own (0 : Nat)] [AObj.row (3 : Nat) r]) := by kernel_rfl
theorem nf_reach_d (A : KA Kd) (k : List PV → Heap Kd → Prop) (l : List Pr) (r s : List Int) (n i m j : Int) : evT RE7 ff_reach A k 400 true (td Tryd.f68 6) (envAt 45 [(0, .sl _ e_api_Pair l), (5, .own 0), (15, .own 0), (16, .int .i64 n), (17, .int .i64 i), (23, .own 1), (24, .int .i64 m), (25, .int .i64 j)]) [.row 3 r, .row 3 s] = (bif decide (j < m) then ((0 : Int) ≤ j ∧ j < (↑s.length : Int)) ∧ ∀ (y : Int), s[j.toNat]? = some y → ∃ (l_1 : List Int), ∃ (p : Nat), PV.sl Int e_int r = PV.sl Int e_int l_1 ∧ (p ≤ l_1.length ∧ l_1.length < (2305843009213693952 : Nat) ∧ ∀ (h : Nat) (y_1 : Int), l_1[h]? = some y_1 → (y_1 < y ↔ h < p)) ∧ bif !decide (l_1[p]? = some y) then ∃ (zs : List Int), List.map e_int zs = [PV.int IntKind.i64 y] ∧ ((↑p : Int) = (↑r.length : Int) ∧ zs.length = (1 : Nat) ∧ r.length < (100000 : Nat)) ∧ A (td Tryd.f68 (2 : Nat)) (envAt (45 : Nat) [((0 : Nat), PV.sl (Int × Int) e_api_Pair l), ((5 : Nat), PV.own (0 : Nat))]) [AObj.row (3 : Nat) (addI r zs)] else A (td Tryd.f68 (6 : Nat)) (envAt (45 : Nat) [((0 : Nat), PV.sl (Int × Int) e_api_Pair l), ((5 : Nat), PV.own (0 : Nat)), ((15 : Nat), PV.own (0 : Nat)), ((16 : Nat), PV.int IntKind.i64 n), ((17 : Nat), PV.int IntKind.i64 i), ((23 : Nat), PV.own (1 : Nat)), ((24 : Nat), PV.int IntKind.i64 m), ((25 : Nat), PV.int IntKind.i64 (IntKind.i64.wrap (j + (1 : Int))))]) [AObj.row (3 : Nat) r, AObj.row (3 : Nat) s]
else A (td Tryd.f68 (3 : Nat)) (envAt (45 : Nat) [((0 : Nat), PV.sl (Int × Int) e_api_Pair l), ((5 : Nat), PV.own (0 : Nat)), ((15 : Nat), PV.own (0 : Nat)), ((16 : Nat), PV.int IntKind.i64 n), ((17 : Nat), PV.int IntKind.i64 (IntKind.i64.wrap (i + (1 : Int))))]) [AObj.row (3 : Nat) r]) := by kernel_rfl
def reachS : List PV → Heap Kd → (List PV → Heap Kd → Prop) → Prop := fun ys L k => match ys, L with
  | [x_0, .int .i64 id], [] => ∃ (l : List Pr), x_0 = .sl _ e_api_Pair l ∧ (l = [(1, 2), (2, 3)] ∧ id = 1) ∧ k [.own 0] [.row 3 ([2, 3] : List Int)]
  | _, _ => False
theorem reachS_inv {ys : List PV} {L : Heap Kd} {k : List PV → Heap Kd → Prop} (h : reachS ys L k) : ∃ (l : List Pr) (id : Int), ys = [.sl _ e_api_Pair l, .int .i64 id] ∧ L = [] ∧ (l = [(1, 2), (2, 3)] ∧ id = 1) ∧ k [.own 0] [.row 3 ([2, 3] : List Int)] := by
  unfold reachS at h
  split at h
  · obtain ⟨a0, q0, hz⟩ := h
    subst q0
    exact ⟨a0, _, rfl, rfl, hz⟩
  · exact h.elim
theorem ok_reach : FunF B 68 0 reachS := by
  refine funF_of (N := 45) (f := ff_reach) env_RE7 mixed fn_reach (by kernel_rfl) (by kernel_rfl) ?_
  intro A k ys L hA hF
  obtain ⟨l, id, rfl, rfl, ⟨rfl, rfl⟩, hk⟩ := reachS_inv hF; clear hF
  refine ⟨by kernel_rfl, (hA.nf (nf_reach_a A k _ _) ?_)⟩
  have w1 : IntKind.i64.wrap (0 + 1) = 1 := by decide
  have w2 : IntKind.i64.wrap (1 + 1) = 2 := by decide
  have s3 : A (td Tryd.f68 3) (envAt 45 [(0, .sl _ e_api_Pair [(1, 2), (2, 3)]), (5, .own 0), (15, .own 0), (16, .int .i64 2), (17, .int .i64 2)]) [.row 3 ([2, 3] : List Int)] := by
    refine (hA.nf (nf_reach_c A k _ _ _ _) ?_)
    rw [show decide ((2 : Int) < 2) = false from rfl, cond_false]; exact hk
  have s2 : A (td Tryd.f68 3) (envAt 45 [(0, .sl _ e_api_Pair [(1, 2), (2, 3)]), (5, .own 0), (15, .own 0), (16, .int .i64 2), (17, .int .i64 1)]) [.row 3 ([2, 3] : List Int)] := by
    refine (hA.nf (nf_reach_c A k _ _ _ _) ?_)
    rw [show decide ((1 : Int) < 2) = true from rfl, cond_true]
    refine ⟨by decide, fun y hy => ?_⟩
    obtain rfl : y = 3 := (Option.some.inj hy).symm
    refine ⟨_, rfl, ⟨by decide, by decide⟩, ?_⟩
    have e : tgt [(1, 2), (2, 3)] 3 = [] := by decide
    rw [e]
    refine (hA.nf (nf_reach_d A k _ _ _ _ _ _ _) ?_)
    rw [show decide ((0 : Int) < (([] : List Int).length : Int)) = false from rfl, cond_false, w2]
    exact s3
  have s1 : A (td Tryd.f68 3) (envAt 45 [(0, .sl _ e_api_Pair [(1, 2), (2, 3)]), (5, .own 0), (15, .own 0), (16, .int .i64 2), (17, .int .i64 0)]) [.row 3 ([2, 3] : List Int)] := by
    refine (hA.nf (nf_reach_c A k _ _ _ _) ?_)
    rw [show decide ((0 : Int) < 2) = true from rfl, cond_true]
    refine ⟨by decide, fun y hy => ?_⟩
    obtain rfl : y = 2 := (Option.some.inj hy).symm
    refine ⟨_, rfl, ⟨by decide, by decide⟩, ?_⟩
    have e : tgt [(1, 2), (2, 3)] 2 = [3] := by decide
    rw [e]
    refine (hA.nf (nf_reach_d A k _ _ _ _ _ _ _) ?_)
    rw [show decide ((0 : Int) < (([3] : List Int).length : Int)) = true from rfl, cond_true]
    refine ⟨by decide, fun y hy => ?_⟩
    obtain rfl : y = 3 := (Option.some.inj hy).symm
    refine ⟨[2, 3], 1, rfl, ⟨by decide, by show (2 : Nat) < _; decide, fun h y hy => ?_⟩, ?_⟩
    · rcases h with _ | _ | h
      · obtain rfl : y = 2 := (Option.some.inj hy).symm
        decide
      · obtain rfl : y = 3 := (Option.some.inj hy).symm
        decide
      · exact absurd hy (by simp)
    rw [show (!decide (([2, 3] : List Int)[1]? = some 3)) = false from by decide, cond_false, w1]
    refine (hA.nf (nf_reach_d A k _ _ _ _ _ _ _) ?_)
    rw [show decide ((1 : Int) < (([3] : List Int).length : Int)) = false from by decide, cond_false, w1]
    exact s2
  have s0 : A (td Tryd.f68 2) (envAt 45 [(0, .sl _ e_api_Pair [(1, 2), (2, 3)]), (5, .own 0)]) [.row 3 ([2, 3] : List Int)] := by
    refine (hA.nf (nf_reach_b A k _ _) ?_)
    exact s1
  have p1 : A (td Tryd.f68 3) (envAt 45 [(0, .sl _ e_api_Pair [(1, 2), (2, 3)]), (5, .own 0), (15, .own 0), (16, .int .i64 1), (17, .int .i64 0)]) [.row 3 ([2] : List Int)] := by
    refine (hA.nf (nf_reach_c A k _ _ _ _) ?_)
    rw [show decide ((0 : Int) < 1) = true from rfl, cond_true]
    refine ⟨by decide, fun y hy => ?_⟩
    obtain rfl : y = 2 := (Option.some.inj hy).symm
    refine ⟨_, rfl, ⟨by decide, by decide⟩, ?_⟩
    have e : tgt [(1, 2), (2, 3)] 2 = [3] := by decide
    rw [e]
    refine (hA.nf (nf_reach_d A k _ _ _ _ _ _ _) ?_)
    rw [show decide ((0 : Int) < (([3] : List Int).length : Int)) = true from rfl, cond_true]
    refine ⟨by decide, fun y hy => ?_⟩
    obtain rfl : y = 3 := (Option.some.inj hy).symm
    refine ⟨[2], 1, rfl, ⟨by decide, by show (1 : Nat) < _; decide, fun h y hy => ?_⟩, ?_⟩
    · rcases h with _ | h
      · obtain rfl : y = 2 := (Option.some.inj hy).symm
        decide
      · exact absurd hy (by simp)
    rw [show (!decide (([2] : List Int)[1]? = some 3)) = true from by decide, cond_true]
    exact ⟨[3], rfl, ⟨rfl, rfl, by decide⟩, s0⟩
  refine ⟨_, rfl, ⟨by decide, by decide⟩, ?_⟩
  have e : tgt [(1, 2), (2, 3)] 1 = [2] := by decide
  rw [e]
  refine (hA.nf (nf_reach_b A k _ _) ?_)
  exact p1
end Go.Ab.T
