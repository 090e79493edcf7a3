import Derived.Test.YthfagophoncabaaGreatDoorCrcS
import Derived.Test.YthfagophoncabaaGreatDoorHeader
import Derived.Test.YthfagophoncabaaGreatDoorParts4
import Derived.Test.YthfagophoncabaaGreatDoorSched3
import Derived.Test.YthfagophoncabaaGreatDoorPairs3
import Derived.Test.YthfagophoncabaaGreatDoorActs3
import Derived.Test.YthfagophoncabaaGreatDoorMaB
set_option linter.unusedVariables false
set_option linter.unusedSimpArgs false
set_option linter.unusedSectionVars false
namespace Go.Ab.T
open Go Go.Ab Go.Proofs
set_option maxRecDepth 100000
set_option maxHeartbeats 4000000
noncomputable def IM0 := base (fun _ => none) (fun g => match g with | 111 => some newS | 110 => some atS | 109 => some inS | _ => none) (fun _ => none)
theorem env_IM0 : EnvOk IM0 := env_of (by
 intro g F h
 split at h
 ·cases h; exact ok_New
 ·cases h; exact ok_At
 ·cases h; exact ok_In
 ·cases h) (fun g F h => (by cases h)) (fun g F h => (by cases h))
def iwS : SpecS := fun ys Φ => match ys with
 | [.int .i64 c, .int .i64 sec, .int .i64 a] => Φ [.err (inE sec (atE a (newE c)))]
 | _ => False
theorem iwS_mono : MonoS iwS := by
 intro ys Φ Ψ h hF
 unfold iwS at hF ⊢
 split at hF
 ·exact h _ hF
 ·exact hF.elim
theorem iwS_inv {ys : List PV} {Φ : List PV -> Prop} (h : iwS ys Φ) : ∃ (c : Int) (sec : Int) (a : Int), ys = [.int .i64 c, .int .i64 sec, .int .i64 a] /\ Φ [.err (inE sec (atE a (newE c)))] := by
 unfold iwS at h
 split at h
 ·exact ⟨_, _, _, rfl, h⟩
 ·exact h.elim
theorem fn_iw : FnOk Tryz.prog 42 Tryz.f42 (bodyOf Tryz.f42) := ⟨by kernel_rfl, by kernel_rfl, by kernel_rfl⟩
noncomputable def ff_iw : Fun := ⟨Tryz.f42.ntmps, 0, Tryz.f42.results.toList, fun _ => none, fun _ => false, fun _ => []⟩
theorem nf_iw (A : KA Kd) (k : List PV -> Heap Kd -> Prop) (c sec a : Int) : evT IM0 ff_iw A k 400 false [.code (bodyOf Tryz.f42)] (startEnv 13 [.int .i64 c, .int .i64 sec, .int .i64 a]) [] = (k [.err (inE sec (atE a (newE c)))] []) := by kernel_rfl
theorem ok_iw : FunS B 42 iwS := by
 refine funS_of (N := 13) (f := ff_iw) env_IM0 mixed fn_iw (by kernel_rfl) (by kernel_rfl) (by kernel_rfl) iwS_mono ?_
 intro A k ys hA hF
 obtain ⟨c, sec, a, rfl, hk⟩ := iwS_inv hF; clear hF
 exact ⟨by kernel_rfl, (hA.nf (nf_iw A k c sec a) hk)⟩
noncomputable def IM1 := base (fun _ => none) (fun g => match g with | 50 => some cSumS | 97 => some getS | 42 => some iwS | _ => none) (fun _ => none)
theorem env_IM1 : EnvOk IM1 := env_of (by
 intro g F h
 split at h
 ·cases h; exact ok_cSum
 ·cases h; exact ok_Get
 ·cases h; exact ok_iw
 ·cases h) (fun g F h => (by cases h)) (fun g F h => (by cases h))
theorem fn_framed : FnOk Tryz.prog 35 Tryz.f35 (bodyOf Tryz.f35) := ⟨by kernel_rfl, by kernel_rfl, by kernel_rfl⟩
noncomputable def ff_framed : Fun := ⟨Tryz.f35.ntmps, 0, Tryz.f35.results.toList, fun _ => none, fun _ => false, fun _ => []⟩
theorem nf_framed (A : KA Kd) (k : List PV -> Heap Kd -> Prop) (s : ByteArray) (h0 h1 h2 h3 h4 h5 h6 : Int) : evT IM1 ff_framed A k 400 false [.code (bodyOf Tryz.f35)] (startEnv 40 [.str s, .agg [.int .u32 h0, .int .u64 h1, .int .i64 h2, .int .i64 h3, .int .i64 h4, .int .i64 h5, .int .i64 h6]]) [] = (bif IntKind.u64.wrap h0 != IntKind.u64.wrap (↑s.size : Int) then k [.err (inE (1 : Int) (atE (4 : Int) (newE (4 : Int))))] []
else bif decide ((↑s.size : Int) < (27 : Int)) then k [PV.err (inE (6 : Int) (atE (23 : Int) (newE (2 : Int))))] [] else s.size < (4611686018427387904 : Nat) /\ ((0 : Int) <= (0 : Int) /\ (0 : Int) <= IntKind.i64.wrap ((↑s.size : Int) - (4 : Int)) /\ IntKind.i64.wrap ((↑s.size : Int) - (4 : Int)) <= (↑s.size : Int)) /\ (s.extract (Int.toNat (0 : Int)) (IntKind.i64.wrap ((↑s.size : Int) - (4 : Int))).toNat).size < (4611686018427387904 : Nat) /\ bif IntKind.u32.wrap (getV s (IntKind.i64.wrap ((↑s.size : Int) - (4 : Int))) (4 : Int)) != (↑(crcN (s.extract (Int.toNat (0 : Int)) (IntKind.i64.wrap ((↑s.size : Int) - (4 : Int))).toNat).data.toList) : Int) then k [PV.err (inE (6 : Int) (atE (IntKind.i64.wrap ((↑s.size : Int) - (4 : Int))) (newE (5 : Int))))] [] else k [PV.err Err.nil] []) := by kernel_rfl
def frS : SpecS := fun ys Φ => match ys with
 | [.str s, .agg [.int .u32 h0, .int .u64 h1, .int .i64 h2, .int .i64 h3, .int .i64 h4, .int .i64 h5, .int .i64 h6]] => ((0 <= h0 /\ h0 < 4294967296) /\ s.size < 4611686018427387904) /\ Φ [.err (frE s h0)]
 | _ => False
theorem frS_mono : MonoS frS := by
 intro ys Φ Ψ h hF
 unfold frS at hF ⊢
 split at hF
 ·obtain ⟨hp, hk⟩ := hF; exact ⟨hp, h _ hk⟩
 ·exact hF.elim
theorem frS_inv {ys : List PV} {Φ : List PV -> Prop} (h : frS ys Φ) : ∃ (s : ByteArray) (h0 : Int) (h1 : Int) (h2 : Int) (h3 : Int) (h4 : Int) (h5 : Int) (h6 : Int), ys = [.str s, .agg [.int .u32 h0, .int .u64 h1, .int .i64 h2, .int .i64 h3, .int .i64 h4, .int .i64 h5, .int .i64 h6]] /\ ((0 <= h0 /\ h0 < 4294967296) /\ s.size < 4611686018427387904) /\ Φ [.err (frE s h0)] := by
 unfold frS at h
 split at h
 ·exact ⟨_, _, _, _, _, _, _, _, rfl, h⟩
 ·exact h.elim
theorem ok_framed : FunS B 35 frS := by
 refine funS_of (N := 40) (f := ff_framed) env_IM1 mixed fn_framed (by kernel_rfl) (by kernel_rfl) (by kernel_rfl) frS_mono ?_
 intro A k ys hA hF
 obtain ⟨s, h0, h1, h2, h3, h4, h5, h6, rfl, ⟨⟨a0, a1⟩, hs⟩, hk⟩ := frS_inv hF; clear hF
 refine ⟨by kernel_rfl, (hA.nf (nf_framed A k s h0 h1 h2 h3 h4 h5 h6) ?_)⟩
 rw [u64_id h0 a0 (by omega), u64_id (s.size : Int) (by omega) (by omega)]
 unfold frE at hk
 cases c1 : h0 != (s.size : Int) with
 | true => rw [c1] at hk; exact hk
 | false =>
  rw [c1] at hk
  cases c2 : decide ((s.size : Int) < 27) with
  | true => rw [c2] at hk; exact hk
  | false =>
   rw [c2] at hk
   rw [decide_eq_false_iff_not] at c2
   rw [wrap_id ((s.size : Int) - 4) (by omega) (by omega)]
   have hv : 0 <= getV s ((s.size : Int) - 4) 4 /\ getV s ((s.size : Int) - 4) 4 < 4294967296 := by
    unfold getV
    have h1 := beV_lt s ((s.size : Int) - 4).toNat (Int.toNat 4)
    have h2 : 256 ^ Int.toNat 4 = 4294967296 := by decide
    cases getOk s ((s.size : Int) - 4) 4 with
    | true => show 0 <= ((beV s _ _ : Nat) : Int) /\ _; rw [h2] at h1; exact ⟨by omega, by show ((beV s _ _ : Nat) : Int) < _; omega⟩
    | false => exact ⟨Int.le_refl 0, (by decide : (0 : Int) < 4294967296)⟩
   rw [u32_id _ hv.1 hv.2]
   have hx : ((s.size : Int) - 4).toNat = s.size - 4 := by omega
   have hz : Int.toNat 0 = 0 := rfl
   rw [hx, hz]
   refine ⟨hs, ⟨by omega, by omega, by omega⟩, by rw [ByteArray.size_extract]; omega, ?_⟩
   unfold sumAt preS at hk
   rw [cond_false, cond_false] at hk
   cases c3 : getV s ((s.size : Int) - 4) 4 != ((crcN (s.extract 0 (s.size - 4)).data.toList : Nat) : Int) with
   | true => rw [c3] at hk; exact hk
   | false => rw [c3] at hk; exact hk
noncomputable def IM2 := base (fun g => match g with | 34 => some (lift 0 NewS) | 36 => some (lift 1 TextS) | 33 => some (lift 1 hReadS) | 37 => some (lift 1 pRgS) | 38 => some (lift 1 sReadS) | 39 => some (lift 1 prReadS) | 40 => some (lift 1 acReadS) | _ => none) (fun g => match g with | 43 => some PlaceS | 41 => some LeftS | 42 => some iwS | 35 => some frS | _ => none) (fun _ => none)
theorem env_IM2 : EnvOk IM2 := env_of (by
 intro g F h
 split at h
 ·cases h; exact ok_Place
 ·cases h; exact ok_Left
 ·cases h; exact ok_iw
 ·cases h; exact ok_framed
 ·cases h) (by
 intro g F h
 split at h
 ·cases h; exact (lift_ok ok_rNew)
 ·cases h; exact (lift_ok ok_Text)
 ·cases h; exact (lift_ok ok_hRead)
 ·cases h; exact (lift_ok ok_pRg)
 ·cases h; exact (lift_ok ok_sRead)
 ·cases h; exact (lift_ok ok_prRead)
 ·cases h; exact (lift_ok ok_acRead)
 ·cases h) (fun g F h => (by cases h))
theorem fn_dec : FnOk Tryz.prog 10 Tryz.f10 (bodyOf Tryz.f10) := ⟨by kernel_rfl, by kernel_rfl, by kernel_rfl⟩
noncomputable def ff_dec : Fun := ⟨Tryz.f10.ntmps, 0, Tryz.f10.results.toList, fun i => match i with | 6 => some [0, 2, 4] | 10 => some [2, 4, 5, 6, 7] | 12 => some [2, 4, 5, 6, 7] | 14 => some [2, 4, 5, 6, 7] | 16 => some [2, 5, 6, 7] | _ => none, fun i => match i with | 6 => true | 10 => true | 12 => true | 14 => true | 16 => true | _ => false, fun _ => []⟩
theorem nf_dec_a (A : KA Kd) (k : List PV -> Heap Kd -> Prop) (s : ByteArray) : evT IM2 ff_dec A k 400 false [.code (bodyOf Tryz.f10)] (startEnv 89 [.str s]) [] = (((0 : Int) <= (0 : Int) /\ 0 <= (↑s.size : Int) /\ s.size < 4611686018427387904) /\ bif (hx11 s ((0 : Int), Err.nil)).snd.isNil then ((0 <= hV s 4 (hx11 s ((0 : Int), Err.nil)) (hx4 s ((0 : Int), Err.nil)) /\ hV s 4 (hx11 s ((0 : Int), Err.nil)) (hx4 s ((0 : Int), Err.nil)) < 4294967296) /\ s.size < 4611686018427387904) /\ bif !(frE s (hV s 4 (hx11 s ((0 : Int), Err.nil)) (hx4 s ((0 : Int), Err.nil)))).isNil then k [.agg [.int .u64 0, .int .i64 0, .own 0, .own 1, .own 2, .own 3], .err (frE s (hV s 4 (hx11 s ((0 : Int), Err.nil)) (hx4 s ((0 : Int), Err.nil))))] [.row 55 [], .row 59 [], .row 139 [], .row 141 []] else A (tdr Tryz.f10 6) (envAt 89 [(0, .str s), (2, .ptr 0 0), (4, .ptr 1 0)]) [.box [.int .u64 0, .int .i64 0, .own 2, .own 3, .own 4, .own 5], .box [.int .u32 (hV s 4 (hx11 s ((0 : Int), Err.nil)) (hx4 s ((0 : Int), Err.nil))), .int .u64 (hV s 8 (hx11 s ((0 : Int), Err.nil)) (hx5 s ((0 : Int), Err.nil))), .int .i64 (hV s 1 (hx11 s ((0 : Int), Err.nil)) (hx6 s ((0 : Int), Err.nil))), .int .i64 (hV s 1 (hx11 s ((0 : Int), Err.nil)) (hx7 s ((0 : Int), Err.nil))), .int .i64 (hV s 1 (hx11 s ((0 : Int), Err.nil)) (hx8 s ((0 : Int), Err.nil))), .int .i64 (hV s 2 (hx11 s ((0 : Int), Err.nil)) (hx9 s ((0 : Int), Err.nil))), .int .i64 (hV s 2 (hx11 s ((0 : Int), Err.nil)) (hx10 s ((0 : Int), Err.nil)))], .row 55 [], .row 59 [], .row 139 [], .row 141 []] else bif !(hx11 s ((0 : Int), Err.nil)).snd.isNil then k [.agg [.int .u64 0, .int .i64 0, .own 0, .own 1, .own 2, .own 3], .err (hx11 s ((0 : Int), Err.nil)).snd] [.row 55 [], .row 59 [], .row 139 [], .row 141 []] else A (tdr Tryz.f10 6) (envAt 89 [(0, .str s), (2, .ptr 0 0), (4, .ptr 1 0)]) [.box [.int .u64 0, .int .i64 0, .own 2, .own 3, .own 4, .own 5], .box [.int .u32 (hV s 4 (hx11 s ((0 : Int), Err.nil)) (hx4 s ((0 : Int), Err.nil))), .int .u64 (hV s 8 (hx11 s ((0 : Int), Err.nil)) (hx5 s ((0 : Int), Err.nil))), .int .i64 (hV s 1 (hx11 s ((0 : Int), Err.nil)) (hx6 s ((0 : Int), Err.nil))), .int .i64 (hV s 1 (hx11 s ((0 : Int), Err.nil)) (hx7 s ((0 : Int), Err.nil))), .int .i64 (hV s 1 (hx11 s ((0 : Int), Err.nil)) (hx8 s ((0 : Int), Err.nil))), .int .i64 (hV s 2 (hx11 s ((0 : Int), Err.nil)) (hx9 s ((0 : Int), Err.nil))), .int .i64 (hV s 2 (hx11 s ((0 : Int), Err.nil)) (hx10 s ((0 : Int), Err.nil)))], .row 55 [], .row 59 [], .row 139 [], .row 141 []]) := by kernel_rfl
theorem nf_dec_6 (A : KA Kd) (k : List PV -> Heap Kd -> Prop) (s : ByteArray) (h0 h1 h2 h3 h4 h5 h6 : Int) : evT IM2 ff_dec A k 400 true (tdr Tryz.f10 6) (envAt 89 [(0, .str s), (2, .ptr 0 0), (4, .ptr 1 0)]) [.box [.int .u64 0, .int .i64 0, .own 2, .own 3, .own 4, .own 5], .box [.int .u32 h0, .int .u64 h1, .int .i64 h2, .int .i64 h3, .int .i64 h4, .int .i64 h5, .int .i64 h6], .row 55 ([] : List Prt), .row 59 ([] : List Sch), .row 139 ([] : List Pr), .row 141 ([] : List Act3)] = (((0 : Int) <= (0 : Int) /\ 0 <= IntKind.i64.wrap ((↑s.size : Int) - 4) /\ IntKind.i64.wrap ((↑s.size : Int) - 4) <= (↑s.size : Int)) /\ ((0 : Int) <= (0 : Int) /\ 0 <= (↑(s.extract (Int.toNat (0 : Int)) (IntKind.i64.wrap ((↑s.size : Int) - 4)).toNat).size : Int) /\ (s.extract (Int.toNat (0 : Int)) (IntKind.i64.wrap ((↑s.size : Int) - 4)).toNat).size < 4611686018427387904) /\ ((0 <= rdAt (s.extract (Int.toNat (0 : Int)) (IntKind.i64.wrap ((↑s.size : Int) - 4)).toNat) 0 (max (23 : Int) (0 : Int)) Err.nil /\ rdAt (s.extract (Int.toNat (0 : Int)) (IntKind.i64.wrap ((↑s.size : Int) - 4)).toNat) 0 (max (23 : Int) (0 : Int)) Err.nil <= (↑(s.extract (Int.toNat (0 : Int)) (IntKind.i64.wrap ((↑s.size : Int) - 4)).toNat).size : Int) /\ (s.extract (Int.toNat (0 : Int)) (IntKind.i64.wrap ((↑s.size : Int) - 4)).toNat).size < 1099511627776) /\ h3 <= 9223372036854775807) /\ A (tdr Tryz.f10 10) (envAt 89 [(2, .ptr 0 0), (4, .ptr 1 0), (5, .err (ptsX (s.extract (Int.toNat (0 : Int)) (IntKind.i64.wrap ((↑s.size : Int) - 4)).toNat) h3.toNat (-1 : Int) (rdAt (s.extract (Int.toNat (0 : Int)) (IntKind.i64.wrap ((↑s.size : Int) - 4)).toNat) 0 (max (23 : Int) (0 : Int)) Err.nil, rdE (s.extract (Int.toNat (0 : Int)) (IntKind.i64.wrap ((↑s.size : Int) - 4)).toNat) 0 (max (23 : Int) (0 : Int)) 0 Err.nil)).snd), (6, .ptr 2 0), (7, .ptr 3 0)]) [.box [.int .u64 0, .int .i64 0, .own 4, .own 5, .own 6, .own 7], .box [.int .u32 h0, .int .u64 h1, .int .i64 h2, .int .i64 h3, .int .i64 h4, .int .i64 h5, .int .i64 h6], .box [.str (s.extract (Int.toNat (0 : Int)) (IntKind.i64.wrap ((↑s.size : Int) - 4)).toNat), .int .i64 (ptsX (s.extract (Int.toNat (0 : Int)) (IntKind.i64.wrap ((↑s.size : Int) - 4)).toNat) h3.toNat (-1 : Int) (rdAt (s.extract (Int.toNat (0 : Int)) (IntKind.i64.wrap ((↑s.size : Int) - 4)).toNat) 0 (max (23 : Int) (0 : Int)) Err.nil, rdE (s.extract (Int.toNat (0 : Int)) (IntKind.i64.wrap ((↑s.size : Int) - 4)).toNat) 0 (max (23 : Int) (0 : Int)) 0 Err.nil)).fst, .int .i64 2, .err (ptsX (s.extract (Int.toNat (0 : Int)) (IntKind.i64.wrap ((↑s.size : Int) - 4)).toNat) h3.toNat (-1 : Int) (rdAt (s.extract (Int.toNat (0 : Int)) (IntKind.i64.wrap ((↑s.size : Int) - 4)).toNat) 0 (max (23 : Int) (0 : Int)) Err.nil, rdE (s.extract (Int.toNat (0 : Int)) (IntKind.i64.wrap ((↑s.size : Int) - 4)).toNat) 0 (max (23 : Int) (0 : Int)) 0 Err.nil)).snd], .box [.int .u64 h1, .int .i64 h2, .own 8, .own 9, .own 10, .own 11], .row 55 [], .row 59 [], .row 139 [], .row 141 [], .row 55 (Bool.rec ((fun (_ : Unit) => []) ()) ((fun (_ : Unit) => ptsV (s.extract (Int.toNat (0 : Int)) (IntKind.i64.wrap ((↑s.size : Int) - 4)).toNat) h3.toNat (-1 : Int) (rdAt (s.extract (Int.toNat (0 : Int)) (IntKind.i64.wrap ((↑s.size : Int) - 4)).toNat) 0 (max (23 : Int) (0 : Int)) Err.nil, rdE (s.extract (Int.toNat (0 : Int)) (IntKind.i64.wrap ((↑s.size : Int) - 4)).toNat) 0 (max (23 : Int) (0 : Int)) 0 Err.nil)) ()) (ptsX (s.extract (Int.toNat (0 : Int)) (IntKind.i64.wrap ((↑s.size : Int) - 4)).toNat) h3.toNat (-1 : Int) (rdAt (s.extract (Int.toNat (0 : Int)) (IntKind.i64.wrap ((↑s.size : Int) - 4)).toNat) 0 (max (23 : Int) (0 : Int)) Err.nil, rdE (s.extract (Int.toNat (0 : Int)) (IntKind.i64.wrap ((↑s.size : Int) - 4)).toNat) 0 (max (23 : Int) (0 : Int)) 0 Err.nil)).snd.isNil), .row 59 [], .row 139 [], .row 141 []]) := by kernel_rfl
theorem nf_dec_10 (A : KA Kd) (k : List PV -> Heap Kd -> Prop) (t : ByteArray) (a sec ep fi : Int) (e : Err) (h0 h1 h2 h3 h4 h5 h6 : Int) (ps : List Prt) (ss : List Sch) (rs : List Pr) (ac : List Act3) : evT IM2 ff_dec A k 400 true (tdr Tryz.f10 10) (envAt 89 [(2, .ptr 0 0), (4, .ptr 1 0), (5, .err e), (6, .ptr 2 0), (7, .ptr 3 0)]) [.box [.int .u64 0, .int .i64 0, .own 4, .own 5, .own 6, .own 7], .box [.int .u32 h0, .int .u64 h1, .int .i64 h2, .int .i64 h3, .int .i64 h4, .int .i64 h5, .int .i64 h6], .box [.str t, .int .i64 a, .int .i64 sec, .err e], .box [.int .u64 ep, .int .i64 fi, .own 8, .own 9, .own 10, .own 11], .row 55 ([] : List Prt), .row 59 ([] : List Sch), .row 139 ([] : List Pr), .row 141 ([] : List Act3), .row 55 ps, .row 59 ss, .row 139 rs, .row 141 ac] = (bif e.isNil then (0 <= a /\ a <= (↑t.size : Int) /\ t.size < 1099511627776 /\ h4 <= 9223372036854775807) /\ A (tdr Tryz.f10 12) (envAt 89 [(2, .ptr 0 0), (4, .ptr 1 0), (5, .err (schsX t h4.toNat (-1 : Int) (a, e)).snd), (6, .ptr 2 0), (7, .ptr 3 0)]) [.box [.int .u64 0, .int .i64 0, .own 4, .own 5, .own 6, .own 7], .box [.int .u32 h0, .int .u64 h1, .int .i64 h2, .int .i64 h3, .int .i64 h4, .int .i64 h5, .int .i64 h6], .box [.str t, .int .i64 (schsX t h4.toNat (-1 : Int) (a, e)).fst, .int .i64 3, .err (schsX t h4.toNat (-1 : Int) (a, e)).snd], .box [.int .u64 ep, .int .i64 fi, .own 8, .own 9, .own 10, .own 11], .row 55 [], .row 59 [], .row 139 [], .row 141 [], .row 55 ps, .row 59 (Bool.rec ((fun (_ : Unit) => []) ()) ((fun (_ : Unit) => schsV t h4.toNat (-1 : Int) (a, e)) ()) (schsX t h4.toNat (-1 : Int) (a, e)).snd.isNil), .row 139 rs, .row 141 ac]
else A (tdr Tryz.f10 (12 : Nat)) (envAt (89 : Nat) [((2 : Nat), PV.ptr (0 : Nat) (0 : Nat)), ((4 : Nat), PV.ptr (1 : Nat) (0 : Nat)), ((5 : Nat), PV.err e), ((6 : Nat), PV.ptr (2 : Nat) (0 : Nat)), ((7 : Nat), PV.ptr (3 : Nat) (0 : Nat))]) [AObj.box [PV.int IntKind.u64 (0 : Int), PV.int IntKind.i64 (0 : Int), PV.own (4 : Nat), PV.own (5 : Nat), PV.own (6 : Nat), PV.own (7 : Nat)], AObj.box [PV.int IntKind.u32 h0, PV.int IntKind.u64 h1, PV.int IntKind.i64 h2, PV.int IntKind.i64 h3, PV.int IntKind.i64 h4, PV.int IntKind.i64 h5, PV.int IntKind.i64 h6], AObj.box [PV.str t, PV.int IntKind.i64 a, PV.int IntKind.i64 sec, PV.err e], AObj.box [PV.int IntKind.u64 ep, PV.int IntKind.i64 fi, PV.own (8 : Nat), PV.own (9 : Nat), PV.own (10 : Nat), PV.own (11 : Nat)], AObj.row (55 : Nat) [], AObj.row (59 : Nat) [], AObj.row (139 : Nat) [], AObj.row (141 : Nat) [], AObj.row (55 : Nat) ps, AObj.row (59 : Nat) ss, AObj.row (139 : Nat) rs, AObj.row (141 : Nat) ac]) := by kernel_rfl
theorem nf_dec_12 (A : KA Kd) (k : List PV -> Heap Kd -> Prop) (t : ByteArray) (a sec ep fi : Int) (e : Err) (h0 h1 h2 h3 h4 h5 h6 : Int) (ps : List Prt) (ss : List Sch) (rs : List Pr) (ac : List Act3) : evT IM2 ff_dec A k 400 true (tdr Tryz.f10 12) (envAt 89 [(2, .ptr 0 0), (4, .ptr 1 0), (5, .err e), (6, .ptr 2 0), (7, .ptr 3 0)]) [.box [.int .u64 0, .int .i64 0, .own 4, .own 5, .own 6, .own 7], .box [.int .u32 h0, .int .u64 h1, .int .i64 h2, .int .i64 h3, .int .i64 h4, .int .i64 h5, .int .i64 h6], .box [.str t, .int .i64 a, .int .i64 sec, .err e], .box [.int .u64 ep, .int .i64 fi, .own 8, .own 9, .own 10, .own 11], .row 55 ([] : List Prt), .row 59 ([] : List Sch), .row 139 ([] : List Pr), .row 141 ([] : List Act3), .row 55 ps, .row 59 ss, .row 139 rs, .row 141 ac] = (bif e.isNil then ((0 <= a /\ a <= (↑t.size : Int) /\ t.size < 1099511627776) /\ h5 <= 9223372036854775807) /\ A (tdr Tryz.f10 14) (envAt 89 [(2, .ptr 0 0), (4, .ptr 1 0), (5, .err (prsX t h5.toNat none (a, e)).snd), (6, .ptr 2 0), (7, .ptr 3 0)]) [.box [.int .u64 0, .int .i64 0, .own 4, .own 5, .own 6, .own 7], .box [.int .u32 h0, .int .u64 h1, .int .i64 h2, .int .i64 h3, .int .i64 h4, .int .i64 h5, .int .i64 h6], .box [.str t, .int .i64 (prsX t h5.toNat none (a, e)).fst, .int .i64 4, .err (prsX t h5.toNat none (a, e)).snd], .box [.int .u64 ep, .int .i64 fi, .own 8, .own 9, .own 10, .own 11], .row 55 [], .row 59 [], .row 139 [], .row 141 [], .row 55 ps, .row 59 ss, .row 139 (Bool.rec ((fun (_ : Unit) => []) ()) ((fun (_ : Unit) => prsV t h5.toNat none (a, e)) ()) (prsX t h5.toNat none (a, e)).snd.isNil), .row 141 ac]
else A (tdr Tryz.f10 (14 : Nat)) (envAt (89 : Nat) [((2 : Nat), PV.ptr (0 : Nat) (0 : Nat)), ((4 : Nat), PV.ptr (1 : Nat) (0 : Nat)), ((5 : Nat), PV.err e), ((6 : Nat), PV.ptr (2 : Nat) (0 : Nat)), ((7 : Nat), PV.ptr (3 : Nat) (0 : Nat))]) [AObj.box [PV.int IntKind.u64 (0 : Int), PV.int IntKind.i64 (0 : Int), PV.own (4 : Nat), PV.own (5 : Nat), PV.own (6 : Nat), PV.own (7 : Nat)], AObj.box [PV.int IntKind.u32 h0, PV.int IntKind.u64 h1, PV.int IntKind.i64 h2, PV.int IntKind.i64 h3, PV.int IntKind.i64 h4, PV.int IntKind.i64 h5, PV.int IntKind.i64 h6], AObj.box [PV.str t, PV.int IntKind.i64 a, PV.int IntKind.i64 sec, PV.err e], AObj.box [PV.int IntKind.u64 ep, PV.int IntKind.i64 fi, PV.own (8 : Nat), PV.own (9 : Nat), PV.own (10 : Nat), PV.own (11 : Nat)], AObj.row (55 : Nat) [], AObj.row (59 : Nat) [], AObj.row (139 : Nat) [], AObj.row (141 : Nat) [], AObj.row (55 : Nat) ps, AObj.row (59 : Nat) ss, AObj.row (139 : Nat) rs, AObj.row (141 : Nat) ac]) := by kernel_rfl
theorem nf_dec_14 (A : KA Kd) (k : List PV -> Heap Kd -> Prop) (t : ByteArray) (a sec ep fi : Int) (e : Err) (h0 h1 h2 h3 h4 h5 h6 : Int) (ps : List Prt) (ss : List Sch) (rs : List Pr) (ac : List Act3) : evT IM2 ff_dec A k 400 true (tdr Tryz.f10 14) (envAt 89 [(2, .ptr 0 0), (4, .ptr 1 0), (5, .err e), (6, .ptr 2 0), (7, .ptr 3 0)]) [.box [.int .u64 0, .int .i64 0, .own 4, .own 5, .own 6, .own 7], .box [.int .u32 h0, .int .u64 h1, .int .i64 h2, .int .i64 h3, .int .i64 h4, .int .i64 h5, .int .i64 h6], .box [.str t, .int .i64 a, .int .i64 sec, .err e], .box [.int .u64 ep, .int .i64 fi, .own 8, .own 9, .own 10, .own 11], .row 55 ([] : List Prt), .row 59 ([] : List Sch), .row 139 ([] : List Pr), .row 141 ([] : List Act3), .row 55 ps, .row 59 ss, .row 139 rs, .row 141 ac] = (bif e.isNil then ((0 <= a /\ a <= (↑t.size : Int) /\ t.size < 1099511627776) /\ h6 <= 9223372036854775807) /\ A (tdr Tryz.f10 16) (envAt 89 [(2, .ptr 0 0), (5, .err (acsX t h6.toNat none (a, e)).snd), (6, .ptr 1 0), (7, .ptr 2 0)]) [.box [.int .u64 0, .int .i64 0, .own 3, .own 4, .own 5, .own 6], .box [.str t, .int .i64 (acsX t h6.toNat none (a, e)).fst, .int .i64 5, .err (acsX t h6.toNat none (a, e)).snd], .box [.int .u64 ep, .int .i64 fi, .own 7, .own 8, .own 9, .own 10], .row 55 [], .row 59 [], .row 139 [], .row 141 [], .row 55 ps, .row 59 ss, .row 139 rs, .row 141 (Bool.rec ((fun (_ : Unit) => []) ()) ((fun (_ : Unit) => acsV t h6.toNat none (a, e)) ()) (acsX t h6.toNat none (a, e)).snd.isNil)]
else A (tdr Tryz.f10 (16 : Nat)) (envAt (89 : Nat) [((2 : Nat), PV.ptr (0 : Nat) (0 : Nat)), ((5 : Nat), PV.err e), ((6 : Nat), PV.ptr (1 : Nat) (0 : Nat)), ((7 : Nat), PV.ptr (2 : Nat) (0 : Nat))]) [AObj.box [PV.int IntKind.u64 (0 : Int), PV.int IntKind.i64 (0 : Int), PV.own (3 : Nat), PV.own (4 : Nat), PV.own (5 : Nat), PV.own (6 : Nat)], AObj.box [PV.str t, PV.int IntKind.i64 a, PV.int IntKind.i64 sec, PV.err e], AObj.box [PV.int IntKind.u64 ep, PV.int IntKind.i64 fi, PV.own (7 : Nat), PV.own (8 : Nat), PV.own (9 : Nat), PV.own (10 : Nat)], AObj.row (55 : Nat) [], AObj.row (59 : Nat) [], AObj.row (139 : Nat) [], AObj.row (141 : Nat) [], AObj.row (55 : Nat) ps, AObj.row (59 : Nat) ss, AObj.row (139 : Nat) rs, AObj.row (141 : Nat) ac]) := by kernel_rfl
theorem nf_dec_16 (A : KA Kd) (k : List PV -> Heap Kd -> Prop) (t : ByteArray) (a sec ep fi : Int) (e : Err) (ps : List Prt) (ss : List Sch) (rs : List Pr) (ac : List Act3) : evT IM2 ff_dec A k 400 true (tdr Tryz.f10 16) (envAt 89 [(2, .ptr 0 0), (5, .err e), (6, .ptr 1 0), (7, .ptr 2 0)]) [.box [.int .u64 0, .int .i64 0, .own 3, .own 4, .own 5, .own 6], .box [.str t, .int .i64 a, .int .i64 sec, .err e], .box [.int .u64 ep, .int .i64 fi, .own 7, .own 8, .own 9, .own 10], .row 55 ([] : List Prt), .row 59 ([] : List Sch), .row 139 ([] : List Pr), .row 141 ([] : List Act3), .row 55 ps, .row 59 ss, .row 139 rs, .row 141 ac] = (bif e.isNil then (0 <= a /\ a <= (↑t.size : Int) /\ t.size < 4611686018427387904) /\ bif decide ((↑t.size : Int) - a > 0) then k [.agg [.int .u64 0, .int .i64 0, .own 0, .own 1, .own 2, .own 3], .err (inE (6 : Int) (atE a (newE (4 : Int))))] [.row 55 [], .row 59 [], .row 139 [], .row 141 []] else bif !e.isNil then k [.agg [.int .u64 0, .int .i64 0, .own 0, .own 1, .own 2, .own 3], .err e] [.row 55 [], .row 59 [], .row 139 [], .row 141 []] else k [.agg [.int .u64 ep, .int .i64 fi, .own 0, .own 1, .own 2, .own 3], .err Err.nil] [.row 55 ps, .row 59 ss, .row 139 rs, .row 141 ac]
else bif !e.isNil then k [PV.agg [PV.int IntKind.u64 (0 : Int), PV.int IntKind.i64 (0 : Int), PV.own (0 : Nat), PV.own (1 : Nat), PV.own (2 : Nat), PV.own (3 : Nat)], PV.err e] [AObj.row (55 : Nat) [], AObj.row (59 : Nat) [], AObj.row (139 : Nat) [], AObj.row (141 : Nat) []] else k [PV.agg [PV.int IntKind.u64 ep, PV.int IntKind.i64 fi, PV.own (0 : Nat), PV.own (1 : Nat), PV.own (2 : Nat), PV.own (3 : Nat)], PV.err Err.nil] [AObj.row (55 : Nat) ps, AObj.row (59 : Nat) ss, AObj.row (139 : Nat) rs, AObj.row (141 : Nat) ac]) := by kernel_rfl
def DK (k : List PV -> Heap Kd -> Prop) (e : Err) (M : Mdl) : Prop :=
 bif e.isNil then k [.agg [.int .u64 M.1, .int .i64 M.2.1, .own 0, .own 1, .own 2, .own 3], .err .nil] [.row 55 M.2.2.1, .row 59 M.2.2.2.1, .row 139 M.2.2.2.2.1, .row 141 M.2.2.2.2.2]
 else k [.agg [.int .u64 0, .int .i64 0, .own 0, .own 1, .own 2, .own 3], .err e] [.row 55 ([] : List Prt), .row 59 ([] : List Sch), .row 139 ([] : List Pr), .row 141 ([] : List Act3)]
theorem endE_bad {t : ByteArray} {x : RS} (h : x.2.isNil = false) : endE t x = x.2 := by unfold endE; rw [h]; rfl
theorem endE_keep {t : ByteArray} {x : RS} (h : (endE t x).isNil = true) : x.2.isNil = true := by
 cases c : x.2.isNil with
 | true => rfl
 | false => rw [endE_bad c, c] at h; cases h
section
variable (A : KA Kd) (k : List PV -> Heap Kd -> Prop) (hA : Closed IM2 ff_dec k A) (t : ByteArray) (ht : t.size < 1099511627776)
include hA ht
theorem dec_c16 (x : RS) (hx : hIn t x) (sec ep fi : Int) (ps : List Prt) (ss : List Sch) (rs : List Pr) (ac : List Act3) (hk : DK k (endE t x) (ep, fi, ps, ss, rs, ac)) :
 A (tdr Tryz.f10 16) (envAt 89 [(2, .ptr 0 0), (5, .err x.2), (6, .ptr 1 0), (7, .ptr 2 0)]) [.box [.int .u64 0, .int .i64 0, .own 3, .own 4, .own 5, .own 6], .box [.str t, .int .i64 x.1, .int .i64 sec, .err x.2], .box [.int .u64 ep, .int .i64 fi, .own 7, .own 8, .own 9, .own 10], .row 55 ([] : List Prt), .row 59 ([] : List Sch), .row 139 ([] : List Pr), .row 141 ([] : List Act3), .row 55 ps, .row 59 ss, .row 139 rs, .row 141 ac] := by
 refine (hA.nf (nf_dec_16 A k t x.1 sec ep fi x.2 ps ss rs ac) ?_)
 unfold DK endE at hk
 cases c : x.2.isNil with
 | true =>
  rw [c] at hk
  refine ⟨⟨hx.1, hx.2, by omega⟩, ?_⟩
  cases c2 : decide ((t.size : Int) - x.1 > 0) with
  | true => rw [c2] at hk; exact hk
  | false => rw [c2] at hk; exact hk
 | false => rw [c, cond_false, c] at hk; exact hk
theorem dec_c14 (x : RS) (hx : hIn t x) (sec ep fi h0 h1 h2 h3 h4 h5 h6 : Int) (hn : h6 <= 9223372036854775807) (ps : List Prt) (ss : List Sch) (rs : List Pr) (ac : List Act3) (hk : DK k (endE t (acsX t h6.toNat none x)) (ep, fi, ps, ss, rs, acsV t h6.toNat none x)) :
 A (tdr Tryz.f10 14) (envAt 89 [(2, .ptr 0 0), (4, .ptr 1 0), (5, .err x.2), (6, .ptr 2 0), (7, .ptr 3 0)]) [.box [.int .u64 0, .int .i64 0, .own 4, .own 5, .own 6, .own 7], .box [.int .u32 h0, .int .u64 h1, .int .i64 h2, .int .i64 h3, .int .i64 h4, .int .i64 h5, .int .i64 h6], .box [.str t, .int .i64 x.1, .int .i64 sec, .err x.2], .box [.int .u64 ep, .int .i64 fi, .own 8, .own 9, .own 10, .own 11], .row 55 ([] : List Prt), .row 59 ([] : List Sch), .row 139 ([] : List Pr), .row 141 ([] : List Act3), .row 55 ps, .row 59 ss, .row 139 rs, .row 141 ac] := by
 refine (hA.nf (nf_dec_14 A k t x.1 sec ep fi x.2 h0 h1 h2 h3 h4 h5 h6 ps ss rs ac) ?_)
 cases c : x.2.isNil with
 | true =>
  refine ⟨⟨⟨hx.1, hx.2, ht⟩, hn⟩, ?_⟩
  refine dec_c16 A k hA t ht (acsX t h6.toNat none x) (hx.acs _ _) 5 ep fi ps ss rs _ ?_
  cases c2 : (endE t (acsX t h6.toNat none x)).isNil with
  | true => have := endE_keep c2; rw [this]; exact hk
  | false => unfold DK at hk ⊢; rw [c2] at hk ⊢; exact hk
 | false =>
  rw [acsX_err c] at hk
  refine dec_c16 A k hA t ht x hx sec ep fi ps ss rs ac ?_
  unfold DK at hk ⊢; rw [endE_bad c, c] at hk ⊢; exact hk
theorem dec_c12 (x : RS) (hx : hIn t x) (sec ep fi h0 h1 h2 h3 h4 h5 h6 : Int) (hn5 : h5 <= 9223372036854775807) (hn : h6 <= 9223372036854775807) (ps : List Prt) (ss : List Sch) (rs : List Pr) (ac : List Act3)
 (hk : DK k (endE t (acsX t h6.toNat none (prsX t h5.toNat none x))) (ep, fi, ps, ss, prsV t h5.toNat none x, acsV t h6.toNat none (prsX t h5.toNat none x))) :
 A (tdr Tryz.f10 12) (envAt 89 [(2, .ptr 0 0), (4, .ptr 1 0), (5, .err x.2), (6, .ptr 2 0), (7, .ptr 3 0)]) [.box [.int .u64 0, .int .i64 0, .own 4, .own 5, .own 6, .own 7], .box [.int .u32 h0, .int .u64 h1, .int .i64 h2, .int .i64 h3, .int .i64 h4, .int .i64 h5, .int .i64 h6], .box [.str t, .int .i64 x.1, .int .i64 sec, .err x.2], .box [.int .u64 ep, .int .i64 fi, .own 8, .own 9, .own 10, .own 11], .row 55 ([] : List Prt), .row 59 ([] : List Sch), .row 139 ([] : List Pr), .row 141 ([] : List Act3), .row 55 ps, .row 59 ss, .row 139 rs, .row 141 ac] := by
 refine (hA.nf (nf_dec_12 A k t x.1 sec ep fi x.2 h0 h1 h2 h3 h4 h5 h6 ps ss rs ac) ?_)
 cases c : x.2.isNil with
 | true =>
  refine ⟨⟨⟨hx.1, hx.2, ht⟩, hn5⟩, ?_⟩
  refine dec_c14 A k hA t ht (prsX t h5.toNat none x) (hx.prs _ _) 4 ep fi h0 h1 h2 h3 h4 h5 h6 hn ps ss _ ac ?_
  cases c2 : (endE t (acsX t h6.toNat none (prsX t h5.toNat none x))).isNil with
  | true => have := acsX_keep _ _ _ (endE_keep c2); rw [this]; exact hk
  | false => unfold DK at hk ⊢; rw [c2] at hk ⊢; exact hk
 | false =>
  rw [prsX_err c, acsX_err c] at hk
  refine dec_c14 A k hA t ht x hx sec ep fi h0 h1 h2 h3 h4 h5 h6 hn ps ss rs ac ?_
  rw [acsX_err c]
  unfold DK at hk ⊢; rw [endE_bad c, c] at hk ⊢; exact hk
theorem dec_c10 (x : RS) (hx : hIn t x) (sec ep fi h0 h1 h2 h3 h4 h5 h6 : Int) (hn4 : h4 <= 9223372036854775807) (hn5 : h5 <= 9223372036854775807) (hn : h6 <= 9223372036854775807) (ps : List Prt) (ss : List Sch) (rs : List Pr) (ac : List Act3)
 (hk : DK k (endE t (acsX t h6.toNat none (prsX t h5.toNat none (schsX t h4.toNat (-1) x)))) (ep, fi, ps, schsV t h4.toNat (-1) x, prsV t h5.toNat none (schsX t h4.toNat (-1) x), acsV t h6.toNat none (prsX t h5.toNat none (schsX t h4.toNat (-1) x)))) :
 A (tdr Tryz.f10 10) (envAt 89 [(2, .ptr 0 0), (4, .ptr 1 0), (5, .err x.2), (6, .ptr 2 0), (7, .ptr 3 0)]) [.box [.int .u64 0, .int .i64 0, .own 4, .own 5, .own 6, .own 7], .box [.int .u32 h0, .int .u64 h1, .int .i64 h2, .int .i64 h3, .int .i64 h4, .int .i64 h5, .int .i64 h6], .box [.str t, .int .i64 x.1, .int .i64 sec, .err x.2], .box [.int .u64 ep, .int .i64 fi, .own 8, .own 9, .own 10, .own 11], .row 55 ([] : List Prt), .row 59 ([] : List Sch), .row 139 ([] : List Pr), .row 141 ([] : List Act3), .row 55 ps, .row 59 ss, .row 139 rs, .row 141 ac] := by
 refine (hA.nf (nf_dec_10 A k t x.1 sec ep fi x.2 h0 h1 h2 h3 h4 h5 h6 ps ss rs ac) ?_)
 cases c : x.2.isNil with
 | true =>
  refine ⟨⟨hx.1, hx.2, ht, hn4⟩, ?_⟩
  refine dec_c12 A k hA t ht (schsX t h4.toNat (-1) x) (hIn_schs _ _ hx) 3 ep fi h0 h1 h2 h3 h4 h5 h6 hn5 hn ps _ rs ac ?_
  cases c2 : (endE t (acsX t h6.toNat none (prsX t h5.toNat none (schsX t h4.toNat (-1) x)))).isNil with
  | true => have := prsX_keep _ _ _ (acsX_keep _ _ _ (endE_keep c2)); rw [this]; exact hk
  | false => unfold DK at hk ⊢; rw [c2] at hk ⊢; exact hk
 | false =>
  rw [schsX_err c, prsX_err c, acsX_err c] at hk
  refine dec_c12 A k hA t ht x hx sec ep fi h0 h1 h2 h3 h4 h5 h6 hn5 hn ps ss rs ac ?_
  rw [prsX_err c, acsX_err c]
  unfold DK at hk ⊢; rw [endE_bad c, c] at hk ⊢; exact hk
end
theorem dec_c6 (A : KA Kd) (k : List PV -> Heap Kd -> Prop) (hA : Closed IM2 ff_dec k A) (s : ByteArray) (hs : s.size < 1099511627776) (h27 : 27 <= s.size) (h0 h1 h2 h3 h4 h5 h6 : Int) (hn3 : h3 <= 9223372036854775807) (hn4 : h4 <= 9223372036854775807) (hn5 : h5 <= 9223372036854775807) (hn : h6 <= 9223372036854775807)
 (hk : DK k (endE (preS s) (dA (preS s) h3 h4 h5 h6)) (h1, h2, ptsV (preS s) h3.toNat (-1) d0, schsV (preS s) h4.toNat (-1) (dP (preS s) h3), prsV (preS s) h5.toNat none (dS (preS s) h3 h4), acsV (preS s) h6.toNat none (dR (preS s) h3 h4 h5))) :
 A (tdr Tryz.f10 6) (envAt 89 [(0, .str s), (2, .ptr 0 0), (4, .ptr 1 0)]) [.box [.int .u64 0, .int .i64 0, .own 2, .own 3, .own 4, .own 5], .box [.int .u32 h0, .int .u64 h1, .int .i64 h2, .int .i64 h3, .int .i64 h4, .int .i64 h5, .int .i64 h6], .row 55 ([] : List Prt), .row 59 ([] : List Sch), .row 139 ([] : List Pr), .row 141 ([] : List Act3)] := by
 refine (hA.nf (nf_dec_6 A k s h0 h1 h2 h3 h4 h5 h6) ?_)
 rw [wrap_id ((s.size : Int) - 4) (by omega) (by omega)]
 have hx : ((s.size : Int) - 4).toNat = s.size - 4 := by omega
 have hz : Int.toNat 0 = 0 := rfl
 have hm : max (23 : Int) 0 = 23 := by decide
 rw [hx, hz, hm]
 have hpre : s.extract 0 (s.size - 4) = preS s := rfl
 have hsz : (preS s).size = s.size - 4 := by unfold preS; rw [ByteArray.size_extract]; omega
 rw [hpre]
 obtain ⟨_, f2, _, f4⟩ := rd_fits (preS s) 0 23 0 (by omega)
 rw [f2, f4]
 have e23 : (0 : Int) + 23 = 23 := by decide
 rw [e23]
 have hx0 : hIn (preS s) d0 := ⟨by show (0 : Int) <= 23; decide, by show (23 : Int) <= _; omega⟩
 refine ⟨⟨by omega, by omega, by omega⟩, ⟨by omega, by omega, by omega⟩, ⟨⟨by omega, by omega, by omega⟩, hn3⟩, ?_⟩
 refine dec_c10 A k hA (preS s) (by omega) (ptsX (preS s) h3.toNat (-1) d0) (hIn.pts _ _ hx0) 2 h1 h2 h0 h1 h2 h3 h4 h5 h6 hn4 hn5 hn _ [] [] [] ?_
 cases c2 : (endE (preS s) (dA (preS s) h3 h4 h5 h6)).isNil with
 | true =>
  have hq : (ptsX (preS s) h3.toNat (-1) (23, Err.nil)).2.isNil = true := schsX_keep _ _ _ (prsX_keep _ _ _ (acsX_keep _ _ _ (endE_keep c2)))
  rw [hq]; exact hk
 | false => unfold DK at hk ⊢; rw [c2] at hk; unfold dA dR dS dP at c2; rw [c2]; exact hk
def decSp : List PV -> Heap Kd -> (List PV -> Heap Kd -> Prop) -> Prop := fun ys L k => match ys, L with
 | [.str s], [] => (s.size < 1099511627776) /\ k [.agg [.int .u64 (decM s).1, .int .i64 (decM s).2.1, .own 0, .own 1, .own 2, .own 3], .err (decE s)] [.row 55 (decM s).2.2.1, .row 59 (decM s).2.2.2.1, .row 139 (decM s).2.2.2.2.1, .row 141 (decM s).2.2.2.2.2]
 | _, _ => False
theorem decSp_inv {ys : List PV} {L : Heap Kd} {k : List PV -> Heap Kd -> Prop} (h : decSp ys L k) : ∃ (s : ByteArray), ys = [.str s] /\ L = [] /\ (s.size < 1099511627776) /\ k [.agg [.int .u64 (decM s).1, .int .i64 (decM s).2.1, .own 0, .own 1, .own 2, .own 3], .err (decE s)] [.row 55 (decM s).2.2.1, .row 59 (decM s).2.2.2.1, .row 139 (decM s).2.2.2.2.1, .row 141 (decM s).2.2.2.2.2] := by
 unfold decSp at h
 split at h
 ·exact ⟨_, rfl, rfl, h⟩
 ·exact h.elim
theorem ok_dec : FunF B 10 0 decSp := by
 refine funF_of (N := 89) (f := ff_dec) env_IM2 mixed fn_dec (by kernel_rfl) (by kernel_rfl) ?_
 intro A k ys L hA hF
 obtain ⟨s, rfl, rfl, hs, hk⟩ := decSp_inv hF; clear hF
 refine ⟨by kernel_rfl, (hA.nf (nf_dec_a A k s) ?_)⟩
 refine ⟨⟨by omega, by omega, by omega⟩, ?_⟩
 have hz : ∀ e : Err, e.isNil = false -> decE s = e -> k [.agg [.int .u64 0, .int .i64 0, .own 0, .own 1, .own 2, .own 3], .err e] [.row 55 ([] : List Prt), .row 59 ([] : List Sch), .row 139 ([] : List Pr), .row 141 ([] : List Act3)] := by
  intro e he hd
  have hM : decM s = (0, 0, [], [], [], []) := by unfold decM; rw [hd, he]; rfl
  rw [hM, hd] at hk; exact hk
 have iHd : hx11 s (0, .nil) = iH s := rfl
 cases c : (iH s).2.isNil with
 | false =>
  rw [iHd, c]
  refine hz _ c ?_
  unfold decE headE; rw [c, cond_false, c]; rfl
 | true =>
  rw [iHd, c]
  refine ⟨⟨iT_lt s, by omega⟩, ?_⟩
  have hiT : hV s 4 (iH s) (hx4 s (0, .nil)) = iT s := rfl
  rw [hiT]
  have hh : headE s = frE s (iT s) := by unfold headE; rw [c]; rfl
  cases c2 : (frE s (iT s)).isNil with
  | false =>
   refine hz _ c2 ?_
   unfold decE; rw [hh, c2]; rfl
  | true =>
   have hd : decE s = endE (preS s) (dA (preS s) (iP s) (iS s) (iR s) (iA s)) := by unfold decE; rw [hh, c2]; rfl
   refine dec_c6 A k hA s hs (frE_27 c2) _ _ _ _ _ _ _ (hV_le _ _ _ (by decide)) (hV_le _ _ _ (by decide)) (hV_le _ _ _ (by decide)) (hV_le _ _ _ (by decide)) ?_
   unfold DK
   unfold decM at hk
   rw [hd] at hk
   have f0 : endE (preS s) (dA (preS s) (hV s 1 (iH s) (hx7 s (0, .nil))) (hV s 1 (iH s) (hx8 s (0, .nil))) (hV s 2 (iH s) (hx9 s (0, .nil))) (hV s 2 (iH s) (hx10 s (0, .nil)))) = endE (preS s) (dA (preS s) (iP s) (iS s) (iR s) (iA s)) := rfl
   rw [f0]
   cases c3 : (endE (preS s) (dA (preS s) (iP s) (iS s) (iR s) (iA s))).isNil with
   | true =>
    rw [c3] at hk
    have hn := isNil_eq c3
    rw [hn] at hk
    exact hk
   | false => rw [c3] at hk; exact hk
end Go.Ab.T
