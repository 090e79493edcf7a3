import Derived.Test.YtohgjkogfmjpoaaDoorDigits
import Derived.Test.YtohgjkogfmjpoaaDoorCmp
import Derived.Test.YtohgjkogfmjpoaaDoorName0
import Derived.Test.YtohgjkogfmjpoaaDoorSh
import Derived.Test.YtohgjkogfmjpoaaDoorMaB
import Derived.Test.YtohgjkogfmjpoaaDoorOp
set_option linter.unusedVariables false
set_option linter.unusedSimpArgs false
namespace Go.Ab.T
open Go Go.Ab Go.Proofs
set_option maxRecDepth 100000
set_option maxHeartbeats 4000000
def itoaS : SpecS := fun ys Φ => match ys with
  | [.int .i64 n] => (-9223372036854775808 ≤ n ∧ n ≤ 9223372036854775807) ∧ Φ [.str (dB n)]
  | _ => False
theorem itoaS_mono : MonoS itoaS := by
  intro ys Φ Ψ h hF
  unfold itoaS at hF ⊢
  split at hF
  · obtain ⟨hp, hk⟩ := hF; exact ⟨hp, h _ hk⟩
  · exact hF.elim
theorem itoaS_inv {ys : List PV} {Φ : List PV → Prop} (h : itoaS ys Φ) : ∃ (n : Int), ys = [.int .i64 n] ∧ (-9223372036854775808 ≤ n ∧ n ≤ 9223372036854775807) ∧ Φ [.str (dB n)] := by
  unfold itoaS at h
  split at h
  · exact ⟨_, rfl, h⟩
  · exact h.elim
theorem fn_itoa : FnOk Tryd.prog 14 Tryd.f14 (bodyOf Tryd.f14) := ⟨by kernel_rfl, by kernel_rfl, by kernel_rfl⟩
noncomputable def ff_itoa : Fun := ⟨Tryd.f14.ntmps, 0, Tryd.f14.results.toList, fun _ => none, fun _ => false, fun _ => []⟩
theorem ok_itoa : FunS B 14 itoaS := by
  refine funS_ofCalls fn_itoa ?_
  intro Z ys Φ hF w vs hZ hg hv
  obtain ⟨n, rfl, ⟨h0, h1⟩, hk⟩ := itoaS_inv hF; clear hF
  obtain ⟨v, r, rfl, hv1, hv2⟩ := hv
  simp only [RepFs] at hv2; subst hv2
  have e : v = .int .i64 n := by
    obtain ⟨h1, h2⟩ := hv1
    cases v <;> simp [RepF, Value.cells] at h1 <;> first | exact (by obtain ⟨rfl, rfl⟩ := h1; rfl) | (cases h2)
  subst e
  have hT : Lib.TabIs Tryd.prog w "internal/strconv.uint64pow10" .u64 Lib.pow10Tab := tabIs_of (zs := Lib.pow10Tab) (show Tryd.prog.globalNamed "internal/strconv.uint64pow10" = some 1 by kernel_rfl) (hg _ _ rfl)
  refine (Tryd.strconv_Itoa n h0 h1 w hT).mono ?_
  rintro e w' ⟨rfl, q, os, rfl⟩
  exact ⟨_, _, rfl, hk, .inr ⟨rfl, rfl⟩, More.grows _ _ _⟩
def cmpSS : SpecS := fun ys Φ => match ys with
  | [.str a, .str b] => Φ [.int .i64 (Lib.compareBytes a.data.toList b.data.toList)]
  | _ => False
theorem cmpSS_mono : MonoS cmpSS := by
  intro ys Φ Ψ h hF
  unfold cmpSS at hF ⊢
  split at hF
  · exact h _ hF
  · exact hF.elim
theorem cmpSS_inv {ys : List PV} {Φ : List PV → Prop} (h : cmpSS ys Φ) : ∃ (a : ByteArray) (b : ByteArray), ys = [.str a, .str b] ∧ Φ [.int .i64 (Lib.compareBytes a.data.toList b.data.toList)] := by
  unfold cmpSS at h
  split at h
  · exact ⟨_, _, rfl, h⟩
  · exact h.elim
theorem fn_cmpSF : FnOk Tryd.prog 13 Tryd.f13 (bodyOf Tryd.f13) := ⟨by kernel_rfl, by kernel_rfl, by kernel_rfl⟩
noncomputable def ff_cmpSF : Fun := ⟨Tryd.f13.ntmps, 0, Tryd.f13.results.toList, fun _ => none, fun _ => false, fun _ => []⟩
theorem ok_cmpSF : FunS B 13 cmpSS := by
  refine funS_ofCalls fn_cmpSF ?_
  intro Z ys Φ hF w vs hZ hg hv
  obtain ⟨a, b, rfl, hk⟩ := cmpSS_inv hF; clear hF
  obtain ⟨v, r, rfl, hv1, u, r', rfl, hu1, hv2⟩ := hv
  simp only [RepFs] at hv2; subst hv2
  have e : v = .string a := by
    obtain ⟨h1, h2⟩ := hv1
    cases v <;> simp [RepF, Value.cells] at h1 <;> first | exact (by subst h1; rfl) | (cases h2)
  have e' : u = .string b := by
    obtain ⟨h1, h2⟩ := hu1
    cases u <;> simp [RepF, Value.cells] at h1 <;> first | exact (by subst h1; rfl) | (cases h2)
  subst e e'
  refine (Tryd.strings_Compare a b w).mono ?_
  rintro e w' ⟨rfl, rfl⟩
  exact ⟨_, _, rfl, hk, .inr ⟨rfl, rfl⟩, More.refl _⟩
noncomputable def NM0 := base (fun _ => none) (fun g => match g with | 10 => some diS | 5 => some diS | 17 => some nanS | 12 => some cmpIS | 11 => some orS | 16 => some mayS | 15 => some letS | 9 => some rightS | 8 => some rightS | 14 => some itoaS | 13 => some cmpSS | _ => none) (fun _ => none)
theorem env_NM0 : EnvOk NM0 := env_of (by
    intro g F h
    split at h
    · cases h; exact ok_dig
    · cases h; exact ok_digsF
    · cases h; exact ok_nanI
    · cases h; exact ok_cmpI
    · cases h; exact ok_orF
    · cases h; exact ok_may
    · cases h; exact ok_letter
    · cases h; exact ok_right
    · cases h; exact ok_rright
    · cases h; exact ok_itoa
    · cases h; exact ok_cmpSF
    · cases h) (fun g F h => (by cases h)) (fun g F h => (by cases h))
def mkN (n : Int) : ByteArray := bif decide (((dB (max n 0)).size : Int) > 15) then ⟨#[]⟩ else ⟨#[80]⟩ ++ dB (max n 0)
def makeS : SpecS := fun ys Φ => match ys with
  | [.int .i64 n] => (n ≤ 9223372036854775807) ∧ Φ [.str (mkN n)]
  | _ => False
theorem makeS_mono : MonoS makeS := by
  intro ys Φ Ψ h hF
  unfold makeS at hF ⊢
  split at hF
  · obtain ⟨hp, hk⟩ := hF; exact ⟨hp, h _ hk⟩
  · exact hF.elim
theorem makeS_inv {ys : List PV} {Φ : List PV → Prop} (h : makeS ys Φ) : ∃ (n : Int), ys = [.int .i64 n] ∧ (n ≤ 9223372036854775807) ∧ Φ [.str (mkN n)] := by
  unfold makeS at h
  split at h
  · exact ⟨_, rfl, h⟩
  · exact h.elim
theorem fn_make6 : FnOk Tryd.prog 7 Tryd.f7 (bodyOf Tryd.f7) := ⟨by kernel_rfl, by kernel_rfl, by kernel_rfl⟩
noncomputable def ff_make6 : Fun := ⟨Tryd.f7.ntmps, 0, Tryd.f7.results.toList, fun _ => none, fun _ => false, fun _ => []⟩
theorem nf_make6 (A : KA Kd) (k : List PV → Heap Kd → Prop) (n : Int) : evT NM0 ff_make6 A k 400 false [.code (bodyOf Tryd.f7)] (startEnv 12 [.int .i64 n]) [] = (((-9223372036854775808 : Int) ≤ mmI true n (0 : Int) ∧ mmI true n (0 : Int) ≤ (9223372036854775807 : Int)) ∧ bif decide ((↑(dB (mmI true n (0 : Int))).size : Int) > (15 : Int)) then k [PV.str (ByteArray.mk #[])] [] else (ByteArray.mk #[(80 : UInt8)]).size + (dB (mmI true n (0 : Int))).size ≤ (9223372036854775807 : Nat) ∧ k [PV.str (ByteArray.mk #[(80 : UInt8)] ++ dB (mmI true n (0 : Int)))] []) := by kernel_rfl
theorem ok_make6 : FunS B 7 makeS := by
  refine funS_of (N := 12) (f := ff_make6) env_NM0 mixed fn_make6 (by kernel_rfl) (by kernel_rfl) (by kernel_rfl) makeS_mono ?_
  intro A k ys hA hF
  obtain ⟨n, rfl, h, hk⟩ := makeS_inv hF; clear hF
  refine ⟨by kernel_rfl, (hA.nf (nf_make6 A k n) ?_)⟩
  rw [mmI_max]
  refine ⟨⟨by omega, by omega⟩, ?_⟩
  unfold mkN at hk
  have q := dB_size (n := max n 0) (by omega) (by omega)
  cases c : decide (((dB (max n 0)).size : Int) > 15) with
  | true => rw [c] at hk; exact hk
  | false =>
    rw [c] at hk
    exact ⟨by show 1 + _ ≤ _; omega, hk⟩
def cmpN (a b : ByteArray) : Int := orV [cmpI a.size b.size, Lib.compareBytes a.data.toList b.data.toList]
def cmpNS : SpecS := fun ys Φ => match ys with
  | [.str a, .str b] => Φ [.int .i64 (cmpN a b)]
  | _ => False
theorem cmpNS_mono : MonoS cmpNS := by
  intro ys Φ Ψ h hF
  unfold cmpNS at hF ⊢
  split at hF
  · exact h _ hF
  · exact hF.elim
theorem cmpNS_inv {ys : List PV} {Φ : List PV → Prop} (h : cmpNS ys Φ) : ∃ (a : ByteArray) (b : ByteArray), ys = [.str a, .str b] ∧ Φ [.int .i64 (cmpN a b)] := by
  unfold cmpNS at h
  split at h
  · exact ⟨_, _, rfl, h⟩
  · exact h.elim
theorem fn_cmp6 : FnOk Tryd.prog 6 Tryd.f6 (bodyOf Tryd.f6) := ⟨by kernel_rfl, by kernel_rfl, by kernel_rfl⟩
noncomputable def ff_cmp6 : Fun := ⟨Tryd.f6.ntmps, 0, Tryd.f6.results.toList, fun _ => none, fun _ => false, fun _ => []⟩
theorem nf_cmp6 (A : KA Kd) (k : List PV → Heap Kd → Prop) (a b : ByteArray) : evT NM0 ff_cmp6 A k 400 false [.code (bodyOf Tryd.f6)] (startEnv 15 [.str a, .str b]) [] = (∃ (zs : List Int), List.map e_int zs = [PV.int IntKind.i64 (cmpI (↑a.size : Int) (↑b.size : Int)), PV.int IntKind.i64 (Lib.compareBytes a.data.toList b.data.toList)] ∧ ∃ (l : List Int), PV.sl Int e_int zs = PV.sl Int e_int l ∧ l.length < (4611686018427387904 : Nat) ∧ k [PV.int IntKind.i64 (orV l)] []) := by kernel_rfl
theorem ok_cmp6 : FunS B 6 cmpNS := by
  refine funS_of (N := 15) (f := ff_cmp6) env_NM0 mixed fn_cmp6 (by kernel_rfl) (by kernel_rfl) (by kernel_rfl) cmpNS_mono ?_
  intro A k ys hA hF
  obtain ⟨a, b, rfl, hk⟩ := cmpNS_inv hF; clear hF
  refine ⟨by kernel_rfl, (hA.nf (nf_cmp6 A k a b) ?_)⟩
  exact ⟨[cmpI a.size b.size, Lib.compareBytes a.data.toList b.data.toList], rfl, _, rfl, (by show (2 : Nat) < 4611686018427387904; decide), hk⟩
noncomputable def NM1 := base (fun _ => none) (fun g => match g with | 10 => some diS | 5 => some diS | 17 => some nanS | 12 => some cmpIS | 11 => some orS | 16 => some mayS | 15 => some letS | 9 => some rightS | 8 => some rightS | 14 => some itoaS | 13 => some cmpSS | 7 => some makeS | 6 => some cmpNS | _ => none) (fun _ => none)
theorem env_NM1 : EnvOk NM1 := env_of (by
    intro g F h
    split at h
    · cases h; exact ok_dig
    · cases h; exact ok_digsF
    · cases h; exact ok_nanI
    · cases h; exact ok_cmpI
    · cases h; exact ok_orF
    · cases h; exact ok_may
    · cases h; exact ok_letter
    · cases h; exact ok_right
    · cases h; exact ok_rright
    · cases h; exact ok_itoa
    · cases h; exact ok_cmpSF
    · cases h; exact ok_make6
    · cases h; exact ok_cmp6
    · cases h) (fun g F h => (by cases h)) (fun g F h => (by cases h))
def trueS6 : SpecS := fun ys Φ => match ys with
  | [] => Φ [.bool true]
  | _ => False
theorem trueS6_mono : MonoS trueS6 := by
  intro ys Φ Ψ h hF
  unfold trueS6 at hF ⊢
  split at hF
  · exact h _ hF
  · exact hF.elim
theorem trueS6_inv {ys : List PV} {Φ : List PV → Prop} (h : trueS6 ys Φ) : ys = [] ∧ Φ [.bool true] := by
  unfold trueS6 at h
  split at h
  · exact ⟨rfl, h⟩
  · exact h.elim
theorem fn_awake6 : FnOk Tryd.prog 4 Tryd.f4 (bodyOf Tryd.f4) := ⟨by kernel_rfl, by kernel_rfl, by kernel_rfl⟩
noncomputable def ff_awake6 : Fun := ⟨Tryd.f4.ntmps, 0, Tryd.f4.results.toList, fun _ => none, fun _ => false, fun _ => []⟩
theorem nf_awake6 (A : KA Kd) (k : List PV → Heap Kd → Prop)  : evT NM1 ff_awake6 A k 400 false [.code (bodyOf Tryd.f4)] (startEnv 6 []) [] = (k [PV.bool !rightN (ByteArray.mk #[(49 : UInt8), (78 : UInt8), (65 : UInt8), (86 : UInt8)])] []) := by kernel_rfl
theorem ok_awake6 : FunS B 4 trueS6 := by
  refine funS_of (N := 6) (f := ff_awake6) env_NM1 mixed fn_awake6 (by kernel_rfl) (by kernel_rfl) (by kernel_rfl) trueS6_mono ?_
  intro A k ys hA hF
  obtain ⟨rfl, hk⟩ := trueS6_inv hF; clear hF
  refine ⟨by kernel_rfl, (hA.nf (nf_awake6 A k) ?_)⟩
  exact hk
noncomputable def NM2 := base (fun _ => none) (fun g => match g with | 10 => some diS | 5 => some diS | 17 => some nanS | 12 => some cmpIS | 11 => some orS | 16 => some mayS | 15 => some letS | 9 => some rightS | 8 => some rightS | 14 => some itoaS | 13 => some cmpSS | 7 => some makeS | 6 => some cmpNS | 4 => some trueS6 | _ => none) (fun _ => none)
theorem env_NM2 : EnvOk NM2 := env_of (by
    intro g F h
    split at h
    · cases h; exact ok_dig
    · cases h; exact ok_digsF
    · cases h; exact ok_nanI
    · cases h; exact ok_cmpI
    · cases h; exact ok_orF
    · cases h; exact ok_may
    · cases h; exact ok_letter
    · cases h; exact ok_right
    · cases h; exact ok_rright
    · cases h; exact ok_itoa
    · cases h; exact ok_cmpSF
    · cases h; exact ok_make6
    · cases h; exact ok_cmp6
    · cases h; exact ok_awake6
    · cases h) (fun g F h => (by cases h)) (fun g F h => (by cases h))
theorem cmpN_spec (a b : ByteArray) : ((cmpN a b == 0) = (a.toList == b.toList)) ∧ ((a.size : Int) < b.size → decide (cmpN a b < 0) = true) ∧ ((a.size : Int) = b.size → decide (cmpN a b < 0) = Op.bytesLess a.toList b.toList) ∧ ((b.size : Int) < a.size → decide (cmpN a b < 0) = false) := by
  have hla := blen a
  have hlb := blen b
  rw [ByteArray.toList_eq, ByteArray.toList_eq]
  have e : cmpN a b = bif cmpI a.size b.size != 0 then cmpI a.size b.size else (bif Lib.compareBytes a.data.toList b.data.toList != 0 then Lib.compareBytes a.data.toList b.data.toList else 0) := rfl
  rcases cmpI_cases (a.size : Int) (b.size : Int) with ⟨h1, h2⟩ | ⟨h1, h2⟩ | ⟨h1, h2⟩
  · rw [e, h1]
    have hne : (a.data.toList == b.data.toList) = false := by
      rw [beq_eq_false_iff_ne]; intro q; rw [q] at hla; omega
    rw [hne]
    exact ⟨rfl, fun _ => rfl, fun q => by omega, fun q => by omega⟩
  · rw [e, h1]
    have hne : (a.data.toList == b.data.toList) = false := by
      rw [beq_eq_false_iff_ne]; intro q; rw [q] at hla; omega
    rw [hne]
    exact ⟨rfl, fun q => by omega, fun q => by omega, fun _ => rfl⟩
  · rw [e, h1]
    rcases cmpB_cases a.data.toList b.data.toList with ⟨g1, g2, g3⟩ | ⟨g1, g2, g3⟩ | ⟨g1, g2, g3⟩
    · rw [g1, g2, beq_false_of_ne g3]
      exact ⟨rfl, fun _ => rfl, fun _ => rfl, fun q => by omega⟩
    · rw [g1, g2, g3, beq_self_eq_true]
      exact ⟨rfl, fun q => by omega, fun _ => rfl, fun _ => rfl⟩
    · rw [g1, g2, beq_false_of_ne g3]
      exact ⟨rfl, fun q => by omega, fun _ => rfl, fun _ => rfl⟩
theorem fn_NameMakes : FnOk Tryd.prog 3 Tryd.f3 (bodyOf Tryd.f3) := ⟨by kernel_rfl, by kernel_rfl, by kernel_rfl⟩
noncomputable def ff_NameMakes : Fun := ⟨Tryd.f3.ntmps, 0, Tryd.f3.results.toList, fun _ => none, fun _ => false, fun _ => []⟩
theorem nf_NameMakes (A : KA Kd) (k : List PV → Heap Kd → Prop) (n : Int) (a b : ByteArray) : evT NM2 ff_NameMakes A k 400 false [.code (bodyOf Tryd.f3)] (startEnv 75 [.int .i64 n, .str a, .str b]) [] = (bif decide ((↑a.size : Int) > (100 : Int)) then k [PV.bool true] []
else bif decide ((↑b.size : Int) > (100 : Int)) then k [PV.bool true] [] else ((-9223372036854775808 : Int) ≤ mmI true n (0 : Int) ∧ mmI true n (0 : Int) ≤ (9223372036854775807 : Int)) ∧ (ByteArray.mk #[(80 : UInt8)]).size + (dB (mmI true n (0 : Int))).size ≤ (9223372036854775807 : Nat) ∧ bif decide ((↑(ByteArray.mk #[(80 : UInt8)] ++ dB (mmI true n (0 : Int))).size : Int) > (16 : Int)) then bif decide ((↑a.size : Int) < (↑b.size : Int)) then n ≤ (9223372036854775807 : Int) ∧ bif (mkN n).toList == (ByteArray.mk #[]).toList then bif decide (cmpN a b < (0 : Int)) == true then bif (cmpN a b == (0 : Int)) == (a.toList == b.toList) then k [PV.bool true] [] else k [PV.bool false] [] else k [PV.bool false] [] else k [PV.bool false] [] else bif (↑a.size : Int) == (↑b.size : Int) then n ≤ (9223372036854775807 : Int) ∧ bif (mkN n).toList == (ByteArray.mk #[]).toList then bif decide (cmpN a b < (0 : Int)) == Op.bytesLess a.toList b.toList then bif (cmpN a b == (0 : Int)) == (a.toList == b.toList) then k [PV.bool true] [] else k [PV.bool false] [] else k [PV.bool false] [] else k [PV.bool false] [] else n ≤ (9223372036854775807 : Int) ∧ bif (mkN n).toList == (ByteArray.mk #[]).toList then bif decide (cmpN a b < (0 : Int)) == false then bif (cmpN a b == (0 : Int)) == (a.toList == b.toList) then k [PV.bool true] [] else k [PV.bool false] [] else k [PV.bool false] [] else k [PV.bool false] [] else bif decide ((↑a.size : Int) < (↑b.size : Int)) then n ≤ (9223372036854775807 : Int) ∧ bif (mkN n).toList == (ByteArray.mk #[(80 : UInt8)] ++ dB (mmI true n (0 : Int))).toList then bif (ByteArray.mk #[(80 : UInt8)] ++ dB (mmI true n (0 : Int))).toList == (ByteArray.mk #[]).toList then bif decide (cmpN a b < (0 : Int)) == true then bif (cmpN a b == (0 : Int)) == (a.toList == b.toList) then k [PV.bool true] [] else k [PV.bool false] [] else k [PV.bool false] [] else bif rightN (ByteArray.mk #[(80 : UInt8)] ++ dB (mmI true n (0 : Int))) then bif decide (cmpN a b < (0 : Int)) == true then bif (cmpN a b == (0 : Int)) == (a.toList == b.toList) then k [PV.bool true] [] else k [PV.bool false] [] else k [PV.bool false] [] else k [PV.bool false] [] else k [PV.bool false] [] else bif (↑a.size : Int) == (↑b.size : Int) then n ≤ (9223372036854775807 : Int) ∧ bif (mkN n).toList == (ByteArray.mk #[(80 : UInt8)] ++ dB (mmI true n (0 : Int))).toList then bif (ByteArray.mk #[(80 : UInt8)] ++ dB (mmI true n (0 : Int))).toList == (ByteArray.mk #[]).toList then bif decide (cmpN a b < (0 : Int)) == Op.bytesLess a.toList b.toList then bif (cmpN a b == (0 : Int)) == (a.toList == b.toList) then k [PV.bool true] [] else k [PV.bool false] [] else k [PV.bool false] [] else bif rightN (ByteArray.mk #[(80 : UInt8)] ++ dB (mmI true n (0 : Int))) then bif decide (cmpN a b < (0 : Int)) == Op.bytesLess a.toList b.toList then bif (cmpN a b == (0 : Int)) == (a.toList == b.toList) then k [PV.bool true] [] else k [PV.bool false] [] else k [PV.bool false] [] else k [PV.bool false] [] else k [PV.bool false] [] else n ≤ (9223372036854775807 : Int) ∧ bif (mkN n).toList == (ByteArray.mk #[(80 : UInt8)] ++ dB (mmI true n (0 : Int))).toList then bif (ByteArray.mk #[(80 : UInt8)] ++ dB (mmI true n (0 : Int))).toList == (ByteArray.mk #[]).toList then bif decide (cmpN a b < (0 : Int)) == false then bif (cmpN a b == (0 : Int)) == (a.toList == b.toList) then k [PV.bool true] [] else k [PV.bool false] [] else k [PV.bool false] [] else bif rightN (ByteArray.mk #[(80 : UInt8)] ++ dB (mmI true n (0 : Int))) then bif decide (cmpN a b < (0 : Int)) == false then bif (cmpN a b == (0 : Int)) == (a.toList == b.toList) then k [PV.bool true] [] else k [PV.bool false] [] else k [PV.bool false] [] else k [PV.bool false] [] else k [PV.bool false] []) := by kernel_rfl
def lawNM : SpecS := fun ys Φ => match ys with
  | [.int .i64 n, .str a, .str b] => (n ≤ 9223372036854775807) ∧ Φ [.bool true]
  | _ => False
theorem lawNM_mono : MonoS lawNM := by
  intro ys Φ Ψ h hF
  unfold lawNM at hF ⊢
  split at hF
  · obtain ⟨hp, hk⟩ := hF; exact ⟨hp, h _ hk⟩
  · exact hF.elim
theorem lawNM_inv {ys : List PV} {Φ : List PV → Prop} (h : lawNM ys Φ) : ∃ (n : Int) (a : ByteArray) (b : ByteArray), ys = [.int .i64 n, .str a, .str b] ∧ (n ≤ 9223372036854775807) ∧ Φ [.bool true] := by
  unfold lawNM at h
  split at h
  · exact ⟨_, _, _, rfl, h⟩
  · exact h.elim
theorem ok_NM : FunS B 3 lawNM := by
  refine funS_of (N := 75) (f := ff_NameMakes) env_NM2 mixed fn_NameMakes (by kernel_rfl) (by kernel_rfl) (by kernel_rfl) lawNM_mono ?_
  intro A k ys hA hF
  obtain ⟨n, a, b, rfl, hn, hk⟩ := lawNM_inv hF; clear hF
  refine ⟨by kernel_rfl, (hA.nf (nf_NameMakes A k n a b) ?_)⟩
  rw [mmI_max]
  cases d1 : decide ((a.size : Int) > 100) with
  | true => exact hk
  | false =>
  cases d2 : decide ((b.size : Int) > 100) with
  | true => exact hk
  | false =>
  obtain ⟨s1, s2, s3, s4⟩ := cmpN_spec a b
  have q := dB_size (n := max n 0) (by omega) (by omega)
  have hz : (ByteArray.mk #[80] ++ dB (max n 0)).size = 1 + (dB (max n 0)).size := by rw [ByteArray.size_append]; rfl
  have hne : ((ByteArray.mk #[80] ++ dB (max n 0)).toList == (ByteArray.mk #[]).toList) = false := by
    rw [beq_eq_false_iff_ne, ByteArray.toList_eq, ByteArray.toList_eq]
    intro h
    have h2 := congrArg List.length h
    rw [blen, blen, hz] at h2
    have : (ByteArray.mk #[]).size = 0 := rfl
    omega
  have lit : (ByteArray.mk #[80]).size = 1 := rfl
  rw [cond_false, cond_false, lit, hz]
  refine ⟨⟨by omega, by omega⟩, by omega, ?_⟩
  have hlong : ∀ x : Int, x = ((1 + (dB (max n 0)).size : Nat) : Int) → decide (x > 16) = decide (((dB (max n 0)).size : Int) > 15) := fun x hx => by
    rw [Bool.eq_iff_iff, decide_eq_true_eq, decide_eq_true_eq]; omega
  rw [hlong _ (by omega)]
  cases d3 : decide (((dB (max n 0)).size : Int) > 15) with
  | true =>
    have hm : mkN n = ⟨#[]⟩ := by unfold mkN; rw [d3]; rfl
    rw [hm, cond_true]
    simp only [beq_self_eq_true, cond_true, s1]
    cases d4 : decide ((a.size : Int) < (b.size : Int)) with
    | true =>
      rw [decide_eq_true_eq] at d4
      rw [s2 d4]; exact ⟨hn, hk⟩
    | false =>
      rw [decide_eq_false_iff_not] at d4
      cases d5 : (a.size : Int) == (b.size : Int) with
      | true => rw [s3 (eq_of_beq d5), beq_self_eq_true]; exact ⟨hn, hk⟩
      | false =>
        rw [beq_eq_false_iff_ne] at d5
        rw [s4 (by omega)]; exact ⟨hn, hk⟩
  | false =>
    have hm : mkN n = ⟨#[80]⟩ ++ dB (max n 0) := by unfold mkN; rw [d3]; rfl
    rw [decide_eq_false_iff_not] at d3
    have hr := rightN_P (n := max n 0) (by omega) (by omega)
    rw [hm, cond_false]
    simp only [beq_self_eq_true, cond_true, cond_false, s1, hne, hr]
    cases d4 : decide ((a.size : Int) < (b.size : Int)) with
    | true =>
      rw [decide_eq_true_eq] at d4
      rw [s2 d4]; exact ⟨hn, hk⟩
    | false =>
      rw [decide_eq_false_iff_not] at d4
      cases d5 : (a.size : Int) == (b.size : Int) with
      | true => rw [s3 (eq_of_beq d5), beq_self_eq_true]; exact ⟨hn, hk⟩
      | false =>
        rw [beq_eq_false_iff_ne] at d5
        rw [s4 (by omega)]; exact ⟨hn, hk⟩
theorem pre_NameMakes (n : Int) (a b : ByteArray) (hn : g_o3 n) (_ : g_o9 a) (_ : g_o9 b) : lawNM [a_o3 n, a_o9 a, a_o9 b] fun rs => rs = [.bool true] := by
  have w : (Lit.int .i64 n).wf = true := hn
  simp [Lit.wf, IntKind.min, IntKind.max, IntKind.signed, IntKind.bits] at w
  have h : n ≤ 9223372036854775807 := by omega
  exact ⟨h, rfl⟩
end Go.Ab.T
