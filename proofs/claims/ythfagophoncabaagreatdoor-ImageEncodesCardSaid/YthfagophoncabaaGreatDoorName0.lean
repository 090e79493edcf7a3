import Derived.Test.YthfagophoncabaaGreatDoorFault
import Derived.Test.YthfagophoncabaaGreatDoorMaB
set_option linter.unusedVariables false
set_option linter.unusedSimpArgs false
set_option linter.unusedSectionVars false
namespace Go.Ab.T
open Go Go.Ab Go.Proofs
variable [DMode]
set_option maxRecDepth 100000
set_option maxHeartbeats 4000000
def mayS : SpecS := fun ys Φ => match ys with
 | [.int .u8 b, .int .i64 i] => Φ [.bool (mayZ b i)]
 | _ => False
theorem mayS_mono : MonoS mayS := by
 intro ys Φ Ψ h hF
 unfold mayS at hF ⊢
 split at hF
 ·exact h _ hF
 ·exact hF.elim
theorem mayS_inv {ys : List PV} {Φ : List PV -> Prop} (h : mayS ys Φ) : ∃ (b : Int) (i : Int), ys = [.int .u8 b, .int .i64 i] /\ Φ [.bool (mayZ b i)] := by
 unfold mayS at h
 split at h
 ·exact ⟨_, _, rfl, h⟩
 ·exact h.elim
theorem fn_may : FnOk Tryz.prog 169 Tryz.f169 (bodyOf Tryz.f169) := ⟨by kernel_rfl, by kernel_rfl, by kernel_rfl⟩
noncomputable def ff_may : Fun := ⟨Tryz.f169.ntmps, 0, Tryz.f169.results.toList, fun _ => none, fun _ => false, fun _ => []⟩
theorem nf_may (A : KA Kd) (k : List PV -> Heap Kd -> Prop) (b i : Int) : evT B ff_may A k 400 false [.code (bodyOf Tryz.f169)] (startEnv 23 [.int .u8 b, .int .i64 i]) [] = (bif b == 95 then bif i == 0 then k [.bool false] [] else k [.bool true] []
else bif decide (b >= (48 : Int)) then bif decide (b <= (57 : Int)) then bif i == (0 : Int) then k [PV.bool false] [] else k [PV.bool true] [] else bif decide (b >= (65 : Int)) then bif decide (b <= (90 : Int)) then k [PV.bool true] [] else k [PV.bool false] [] else k [PV.bool false] [] else bif decide (b >= (65 : Int)) then bif decide (b <= (90 : Int)) then k [PV.bool true] [] else k [PV.bool false] [] else k [PV.bool false] []) := by kernel_rfl
theorem ok_may : FunS B 169 mayS := by
 refine funS_of (N := 23) (f := ff_may) env0 mixed fn_may (by kernel_rfl) (by kernel_rfl) (by kernel_rfl) mayS_mono ?_
 intro A k ys hA hF
 obtain ⟨b, i, rfl, hk⟩ := mayS_inv hF; clear hF
 refine ⟨by kernel_rfl, (hA.nf (nf_may A k b i) ?_)⟩
 unfold mayZ digZ letZ at hk
 cases h1 : b == 95 <;> cases h2 : decide (b >= 48) <;> cases h3 : decide (b <= 57) <;> cases h4 : decide (b >= 65) <;> cases h5 : decide (b <= 90) <;> cases h6 : i == 0 <;>
  simp only [h1, h2, h3, h4, h5, h6, Bool.true_or, Bool.false_or, Bool.and_true, Bool.and_false, Bool.true_and, Bool.false_and, cond_true, cond_false, Bool.not_true, Bool.not_false] at hk ⊢ <;> exact hk
def letS : SpecS := fun ys Φ => match ys with
 | [.int .u8 b] => Φ [.bool (letZ b)]
 | _ => False
theorem letS_mono : MonoS letS := by
 intro ys Φ Ψ h hF
 unfold letS at hF ⊢
 split at hF
 ·exact h _ hF
 ·exact hF.elim
theorem letS_inv {ys : List PV} {Φ : List PV -> Prop} (h : letS ys Φ) : ∃ (b : Int), ys = [.int .u8 b] /\ Φ [.bool (letZ b)] := by
 unfold letS at h
 split at h
 ·exact ⟨_, rfl, h⟩
 ·exact h.elim
theorem fn_letter : FnOk Tryz.prog 168 Tryz.f168 (bodyOf Tryz.f168) := ⟨by kernel_rfl, by kernel_rfl, by kernel_rfl⟩
noncomputable def ff_letter : Fun := ⟨Tryz.f168.ntmps, 0, Tryz.f168.results.toList, fun _ => none, fun _ => false, fun _ => []⟩
theorem nf_letter (A : KA Kd) (k : List PV -> Heap Kd -> Prop) (b : Int) : evT B ff_letter A k 400 false [.code (bodyOf Tryz.f168)] (startEnv 9 [.int .u8 b]) [] = (bif decide (b >= 65) then k [.bool (decide (b <= 90))] [] else k [.bool false] []) := by kernel_rfl
theorem ok_letter : FunS B 168 letS := by
 refine funS_of (N := 9) (f := ff_letter) env0 mixed fn_letter (by kernel_rfl) (by kernel_rfl) (by kernel_rfl) letS_mono ?_
 intro A k ys hA hF
 obtain ⟨b, rfl, hk⟩ := letS_inv hF; clear hF
 refine ⟨by kernel_rfl, (hA.nf (nf_letter A k b) ?_)⟩
 unfold letZ at hk
 cases h1 : decide (b >= 65) <;> simp only [h1, Bool.true_and, Bool.false_and, cond_true, cond_false] at hk ⊢ <;> exact hk
noncomputable def N0 := base (fun _ => none) (fun g => match g with | 169 => some mayS | 168 => some letS | _ => none) (fun _ => none)
theorem env_N0 : EnvOk N0 := env_of (by
 intro g F h
 split at h
 ·cases h; exact ok_may
 ·cases h; exact ok_letter
 ·cases h) (fun g F h => (by cases h)) (fun g F h => (by cases h))
def rightS : SpecS := fun ys Φ => match ys with
 | [.str s] => Φ [.bool (rightN s)]
 | _ => False
theorem rightS_mono : MonoS rightS := by
 intro ys Φ Ψ h hF
 unfold rightS at hF ⊢
 split at hF
 ·exact h _ hF
 ·exact hF.elim
theorem rightS_inv {ys : List PV} {Φ : List PV -> Prop} (h : rightS ys Φ) : ∃ (s : ByteArray), ys = [.str s] /\ Φ [.bool (rightN s)] := by
 unfold rightS at h
 split at h
 ·exact ⟨_, rfl, h⟩
 ·exact h.elim
theorem fn_right : FnOk Tryz.prog 148 Tryz.f148 (bodyOf Tryz.f148) := ⟨by kernel_rfl, by kernel_rfl, by kernel_rfl⟩
noncomputable def ff_right : Fun := ⟨Tryz.f148.ntmps, 0, Tryz.f148.results.toList, fun i => match i with | 4 => some [0, 13, 14] | _ => none, fun _ => false, fun _ => []⟩
theorem nf_right_a (A : KA Kd) (k : List PV -> Heap Kd -> Prop) (s : ByteArray) : evT N0 ff_right A k 400 false [.code (bodyOf Tryz.f148)] (startEnv 24 [.str s]) [] = (bif decide ((↑s.size : Int) < 1) then k [.bool false] []
else bif decide ((↑s.size : Int) > (16 : Int)) then k [PV.bool false] [] else A (td Tryz.f148 (4 : Nat)) (envAt (24 : Nat) [((0 : Nat), PV.str s), ((13 : Nat), PV.int IntKind.i64 (↑s.size : Int)), ((14 : Nat), PV.int IntKind.i64 (0 : Int))]) []) := by kernel_rfl
theorem nf_right_b (A : KA Kd) (k : List PV -> Heap Kd -> Prop) (s : ByteArray) (i : Int) : evT N0 ff_right A k 400 true (td Tryz.f148 4) (envAt 24 [(0, .str s), (13, .int .i64 s.size), (14, .int .i64 i)]) [] = (bif decide (i < (↑s.size : Int)) then (0 <= i /\ i < (↑s.size : Int)) /\ ∀ (b : UInt8), s[i.toNat]? = some b -> bif !mayZ (↑b.toNat : Int) i then k [.bool false] [] else A (td Tryz.f148 4) (envAt 24 [(0, .str s), (13, .int .i64 (↑s.size : Int)), (14, .int .i64 (IntKind.i64.wrap (i + 1)))]) []
else k [PV.bool true] []) := by kernel_rfl
theorem ok_right : FunS B 148 rightS := by
 refine funS_of (N := 24) (f := ff_right) env_N0 mixed fn_right (by kernel_rfl) (by kernel_rfl) (by kernel_rfl) rightS_mono ?_
 intro A k ys hA hF
 obtain ⟨s, rfl, hk⟩ := rightS_inv hF; clear hF
 refine ⟨by kernel_rfl, (hA.nf (nf_right_a A k s) ?_)⟩
 unfold rightN at hk
 cases h1 : decide ((s.size : Int) < 1) with
 | true =>
  have : decide (1 <= (s.size : Int)) = false := by simp at h1 ⊢; omega
  rw [this] at hk; exact hk
 | false =>
  have e1 : decide (1 <= (s.size : Int)) = true := by simp at h1 ⊢; omega
  cases h2 : decide ((s.size : Int) > 16) with
  | true =>
   have : decide ((s.size : Int) <= 16) = false := by simp at h2 ⊢; omega
   rw [e1, this] at hk; exact hk
  | false =>
   have e2 : decide ((s.size : Int) <= 16) = true := by simp at h2 ⊢; omega
   rw [e1, e2, Bool.true_and, Bool.true_and] at hk
   rw [decide_eq_false_iff_not] at h2
   have hl := blen s
   refine down_loop s.data.toList (fun i => k [.bool (rightFrom (s.data.toList.drop i) i)] [] -> A (td Tryz.f148 4) (envAt 24 [(0, .str s), (13, .int .i64 s.size), (14, .int .i64 (i : Int))]) []) ?_ ?_ 0 (Nat.zero_le _) hk
   ·intro hk
    refine (hA.nf (nf_right_b A k s _) ?_)
    rw [ilt_false (by omega)]
    rw [List.drop_length] at hk; exact hk
   ·intro i y hy ih hk
    refine (hA.nf (nf_right_b A k s _) ?_)
    have hlt := lt_of_get hy
    rw [ilt_true (by omega)]
    refine sget (by omega) fun b hb => ?_
    rw [bget, hy] at hb
    cases hb
    rw [drop_cons' hy, rightFrom] at hk
    cases hm : mayZ (y.toNat : Int) (i : Int) with
    | false => rw [hm] at hk; exact hk
    | true => rw [hm] at hk; rw [wrap_succ (by omega)]; exact ih hk
theorem fn_rright : FnOk Tryz.prog 143 Tryz.f143 (bodyOf Tryz.f143) := ⟨by kernel_rfl, by kernel_rfl, by kernel_rfl⟩
noncomputable def ff_rright : Fun := ⟨Tryz.f143.ntmps, 0, Tryz.f143.results.toList, fun i => match i with | 4 => some [0, 3] | _ => none, fun _ => false, fun _ => []⟩
theorem nf_rright_a (A : KA Kd) (k : List PV -> Heap Kd -> Prop) (s : ByteArray) : evT N0 ff_rright A k 400 false [.code (bodyOf Tryz.f143)] (startEnv 46 [.str s]) [] = (bif s.toList == (ByteArray.mk #[]).toList then k [.bool false] []
else bif decide ((↑s.size : Int) > (16 : Int)) then k [PV.bool false] [] else ((0 : Int) <= (0 : Int) /\ (0 : Int) < (↑s.size : Int)) /\ ∀ (b : UInt8), s[Int.toNat (0 : Int)]? = some b -> bif !letZ (↑b.toNat : Int) then k [PV.bool false] [] else A (td Tryz.f143 (4 : Nat)) (envAt (46 : Nat) [((0 : Nat), PV.str s), ((3 : Nat), PV.int IntKind.i64 (0 : Int))]) []) := by kernel_rfl
theorem nf_rright_b (A : KA Kd) (k : List PV -> Heap Kd -> Prop) (s : ByteArray) (i : Int) : evT N0 ff_rright A k 400 true (td Tryz.f143 4) (envAt 46 [(0, .str s), (3, .int .i64 i)]) [] = (bif decide (i < (↑s.size : Int)) then (0 <= i /\ i < (↑s.size : Int)) /\ ∀ (b : UInt8), s[i.toNat]? = some b -> bif !letZ (↑b.toNat : Int) then (0 <= i /\ i < (↑s.size : Int)) /\ ∀ (b : UInt8), s[i.toNat]? = some b -> bif (↑b.toNat : Int) != 95 then (0 <= i /\ i < (↑s.size : Int)) /\ ∀ (b : UInt8), s[i.toNat]? = some b -> bif decide ((↑b.toNat : Int) < 48) then k [.bool false] [] else (0 <= i /\ i < (↑s.size : Int)) /\ ∀ (b : UInt8), s[i.toNat]? = some b -> bif decide ((↑b.toNat : Int) > 57) then k [.bool false] [] else A (td Tryz.f143 4) (envAt 46 [(0, .str s), (3, .int .i64 (IntKind.i64.wrap (i + 1)))]) [] else A (td Tryz.f143 4) (envAt 46 [(0, .str s), (3, .int .i64 (IntKind.i64.wrap (i + 1)))]) [] else A (td Tryz.f143 4) (envAt 46 [(0, .str s), (3, .int .i64 (IntKind.i64.wrap (i + 1)))]) []
else k [PV.bool true] []) := by kernel_rfl
theorem ok_rright : FunS B 143 rightS := by
 refine funS_of (N := 46) (f := ff_rright) env_N0 mixed fn_rright (by kernel_rfl) (by kernel_rfl) (by kernel_rfl) rightS_mono ?_
 intro A k ys hA hF
 obtain ⟨s, rfl, hk⟩ := rightS_inv hF; clear hF
 refine ⟨by kernel_rfl, (hA.nf (nf_rright_a A k s) ?_)⟩
 rw [rightN_ref] at hk
 cases h1 : s.toList == ByteArray.toList ⟨#[]⟩ with
 | true => rw [h1] at hk; exact hk
 | false =>
  rw [h1, Bool.not_false, Bool.true_and] at hk
  cases h2 : decide ((s.size : Int) > 16) with
  | true =>
   have : decide ((s.size : Int) <= 16) = false := by simp at h2 ⊢; omega
   rw [this] at hk; exact hk
  | false =>
   have e2 : decide ((s.size : Int) <= 16) = true := by simp at h2 ⊢; omega
   rw [e2, Bool.true_and] at hk
   rw [decide_eq_false_iff_not] at h2
   have hl := blen s
   have hpos : 0 < s.size := by
    rcases Nat.eq_zero_or_pos s.size with h | h
    ·exfalso
     have : s.data.toList = [] := List.eq_nil_of_length_eq_zero (by omega)
     rw [ByteArray.toList_eq, ByteArray.toList_eq, this] at h1
     cases h1
    ·exact h
   refine sget (i := 0) hpos fun b hb => ?_
   rw [byteAt_of hb] at hk
   cases hm : letZ (b.toNat : Int) with
   | false => rw [hm] at hk; exact hk
   | true =>
    rw [hm, Bool.true_and] at hk
    refine down_loop s.data.toList (fun i => k [.bool (allR (s.data.toList.drop i))] [] -> A (td Tryz.f143 4) (envAt 46 [(0, .str s), (3, .int .i64 (i : Int))]) []) ?_ ?_ 0 (Nat.zero_le _) hk
    ·intro hk
     refine (hA.nf (nf_rright_b A k s _) ?_)
     rw [ilt_false (by omega)]
     rw [List.drop_length] at hk; exact hk
    ·intro i y hy ih hk
     refine (hA.nf (nf_rright_b A k s _) ?_)
     have hlt := lt_of_get hy
     have hlt2 : i < s.size := by omega
     have hb : s[i]? = some y := by rw [bget]; exact hy
     have sg : ∀ {p : UInt8 -> Prop}, p y -> (0 <= (i : Int) /\ (i : Int) < (s.size : Int)) /\ ∀ z, s[(i : Int).toNat]? = some z -> p z := fun {p} hp => sget hlt2 fun z hz => by rw [hb] at hz; cases hz; exact hp
     rw [ilt_true hlt2]
     refine sg ?_
     rw [drop_cons' hy, allR] at hk
     rw [wrap_succ (by omega)]
     cases c1 : letZ (y.toNat : Int) with
     | true => rw [c1] at hk; exact ih hk
     | false =>
      rw [c1, Bool.false_or] at hk
      refine sg ?_
      unfold digZ at hk
      cases c2 : (y.toNat : Int) == 95 with
      | true =>
       have : ((y.toNat : Int) != 95) = false := by simp only [bne, c2]; rfl
       rw [this]
       rw [c2] at hk; exact ih hk
      | false =>
       have : ((y.toNat : Int) != 95) = true := by simp only [bne, c2]; rfl
       rw [this]
       rw [c2, Bool.false_or] at hk
       refine sg ?_
       cases c3 : decide ((y.toNat : Int) < 48) with
       | true =>
        have : decide ((y.toNat : Int) >= 48) = false := by simp at c3 ⊢; omega
        rw [this] at hk; exact hk
       | false =>
        have e3 : decide ((y.toNat : Int) >= 48) = true := by simp at c3 ⊢; omega
        rw [e3, Bool.true_and] at hk
        refine sg ?_
        cases c4 : decide ((y.toNat : Int) > 57) with
        | true =>
         have : decide ((y.toNat : Int) <= 57) = false := by simp at c4 ⊢; omega
         rw [this] at hk; exact hk
        | false =>
         have e4 : decide ((y.toNat : Int) <= 57) = true := by simp at c4 ⊢; omega
         rw [e4] at hk; exact ih hk
end Go.Ab.T
