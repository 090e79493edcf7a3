import Derived.Test.YtiemgkjmifpfcaaT14
set_option linter.unusedSimpArgs false
namespace Go.Ab.T
open Go Go.Ab Go.Proofs
set_option maxRecDepth 100000
set_option linter.unusedVariables false
noncomputable def ff35 := FF Try.f35 0 fun i => match i with | 2 => some [0, 3] | _ => none
def env35 (s : ByteArray) (i : Int) : List PV := [PV.str s, PV.junk, PV.junk, PV.int IntKind.i64 i, PV.junk, PV.junk, PV.junk, PV.junk, PV.junk, PV.junk, PV.junk, PV.junk, PV.junk, PV.junk, PV.junk]
def refFrom (s : ByteArray) : List ByteArray → Int → Int
  | [], _ => 0
  | x :: r, i => bif x.toList == s.toList then i else refFrom s r (i + 1)
def refIdx (s : ByteArray) : Int := refFrom s (nms.drop 1) 1
def rnamedS : SpecS := fun ys Φ => match ys with
  | [.str s] => Φ [.int .i64 (refIdx s)]
  | _ => False
theorem rnamedS_mono : MonoS rnamedS := by
  intro ys Φ Ψ h hF
  unfold rnamedS at hF ⊢
  split at hF
  · exact h _ hF
  · exact hF.elim
theorem nf35a (A : KA Kd) (k : List PV → Heap Kd → Prop) (s : ByteArray) : evT C10 ff35 A k 100 false [.code (bodyOf Try.f35)] (startEnv 15 [.str s]) [] = A (td Try.f35 2) (env35 s 1) [] := by kernel_rfl
theorem nf35b (A : KA Kd) (k : List PV → Heap Kd → Prop) (s : ByteArray) (i : Int) : evT C10 ff35 A k 100 true (td Try.f35 2) (env35 s i) [] =
    (bif decide (i ≤ 18) then (0 ≤ i ∧ i < ↑nms.length) ∧ ∀ (y : ByteArray), nms[i.toNat]? = some y →
        bif y.toList == s.toList then k [PV.int IntKind.i64 i] [] else A (td Try.f35 2) (env35 s (IntKind.i64.wrap (i + 1))) []
    else k [PV.int IntKind.i64 0] []) := by kernel_rfl
theorem nms_len : nms.length = 19 := by decide
theorem loop35 {X : Nat → Prop} {η0 : Eta} {w0 : World} (s : ByteArray) (k : List PV → Heap Kd → Prop) :
    ∀ (n i : Nat), 19 - i ≤ n → i ≤ 19 → k [.int .i64 (refFrom s (nms.drop i) i)] [] → AT C10 X 15 Try.f35 [] η0 w0 k (td Try.f35 2) (env35 s i) []
  | n, i, hn, hi, hk => by
    refine evT_ok (f := ff35) env10 mixed rfl rfl 100 true _ _ _ ?_
    rw [nf35b]
    have hl := nms_len
    by_cases hlt : i < 19
    · have hd : decide ((i : Int) ≤ 18) = true := by simp; omega
      rw [hd]
      refine ⟨⟨by omega, by omega⟩, fun y hy => ?_⟩
      have hlt' : i < nms.length := by omega
      have hdrop : nms.drop i = y :: nms.drop (i + 1) := by
        have : nms[i] = y := by simpa [hlt'] using hy
        rw [← this]; exact (List.drop_eq_getElem_cons hlt')
      rw [hdrop, refFrom] at hk
      cases he : (y.toList == s.toList) with
      | true => rw [he] at hk; exact hk
      | false =>
        rw [he] at hk
        rw [wrap_id _ (by omega) (by omega)]
        match n, hn with
        | 0, hn => omega
        | n + 1, hn => exact loop35 s k n (i + 1) (by omega) (by omega) hk
    · have hd : decide ((i : Int) ≤ 18) = false := by simp; omega
      rw [hd]
      rw [List.drop_eq_nil_of_le (by omega)] at hk
      exact hk
theorem f35_ok : FunS B 35 rnamedS := by
  refine pure_fun (C := C10) rnamedS_mono (fun_ok (N := 15) fn35 (by kernel_rfl) ?_)
  rintro X L0 η0 w0 k ys hL ⟨rfl, hF⟩
  unfold rnamedS at hF
  split at hF
  · rename_i s
    refine ⟨by simp, evT_ok (f := ff35) env10 mixed rfl rfl 100 false _ _ _ ?_⟩
    rw [nf35a]
    exact loop35 s k _ 1 (Nat.le_refl _) (by omega) hF
  · exact hF.elim

/-! ### the law -/
noncomputable def C11 := base (fun _ => none) (fun g => match g with | 33 => some trueS | 34 => some namedS | 35 => some rnamedS | 36 => some nameS | 37 => some nameS | _ => none)
theorem env11 : EnvOk C11 := by
  refine env_of ?_ (fun g F h => (by cases h)) (fun n F h => (by cases h))
  intro g F h
  split at h
  · cases h; exact f33_ok
  · cases h; exact f34_ok
  · cases h; exact f35_ok
  · cases h; exact f36_ok
  · cases h; exact f37_ok
  · cases h
theorem nf6 (A : KA Kd) (k : List PV → Heap Kd → Prop) (n : Int) (s : ByteArray) : evT C11 (ff Try.f6) A k 100 false [.code (bodyOf Try.f6)] (startEnv Try.f6.ntmps [.int .i64 n, .str s]) [] =
    (bif decide ((s.size : Int) > 100) then k [PV.bool true] [] else
      bif (nameOf n).toList == (nameOf n).toList then
        bif (bif decide (idx s < 1) then 0 else idx s) == refIdx s then
          bif (!decide (idx s < 1)) == decide (refIdx s > 0) then k [PV.bool true] [] else k [PV.bool false] []
        else k [PV.bool false] []
      else k [PV.bool false] []) := by kernel_rfl
theorem idx_ref (s : ByteArray) : ∀ (l : List ByteArray) (i : Int), 1 ≤ i → (bif decide (idxFrom s l i < 1) then 0 else idxFrom s l i) = refFrom s l i
  | [], i, h => rfl
  | x :: r, i, h => by
    rw [idxFrom, refFrom, show (x.toList == s.toList) = (s.toList == x.toList) from BEq.comm]
    cases hx : (s.toList == x.toList) with
    | true =>
      have : decide (i < 1) = false := decide_eq_false (by omega)
      simp only [cond_true, this, cond_false]
    | false => exact idx_ref s r (i + 1) (by omega)
theorem ref_pos (s : ByteArray) : ∀ (l : List ByteArray) (i : Int), 1 ≤ i → 0 ≤ refFrom s l i
  | [], i, h => by simp [refFrom]
  | x :: r, i, h => by
    simp only [refFrom]
    cases hx : (x.toList == s.toList) with
    | true => simp; omega
    | false => simpa using ref_pos s r (i + 1) (by omega)
theorem ref_none (s : ByteArray) (hs : s.toList = []) : ∀ (l : List ByteArray) (i : Int), (∀ x, x ∈ l → x.toList ≠ []) → refFrom s l i = 0
  | [], i, h => rfl
  | x :: r, i, h => by
    simp only [refFrom]
    have : (x.toList == s.toList) = false := by
      rw [hs]
      have := h x List.mem_cons_self
      simpa using this
    rw [this]
    exact ref_none s hs r (i + 1) (fun y hy => h y (List.mem_cons_of_mem _ hy))
theorem nms_cons : nms = ⟨#[]⟩ :: nms.drop 1 := rfl
theorem nms_full : ∀ x, x ∈ nms.drop 1 → x.toList ≠ [] := by
  intro x hx
  rw [ByteArray.toList_eq]
  have : (nms.drop 1).all (fun x => !x.data.toList.isEmpty) = true := by decide
  have := List.all_eq_true.1 this x hx
  simpa using this
theorem idx_eq (s : ByteArray) : (bif decide (idx s < 1) then 0 else idx s) = refIdx s ∧ (!decide (idx s < 1)) = decide (refIdx s > 0) := by
  have h0 : ByteArray.toList ⟨#[]⟩ = [] := by rw [ByteArray.toList_eq]
  have e1 : idx s = bif s.toList == [] then 0 else idxFrom s (nms.drop 1) 1 := by
    have : idx s = idxFrom s (⟨#[]⟩ :: nms.drop 1) 0 := rfl
    rw [this, idxFrom, h0]; rfl
  have e2 : refIdx s = refFrom s (nms.drop 1) 1 := rfl
  have h1 := idx_ref s (nms.drop 1) 1 (by omega)
  have h2 := ref_pos s (nms.drop 1) 1 (by omega)
  have h3 := fun hs => ref_none s hs (nms.drop 1) 1 nms_full
  rw [e2]
  generalize refFrom s (nms.drop 1) 1 = q at h1 h2 h3 ⊢
  generalize idxFrom s (nms.drop 1) 1 = p at h1 e1
  cases hs : (s.toList == []) with
  | true =>
    have hs' : s.toList = [] := eq_of_beq hs
    rw [hs] at e1
    rw [e1, h3 hs']
    exact ⟨rfl, rfl⟩
  | false =>
    rw [hs] at e1
    rw [e1]
    refine ⟨h1, ?_⟩
    show (!decide (p < 1)) = decide (q > 0)
    rw [← h1] at h2 ⊢
    by_cases hp : p < 1
    · rw [decide_eq_true hp]; rfl
    · rw [decide_eq_false hp]
      exact (decide_eq_true (show p > 0 by omega)).symm
def lawS : SpecS := fun ys Φ => match ys with
  | [.int .i64 _, .str _] => Φ [.bool true]
  | _ => False
theorem lawS_mono : MonoS lawS := by
  intro ys Φ Ψ h hF
  unfold lawS at hF ⊢
  split at hF
  · exact h _ hF
  · exact hF.elim
theorem f6_ok : FunS B 6 lawS := by
  refine straight env11 fn6 lawS_mono fun A k ys hF => ?_
  unfold lawS at hF
  split at hF
  · rename_i n s
    refine ⟨by kernel_rfl, ?_⟩
    show evT C11 _ _ _ _ _ _ _ _
    rw [nf6]
    obtain ⟨h1, h2⟩ := idx_eq s
    have h3 : ((nameOf n).toList == (nameOf n).toList) = true := by simp
    have h4 : ((bif decide (idx s < 1) then 0 else idx s) == refIdx s) = true := by rw [h1]; simp
    have h5 : ((!decide (idx s < 1)) == decide (refIdx s > 0)) = true := by rw [h2]; simp
    rw [h3, h4, h5]
    cases decide ((s.size : Int) > 100) <;> exact hF
  · exact hF.elim
end Go.Ab.T
