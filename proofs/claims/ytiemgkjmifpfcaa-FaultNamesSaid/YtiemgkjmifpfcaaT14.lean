import Derived.Test.YtiemgkjmifpfcaaT13
set_option linter.unusedSimpArgs false
namespace Go.Ab.T
open Go Go.Ab Go.Proofs
set_option maxRecDepth 100000
set_option linter.unusedVariables false
/-! ### slices.Index of strings -/
theorem fn66 : FnOk Try.prog 66 Try.f66 (bodyOf Try.f66) := ⟨by kernel_rfl, by kernel_rfl, by kernel_rfl⟩
noncomputable def ff66 := FF Try.f66 0 fun i => match i with | 2 => some [0, 1, 7, 8] | _ => none

def idxFrom (s : ByteArray) : List ByteArray → Int → Int
  | [], _ => -1
  | x :: r, i => bif s.toList == x.toList then i else idxFrom s r (i + 1)

def env66 (l : List ByteArray) (s : ByteArray) (i : Int) : List PV := [PV.sl ByteArray PV.str l, PV.str s, PV.junk, PV.junk, PV.junk, PV.junk, PV.junk,
    PV.int IntKind.i64 l.length, PV.int IntKind.i64 i, PV.junk, PV.junk, PV.junk, PV.junk, PV.junk, PV.junk, PV.junk, PV.junk, PV.junk, PV.junk]

theorem nf66a (A : KA Kd) (k : List PV → Heap Kd → Prop) (l : List ByteArray) (s : ByteArray) : evT B ff66 A k 100 false [.code (bodyOf Try.f66)] (startEnv 19 [.sl ByteArray PV.str l, .str s]) [] =
    A (td Try.f66 2) (env66 l s 0) [] := by kernel_rfl
theorem nf66b (A : KA Kd) (k : List PV → Heap Kd → Prop) (l : List ByteArray) (s : ByteArray) (i : Int) : evT B ff66 A k 100 true (td Try.f66 2) (env66 l s i) [] =
    (bif decide (i < ↑l.length) then (0 ≤ i ∧ i < ↑l.length) ∧ ∀ (y : ByteArray), l[i.toNat]? = some y →
        bif s.toList == y.toList then k [PV.int IntKind.i64 i] []
        else A (td Try.f66 2) (env66 l s (IntKind.i64.wrap (i + 1))) []
    else k [PV.int IntKind.i64 (-1)] []) := by kernel_rfl

theorem wrap_id (n : Int) (h0 : -9223372036854775808 ≤ n) (h1 : n ≤ 9223372036854775807) : IntKind.i64.wrap n = n := by
  unfold IntKind.wrap
  simp [IntKind.bits, IntKind.signed]
  omega

theorem loop66 {X : Nat → Prop} {η0 : Eta} {w0 : World} (l : List ByteArray) (s : ByteArray) (hl : l.length < 4611686018427387904) (k : List PV → Heap Kd → Prop) :
    ∀ (n i : Nat), l.length - i ≤ n → i ≤ l.length → k [.int .i64 (idxFrom s (l.drop i) i)] [] → AT B X 19 Try.f66 [] η0 w0 k (td Try.f66 2) (env66 l s i) []
  | n, i, hn, hi, hk => by
    refine evT_ok (f := ff66) env0 mixed (by kernel_rfl) rfl 100 true _ _ _ ?_
    rw [nf66b]
    by_cases hlt : i < l.length
    · have hd : decide ((i : Int) < l.length) = true := by simp; omega
      rw [hd]
      refine ⟨⟨by omega, by omega⟩, fun y hy => ?_⟩
      have hdrop : l.drop i = y :: l.drop (i + 1) := by
        have : l[i] = y := by simpa [hlt] using hy
        rw [← this]; exact (List.drop_eq_getElem_cons hlt)
      rw [hdrop, idxFrom] at hk
      cases he : (s.toList == y.toList) with
      | true => rw [he] at hk; exact hk
      | false =>
        rw [he] at hk
        rw [wrap_id _ (by omega) (by omega)]
        match n, hn with
        | 0, hn => omega
        | n + 1, hn => exact loop66 l s hl k n (i + 1) (by omega) (by omega) hk
    · have hd : decide ((i : Int) < l.length) = false := by simp; omega
      rw [hd]
      rw [List.drop_eq_nil_of_le (by omega)] at hk
      exact hk

def indexS : SpecS := fun ys Φ => match ys with
  | [.sl _ e l, .str s] => ∃ bs : List ByteArray, bs.map PV.str = l.map e ∧ bs.length < 4611686018427387904 ∧ Φ [.int .i64 (idxFrom s bs 0)]
  | _ => False

theorem f66_ok : FunS B 66 indexS := by
  refine FunS.conv (F' := fun ys Φ => ∃ bs s, ys = [.sl ByteArray PV.str bs, .str s] ∧ bs.length < 4611686018427387904 ∧ Φ [.int .i64 (idxFrom s bs 0)]) ?_ ?_
  · refine pure_fun ?_ (fun_ok (N := 19) fn66 (by kernel_rfl) ?_)
    · rintro ys Φ Ψ h ⟨bs, s, h1, h2, h3⟩
      exact ⟨bs, s, h1, h2, h _ h3⟩
    · rintro X L0 η0 w0 k ys hL ⟨rfl, bs, s, rfl, hlen, hk⟩
      refine ⟨by simp, evT_ok (f := ff66) env0 mixed (by kernel_rfl) rfl 100 false _ _ _ ?_⟩
      rw [nf66a]
      exact loop66 bs s hlen k _ 0 (Nat.le_refl _) (by omega) (by simpa using hk)
  · intro ys Φ h
    unfold indexS at h
    split at h
    · obtain ⟨bs, h1, h2, h3⟩ := h
      exact ⟨_, .sl h1 (.same _ .nil), bs, _, rfl, h2, h3⟩
    · exact h.elim

theorem indexS_mono : MonoS indexS := by
  intro ys Φ Ψ h hF
  unfold indexS at hF ⊢
  split at hF
  · obtain ⟨bs, h1, h2, h3⟩ := hF; exact ⟨bs, h1, h2, h _ h3⟩
  · exact hF.elim
/-! ### awake -/
noncomputable def C8 := base (fun _ => none) (fun _ => none) (fun n => match n with | "Error" => some e3S | _ => none)
theorem env8 : EnvOk C8 := by
  refine env_of (fun g F h => (by cases h)) (fun g F h => (by cases h)) ?_
  intro n F h
  split at h
  · cases h; exact e3_ok
  · cases h
theorem fn62 : FnOk Try.prog 62 Try.f62 (bodyOf Try.f62) := ⟨by kernel_rfl, by kernel_rfl, by kernel_rfl⟩
theorem fn33 : FnOk Try.prog 33 Try.f33 (bodyOf Try.f33) := ⟨by kernel_rfl, by kernel_rfl, by kernel_rfl⟩
theorem fn34 : FnOk Try.prog 34 Try.f34 (bodyOf Try.f34) := ⟨by kernel_rfl, by kernel_rfl, by kernel_rfl⟩
theorem fn35 : FnOk Try.prog 35 Try.f35 (bodyOf Try.f35) := ⟨by kernel_rfl, by kernel_rfl, by kernel_rfl⟩
theorem fn6 : FnOk Try.prog 6 Try.f6 (bodyOf Try.f6) := ⟨by kernel_rfl, by kernel_rfl, by kernel_rfl⟩

theorem nf62 (A : KA Kd) (k : List PV → Heap Kd → Prop) : evT C8 (ff Try.f62) A k 100 false [.code (bodyOf Try.f62)] (startEnv Try.f62.ntmps [.err (.sec 3 (.plc 17 (.cls 12)))]) [] =
   (((3 : Int) = 3 ∧ (17 : Int) = 17 ∧ (12 : Int) = 12) ∧ k [PV.str t3] []) := by kernel_rfl
theorem f62_ok : FunS B 62 e3S := by
  refine straight env8 fn62 e3S_mono fun A k ys hF => ?_
  unfold e3S at hF
  split at hF
  · obtain ⟨⟨rfl, rfl, rfl⟩, hF⟩ := hF
    refine ⟨by kernel_rfl, ?_⟩
    show evT C8 _ _ _ _ _ _ _ _
    rw [nf62]; exact ⟨⟨rfl, rfl, rfl⟩, hF⟩
  · exact hF.elim
def new12S : SpecS := fun ys Φ => match ys with
  | [.int .i64 n] => n = 12 ∧ Φ [.err (.cls 12)]
  | _ => False
theorem name12 : nameOf 12 = t1 := by decide
theorem f65_12 : FunS B 65 new12S := by
  refine FunS.conv f65_ok ?_
  intro ys Φ h
  unfold new12S at h
  split at h
  · rename_i n
    obtain ⟨rfl, h⟩ := h
    refine ⟨_, .same _ .nil, ?_⟩
    show Φ [.err (bif (nameOf 12).toList == [] then .nil else .cls 12)]
    rw [name12, ByteArray.toList_eq]
    exact h
  · exact h.elim
noncomputable def C9 := base (fun _ => none) (fun g => match g with | 65 => some new12S | 64 => some atS | 63 => some inS | 62 => some e3S | _ => none)
theorem env9 : EnvOk C9 := by
  refine env_of ?_ (fun g F h => (by cases h)) (fun n F h => (by cases h))
  intro g F h
  split at h
  · cases h; exact f65_12
  · cases h; exact f64_ok
  · cases h; exact f63_ok
  · cases h; exact f62_ok
  · cases h
def trueS : SpecS := fun ys Φ => match ys with
  | [] => Φ [.bool true]
  | _ => False
theorem trueS_mono : MonoS trueS := by
  intro ys Φ Ψ h hF
  unfold trueS at hF ⊢
  split at hF
  · exact h _ hF
  · exact hF.elim

theorem nf33 (A : KA Kd) (k : List PV → Heap Kd → Prop) : evT C9 (ff Try.f33) A k 100 false [.code (bodyOf Try.f33)] (startEnv Try.f33.ntmps []) [] =
   ((12 : Int) = 12 ∧ ((3 : Int) = 3 ∧ (17 : Int) = 17 ∧ (12 : Int) = 12) ∧ k [.bool (t3.toList == t3.toList)] []) := by kernel_rfl
theorem f33_ok : FunS B 33 trueS := by
  refine straight env9 fn33 trueS_mono fun A k ys hF => ?_
  unfold trueS at hF
  split at hF
  · refine ⟨by kernel_rfl, ?_⟩
    show evT C9 _ _ _ _ _ _ _ _
    rw [nf33]
    refine ⟨rfl, ⟨rfl, rfl, rfl⟩, ?_⟩
    have : (t3.toList == t3.toList) = true := by simp
    rw [this]; exact hF
  · exact hF.elim

/-! ### names of texts -/
noncomputable def C10 := base (fun g => match g with | 67 => some (lift 0 namesF) | 68 => some (lift 0 namesF) | _ => none) (fun g => match g with | 66 => some indexS | _ => none)
theorem env10 : EnvOk C10 := by
  refine env_of ?_ ?_ (fun n F h => (by cases h))
  · intro g F h
    split at h
    · cases h; exact f66_ok
    · cases h
  · intro g F h
    split at h
    · cases h; exact lift_ok f67_ok
    · cases h; exact lift_ok f68_ok
    · cases h
def idx (s : ByteArray) : Int := idxFrom s nms 0
def namedS : SpecS := fun ys Φ => match ys with
  | [.str s] => Φ [.int .i64 (bif decide (idx s < 1) then 0 else idx s), .bool (!decide (idx s < 1))]
  | _ => False
theorem namedS_mono : MonoS namedS := by
  intro ys Φ Ψ h hF
  unfold namedS at hF ⊢
  split at hF
  · exact h _ hF
  · exact hF.elim
theorem nf34 (A : KA Kd) (k : List PV → Heap Kd → Prop) (s : ByteArray) : evT C10 (ff Try.f34) A k 100 false [.code (bodyOf Try.f34)] (startEnv Try.f34.ntmps [.str s]) [] =
   (∃ bs : List ByteArray, List.map PV.str bs = List.map (Kd 9).enc nms ∧ bs.length < 4611686018427387904 ∧
      bif decide (idxFrom s bs 0 < 1) then k [PV.int IntKind.i64 0, PV.bool false] []
      else k [PV.int IntKind.i64 (idxFrom s bs 0), PV.bool true] []) := by kernel_rfl
theorem f34_ok : FunS B 34 namedS := by
  refine straight env10 fn34 namedS_mono fun A k ys hF => ?_
  unfold namedS at hF
  split at hF
  · rename_i s
    refine ⟨by kernel_rfl, ?_⟩
    show evT C10 _ _ _ _ _ _ _ _
    rw [nf34]
    refine ⟨nms, rfl, by decide, ?_⟩
    unfold idx at hF
    cases h : decide (idxFrom s nms 0 < 1) <;> simpa [h] using hF
  · exact hF.elim
end Go.Ab.T
