import Derived.Test.YtiemgkjmifpfcaaT11
set_option linter.unusedVariables false
set_option linter.unusedSimpArgs false
namespace Go.Ab.T
open Go Go.Ab Go.Proofs
set_option maxRecDepth 100000
def itoa2 (n : Int) : ByteArray := bif n == 17 then ⟨#[49, 55]⟩ else ⟨#[51]⟩
def itoaS : SpecS := fun ys Φ => match ys with
  | [.int .i64 n] => (n = 17 ∨ n = 3) ∧ Φ [.str (itoa2 n)]
  | _ => False
def fmtS : SpecS := fun ys Φ => match ys with
  | [.int .i64 n, .int .i64 b] => ((n = 17 ∨ n = 3) ∧ b = 10) ∧ Φ [.str (itoa2 n)]
  | _ => False
def t1 : ByteArray := ⟨#[111, 118, 101, 114, 108, 97, 112]⟩
def t2 : ByteArray := ⟨#[97, 116, 32, 49, 55, 58, 32, 111, 118, 101, 114, 108, 97, 112]⟩
def t3 : ByteArray := ⟨#[115, 101, 99, 116, 105, 111, 110, 32, 51, 58, 32, 97, 116, 32, 49, 55, 58, 32, 111, 118, 101, 114, 108, 97, 112]⟩
def e1S : SpecS := fun ys Φ => match ys with
  | [.err (.cls k)] => k = 12 ∧ Φ [.str t1]
  | _ => False
def e2S : SpecS := fun ys Φ => match ys with
  | [.err (.plc n (.cls k))] => (n = 17 ∧ k = 12) ∧ Φ [.str t2]
  | _ => False
noncomputable def C3 := base (fun _ => none) (fun g => match g with | 101 => some itoaS | _ => none)
noncomputable def C4 := base (fun _ => none) (fun g => match g with | 100 => some fmtS | _ => none)
noncomputable def C5 := base (fun _ => none) (fun g => match g with | 99 => some itoaS | _ => none)
noncomputable def C6 := base (fun _ => none) (fun g => match g with | 98 => some itoaS | _ => none) (fun n => match n with | "Error" => some e1S | _ => none)
noncomputable def C7 := base (fun _ => none) (fun g => match g with | 98 => some itoaS | _ => none) (fun n => match n with | "Error" => some e2S | _ => none)
theorem nf101a (A : KA Kd) (k : List PV → Heap Kd → Prop) : evT B (ff Try.f101) A k 100 false [.code (bodyOf Try.f101)] (startEnv Try.f101.ntmps [.int .i64 17]) [] =
   (((0 : Int) ≤ 34 ∧ (34 : Int) ≤ 36 ∧ (36 : Int) ≤ 200) ∧ k [.str (itoa2 17)] []) := by kernel_rfl
theorem nf101b (A : KA Kd) (k : List PV → Heap Kd → Prop) : evT B (ff Try.f101) A k 100 false [.code (bodyOf Try.f101)] (startEnv Try.f101.ntmps [.int .i64 3]) [] =
   (((0 : Int) ≤ 3 ∧ (3 : Int) ≤ 4 ∧ (4 : Int) ≤ 36) ∧ k [.str (itoa2 3)] []) := by kernel_rfl
theorem itoaS_mono : MonoS itoaS := by
  intro ys Φ Ψ h hF
  unfold itoaS at hF ⊢
  split at hF
  · exact ⟨hF.1, h _ hF.2⟩
  · exact hF.elim
theorem fmtS_mono : MonoS fmtS := by
  intro ys Φ Ψ h hF
  unfold fmtS at hF ⊢
  split at hF
  · exact ⟨hF.1, h _ hF.2⟩
  · exact hF.elim
theorem e1S_mono : MonoS e1S := by
  intro ys Φ Ψ h hF
  unfold e1S at hF ⊢
  split at hF
  · exact ⟨hF.1, h _ hF.2⟩
  · exact hF.elim
theorem e2S_mono : MonoS e2S := by
  intro ys Φ Ψ h hF
  unfold e2S at hF ⊢
  split at hF
  · exact ⟨hF.1, h _ hF.2⟩
  · exact hF.elim
theorem fn101 : FnOk Try.prog 101 Try.f101 (bodyOf Try.f101) := ⟨by kernel_rfl, by kernel_rfl, by kernel_rfl⟩
theorem fn100 : FnOk Try.prog 100 Try.f100 (bodyOf Try.f100) := ⟨by kernel_rfl, by kernel_rfl, by kernel_rfl⟩
theorem fn99 : FnOk Try.prog 99 Try.f99 (bodyOf Try.f99) := ⟨by kernel_rfl, by kernel_rfl, by kernel_rfl⟩
theorem fn98 : FnOk Try.prog 98 Try.f98 (bodyOf Try.f98) := ⟨by kernel_rfl, by kernel_rfl, by kernel_rfl⟩
theorem fn112 : FnOk Try.prog 112 Try.f112 (bodyOf Try.f112) := ⟨by kernel_rfl, by kernel_rfl, by kernel_rfl⟩
theorem fn97 : FnOk Try.prog 97 Try.f97 (bodyOf Try.f97) := ⟨by kernel_rfl, by kernel_rfl, by kernel_rfl⟩

theorem f101_ok : FunS B 101 itoaS := by
  refine straight env0 fn101 itoaS_mono fun A k ys hF => ?_
  unfold itoaS at hF
  split at hF
  · rename_i n
    obtain ⟨rfl | rfl, hF⟩ := hF
    · refine ⟨by kernel_rfl, ?_⟩
      show evT B _ _ _ _ _ _ _ _
      rw [nf101a]; exact ⟨by decide, hF⟩
    · refine ⟨by kernel_rfl, ?_⟩
      show evT B _ _ _ _ _ _ _ _
      rw [nf101b]; exact ⟨by decide, hF⟩
  · exact hF.elim
theorem env3 : EnvOk C3 := by
  refine env_of ?_ (fun g F h => (by cases h)) (fun n F h => (by cases h))
  intro g F h
  split at h
  · cases h; exact f101_ok
  · cases h
theorem nf100 (A : KA Kd) (k : List PV → Heap Kd → Prop) : evT C3 (ff Try.f100) A k 100 false [.code (bodyOf Try.f100)] (startEnv Try.f100.ntmps [.int .i64 17, .int .i64 10]) [] =
   (((17 : Int) = 17 ∨ (17 : Int) = 3) ∧ k [.str (itoa2 17)] []) := by kernel_rfl
theorem nf100b (A : KA Kd) (k : List PV → Heap Kd → Prop) : evT C3 (ff Try.f100) A k 100 false [.code (bodyOf Try.f100)] (startEnv Try.f100.ntmps [.int .i64 3, .int .i64 10]) [] =
   (((3 : Int) = 17 ∨ (3 : Int) = 3) ∧ k [.str (itoa2 3)] []) := by kernel_rfl
theorem f100_ok : FunS B 100 fmtS := by
  refine straight env3 fn100 fmtS_mono fun A k ys hF => ?_
  unfold fmtS at hF
  split at hF
  · rename_i n b
    obtain ⟨⟨rfl | rfl, rfl⟩, hF⟩ := hF
    · refine ⟨by kernel_rfl, ?_⟩
      show evT C3 _ _ _ _ _ _ _ _
      rw [nf100]; exact ⟨by decide, hF⟩
    · refine ⟨by kernel_rfl, ?_⟩
      show evT C3 _ _ _ _ _ _ _ _
      rw [nf100b]; exact ⟨by decide, hF⟩
  · exact hF.elim
theorem env4 : EnvOk C4 := by
  refine env_of ?_ (fun g F h => (by cases h)) (fun n F h => (by cases h))
  intro g F h
  split at h
  · cases h; exact f100_ok
  · cases h
theorem nf99 (A : KA Kd) (k : List PV → Heap Kd → Prop) (n : Int) : evT C4 (ff Try.f99) A k 100 false [.code (bodyOf Try.f99)] (startEnv Try.f99.ntmps [.int .i64 n]) [] =
   (((n = 17 ∨ n = 3) ∧ (10 : Int) = 10) ∧ k [.str (itoa2 n)] []) := by kernel_rfl
theorem f99_ok : FunS B 99 itoaS := by
  refine straight env4 fn99 itoaS_mono fun A k ys hF => ?_
  unfold itoaS at hF
  split at hF
  · rename_i n
    refine ⟨by kernel_rfl, ?_⟩
    show evT C4 _ _ _ _ _ _ _ _
    rw [nf99]; exact ⟨⟨hF.1, rfl⟩, hF.2⟩
  · exact hF.elim
theorem env5 : EnvOk C5 := by
  refine env_of ?_ (fun g F h => (by cases h)) (fun n F h => (by cases h))
  intro g F h
  split at h
  · cases h; exact f99_ok
  · cases h
theorem nf98 (A : KA Kd) (k : List PV → Heap Kd → Prop) (n : Int) : evT C5 (ff Try.f98) A k 100 false [.code (bodyOf Try.f98)] (startEnv Try.f98.ntmps [.int .i64 n]) [] =
   ((n = 17 ∨ n = 3) ∧ k [.str (itoa2 n)] []) := by kernel_rfl
theorem f98_ok : FunS B 98 itoaS := by
  refine straight env5 fn98 itoaS_mono fun A k ys hF => ?_
  unfold itoaS at hF
  split at hF
  · rename_i n
    refine ⟨by kernel_rfl, ?_⟩
    show evT C5 _ _ _ _ _ _ _ _
    rw [nf98]; exact hF
  · exact hF.elim

/-! ### what an error says -/
theorem m123 : MethOk Try.prog 123 "Error" 113 := by intro v w; kernel_rfl
theorem m118 : MethOk Try.prog 118 "Error" 97 := by intro v w; kernel_rfl
theorem m121 : MethOk Try.prog 121 "Error" 112 := by intro v w; kernel_rfl
def noS : SpecS := fun _ _ => False
theorem no_ok (g : FuncId) : FunS B g noS := fun _ _ _ h => h.elim
theorem e1_ok : FunI B "Error" e1S := by
  refine funI_of (C := B) m123 m118 m121 f113_ok (no_ok _) (no_ok _) ?_
  intro e ys Φ h
  unfold e1S at h
  split at h
  · rename_i k heq
    cases heq
    obtain ⟨rfl, h⟩ := h
    exact h
  · exact h.elim
theorem env6 : EnvOk C6 := by
  refine env_of ?_ (fun g F h => (by cases h)) ?_
  · intro g F h
    split at h
    · cases h; exact f98_ok
    · cases h
  · intro n F h
    split at h
    · cases h; exact e1_ok
    · cases h
def p2S : SpecS := fun ys Φ => match ys with
  | [.el (.agg [.int .i64 n, .err (.cls k)]) 0] => (n = 17 ∧ k = 12) ∧ Φ [.str t2]
  | _ => False
def p3S : SpecS := fun ys Φ => match ys with
  | [.el (.agg [.int .i64 n, .err (.plc m (.cls k))]) 0] => (n = 3 ∧ m = 17 ∧ k = 12) ∧ Φ [.str t3]
  | _ => False
theorem p2S_mono : MonoS p2S := by
  intro ys Φ Ψ h hF
  unfold p2S at hF ⊢
  split at hF
  · exact ⟨hF.1, h _ hF.2⟩
  · exact hF.elim
theorem p3S_mono : MonoS p3S := by
  intro ys Φ Ψ h hF
  unfold p3S at hF ⊢
  split at hF
  · exact ⟨hF.1, h _ hF.2⟩
  · exact hF.elim

theorem nf112 (A : KA Kd) (k : List PV → Heap Kd → Prop) : evT C6 (ff Try.f112) A k 100 false [.code (bodyOf Try.f112)] (startEnv Try.f112.ntmps [.el (.agg [.int .i64 17, .err (.cls 12)]) 0]) [] =
   (((17 : Int) = 17 ∨ (17 : Int) = 3) ∧ 5 ≤ 9223372036854775807 ∧ 7 ≤ 9223372036854775807 ∧ (12 : Int) = 12 ∧ 14 ≤ 9223372036854775807 ∧ k [PV.str t2] []) := by kernel_rfl
theorem f112_ok : FunS B 112 p2S := by
  refine straight env6 fn112 p2S_mono fun A k ys hF => ?_
  unfold p2S at hF
  split at hF
  · obtain ⟨⟨rfl, rfl⟩, hF⟩ := hF
    refine ⟨by kernel_rfl, ?_⟩
    show evT C6 _ _ _ _ _ _ _ _
    rw [nf112]; exact ⟨by decide, by decide, by decide, rfl, by decide, hF⟩
  · exact hF.elim
theorem e2_ok : FunI B "Error" e2S := by
  refine funI_of (C := B) m123 m118 m121 (no_ok _) (no_ok _) f112_ok ?_
  intro e ys Φ h
  unfold e2S at h
  split at h
  · rename_i heq
    cases heq
    exact h
  · exact h.elim
theorem env7 : EnvOk C7 := by
  refine env_of ?_ (fun g F h => (by cases h)) ?_
  · intro g F h
    split at h
    · cases h; exact f98_ok
    · cases h
  · intro n F h
    split at h
    · cases h; exact e2_ok
    · cases h
theorem nf97 (A : KA Kd) (k : List PV → Heap Kd → Prop) : evT C7 (ff Try.f97) A k 100 false [.code (bodyOf Try.f97)] (startEnv Try.f97.ntmps [.el (.agg [.int .i64 3, .err (.plc 17 (.cls 12))]) 0]) [] =
   (((3 : Int) = 17 ∨ (3 : Int) = 3) ∧ 9 ≤ 9223372036854775807 ∧ 11 ≤ 9223372036854775807 ∧ ((17 : Int) = 17 ∧ (12 : Int) = 12) ∧ 25 ≤ 9223372036854775807 ∧ k [PV.str t3] []) := by kernel_rfl
theorem f97_ok : FunS B 97 p3S := by
  refine straight env7 fn97 p3S_mono fun A k ys hF => ?_
  unfold p3S at hF
  split at hF
  · obtain ⟨⟨rfl, rfl, rfl⟩, hF⟩ := hF
    refine ⟨by kernel_rfl, ?_⟩
    show evT C7 _ _ _ _ _ _ _ _
    rw [nf97]; exact ⟨by decide, by decide, by decide, ⟨rfl, rfl⟩, by decide, hF⟩
  · exact hF.elim
def e3S : SpecS := fun ys Φ => match ys with
  | [.err (.sec n (.plc m (.cls k)))] => (n = 3 ∧ m = 17 ∧ k = 12) ∧ Φ [.str t3]
  | _ => False
theorem e3S_mono : MonoS e3S := by
  intro ys Φ Ψ h hF
  unfold e3S at hF ⊢
  split at hF
  · exact ⟨hF.1, h _ hF.2⟩
  · exact hF.elim

theorem e3_ok : FunI B "Error" e3S := by
  refine funI_of (C := B) m123 m118 m121 (no_ok _) f97_ok (no_ok _) ?_
  intro e ys Φ h
  unfold e3S at h
  split at h
  · rename_i heq
    cases heq
    exact h
  · exact h.elim
end Go.Ab.T
