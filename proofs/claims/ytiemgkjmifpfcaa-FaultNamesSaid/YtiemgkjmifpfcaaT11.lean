import Derived.Test.YtiemgkjmifpfcaaT10
set_option linter.unusedSimpArgs false
namespace Go.Ab.T
open Go Go.Ab Go.Proofs
set_option maxRecDepth 100000
set_option linter.unusedVariables false

theorem straight {Γ Γs Γi} {g : FuncId} {fn : Func} {F : SpecS} (env : EnvOk (base Γ Γs Γi)) (hfn : FnOk Try.prog g fn (bodyOf fn)) (hm : MonoS F)
    (h : ∀ (A : KA Kd) (k : List PV → Heap Kd → Prop) ys, F ys (fun rs => k rs []) → Nat.ble ys.length fn.ntmps = true ∧ evT (base Γ Γs Γi) (ff fn) A k 100 false [.code (bodyOf fn)] (startEnv fn.ntmps ys) []) : FunS B g F := by
  refine pure_fun (C := base Γ Γs Γi) hm (fun_ok hfn rfl ?_)
  rintro X L0 η0 w0 k ys hL ⟨rfl, hF⟩
  obtain ⟨h1, h2⟩ := h (AT (base Γ Γs Γi) X fn.ntmps fn [] η0 w0 k) k ys hF
  exact ⟨Nat.le_of_ble_eq_true h1, evT_ok (f := ff fn) env mixed rfl rfl 100 false _ _ _ h2⟩

theorem fn37 : FnOk Try.prog 37 Try.f37 (bodyOf Try.f37) := ⟨by kernel_rfl, by kernel_rfl, by kernel_rfl⟩
theorem nf37 (A : KA Kd) (k : List PV → Heap Kd → Prop) (n : Int) : evT C1 (ff Try.f37) A k 100 false [.code (bodyOf Try.f37)] (startEnv Try.f37.ntmps [.int .i64 n]) [] =
    (bif decide (n < 1) then k [PV.str ⟨#[]⟩] [] else bif decide (n > 18) then k [PV.str ⟨#[]⟩] []
      else (0 ≤ n ∧ n < ↑nms.length) ∧ ∀ (y : ByteArray), nms[n.toNat]? = some y → k [PV.str y] []) := by kernel_rfl
theorem f37_ok : FunS B 37 nameS := by
  refine straight env1 fn37 nameS_mono fun A k ys hF => ?_
  unfold nameS at hF
  split at hF
  · rename_i n
    refine ⟨by kernel_rfl, ?_⟩
    show evT C1 _ _ _ _ _ _ _ _
    rw [nf37]
    unfold nameOf at hF
    by_cases h1 : n ≤ 0
    · have e1 : decide (n < 1) = true := by simp; omega
      have e2 : decide (n ≤ 0) = true := by simp; omega
      simpa [e1, e2] using hF
    · have e1 : decide (n < 1) = false := by simp; omega
      have e2 : decide (n ≤ 0) = false := by simp; omega
      have hl : (nms.length : Int) = 19 := by decide
      by_cases h2 : n ≥ 19
      · have e3 : decide (n > 18) = true := by simp; omega
        have e4 : decide (n ≥ 19) = true := by simp; omega
        simpa [e1, e2, e3, e4] using hF
      · have e3 : decide (n > 18) = false := by simp; omega
        have e4 : decide (n ≥ 19) = false := by simp; omega
        rw [e1, e3, hl]
        refine ⟨⟨by omega, by omega⟩, fun y hy => ?_⟩
        have : nms.getD n.toNat ⟨#[]⟩ = y := by simp [List.getD_eq_getElem?_getD, hy]
        rw [this] at hF
        simpa [e2, e4] using hF
  · exact hF.elim

/-! ### errors -/
noncomputable def C2 := base (fun _ => none) (fun g => match g with | 36 => some nameS | _ => none)
theorem env2 : EnvOk C2 := by
  refine env_of ?_ (fun g F h => (by cases h)) (fun n F h => (by cases h))
  intro g F h
  split at h
  · cases h; exact f36_ok
  · cases h
def newS : SpecS := fun ys Φ => match ys with
  | [.int .i64 n] => Φ [.err (bif (nameOf n).toList == [] then .nil else .cls n)]
  | _ => False
theorem newS_mono : MonoS newS := by
  intro ys Φ Ψ h hF
  unfold newS at hF ⊢
  split at hF
  · exact h _ hF
  · exact hF.elim
theorem fn65 : FnOk Try.prog 65 Try.f65 (bodyOf Try.f65) := ⟨by kernel_rfl, by kernel_rfl, by kernel_rfl⟩
theorem nf65 (A : KA Kd) (k : List PV → Heap Kd → Prop) (n : Int) : evT C2 (ff Try.f65) A k 100 false [.code (bodyOf Try.f65)] (startEnv Try.f65.ntmps [.int .i64 n]) [] =
    (bif (nameOf n).toList == ByteArray.toList ⟨#[]⟩ then k [PV.err Err.nil] [] else k [PV.err (Err.cls n)] []) := by kernel_rfl
theorem f65_ok : FunS B 65 newS := by
  refine straight env2 fn65 newS_mono fun A k ys hF => ?_
  unfold newS at hF
  split at hF
  · rename_i n
    refine ⟨by kernel_rfl, ?_⟩
    show evT C2 _ _ _ _ _ _ _ _
    rw [nf65]
    have : ByteArray.toList ⟨#[]⟩ = [] := by rw [ByteArray.toList_eq]
    rw [this]
    cases h : ((nameOf n).toList == []) <;> simpa [h] using hF
  · exact hF.elim

def atS : SpecS := fun ys Φ => match ys with
  | [.int .i64 n, .err e] => Φ [.err (bif e.isNil then .nil else .plc n e)]
  | _ => False
def inS : SpecS := fun ys Φ => match ys with
  | [.int .i64 n, .err e] => Φ [.err (bif e.isNil then .nil else .sec n e)]
  | _ => False
theorem atS_mono : MonoS atS := by
  intro ys Φ Ψ h hF
  unfold atS at hF ⊢
  split at hF
  · exact h _ hF
  · exact hF.elim
theorem inS_mono : MonoS inS := by
  intro ys Φ Ψ h hF
  unfold inS at hF ⊢
  split at hF
  · exact h _ hF
  · exact hF.elim
theorem fn64 : FnOk Try.prog 64 Try.f64 (bodyOf Try.f64) := ⟨by kernel_rfl, by kernel_rfl, by kernel_rfl⟩
theorem fn63 : FnOk Try.prog 63 Try.f63 (bodyOf Try.f63) := ⟨by kernel_rfl, by kernel_rfl, by kernel_rfl⟩
theorem nf64 (A : KA Kd) (k : List PV → Heap Kd → Prop) (n : Int) (e : Err) : evT B (ff Try.f64) A k 100 false [.code (bodyOf Try.f64)] (startEnv Try.f64.ntmps [.int .i64 n, .err e]) [] =
    (bif e.isNil then k [PV.err Err.nil] [] else k [PV.err (Err.plc n e)] []) := by kernel_rfl
theorem nf63 (A : KA Kd) (k : List PV → Heap Kd → Prop) (n : Int) (e : Err) : evT B (ff Try.f63) A k 100 false [.code (bodyOf Try.f63)] (startEnv Try.f63.ntmps [.int .i64 n, .err e]) [] =
    (bif e.isNil then k [PV.err Err.nil] [] else k [PV.err (Err.sec n e)] []) := by kernel_rfl
theorem f64_ok : FunS B 64 atS := by
  refine straight env0 fn64 atS_mono fun A k ys hF => ?_
  unfold atS at hF
  split at hF
  · rename_i n e
    refine ⟨by kernel_rfl, ?_⟩
    show evT B _ _ _ _ _ _ _ _
    rw [nf64]
    cases h : e.isNil <;> simpa [h] using hF
  · exact hF.elim
theorem f63_ok : FunS B 63 inS := by
  refine straight env0 fn63 inS_mono fun A k ys hF => ?_
  unfold inS at hF
  split at hF
  · rename_i n e
    refine ⟨by kernel_rfl, ?_⟩
    show evT B _ _ _ _ _ _ _ _
    rw [nf63]
    cases h : e.isNil <;> simpa [h] using hF
  · exact hF.elim
theorem fn113 : FnOk Try.prog 113 Try.f113 (bodyOf Try.f113) := ⟨by kernel_rfl, by kernel_rfl, by kernel_rfl⟩
theorem nf113 (A : KA Kd) (k : List PV → Heap Kd → Prop) (n : Int) : evT C2 (ff Try.f113) A k 100 false [.code (bodyOf Try.f113)] (startEnv Try.f113.ntmps [.int .i64 n]) [] =
    k [PV.str (nameOf n)] [] := by kernel_rfl
theorem f113_ok : FunS B 113 nameS := by
  refine straight env2 fn113 nameS_mono fun A k ys hF => ?_
  unfold nameS at hF
  split at hF
  · rename_i n
    refine ⟨by kernel_rfl, ?_⟩
    show evT C2 _ _ _ _ _ _ _ _
    rw [nf113]; exact hF
  · exact hF.elim
end Go.Ab.T
