import Derived.Test.YtiemgkjmifpfcaaTBase
import Derived.Test.YtiemgkjmifpfcaaAb26
set_option linter.unusedSimpArgs false
namespace Go.Ab.T
open Go Go.Ab Go.Proofs
set_option maxRecDepth 100000
set_option linter.unusedVariables false
noncomputable def B := base (fun _ => none) (fun _ => none)
theorem tys_ok : tysChk Try.prog 0 tys = true := by kernel_rfl
theorem mixed : Try.prog.follows .mixedOrders = true := by kernel_rfl
def codsChk {K : Codes} (C : Cfg K) (l : List Nat) : Bool := l.all fun e => match C.ty e with
  | some i => Nat.beq (K e).n i.size
  | none => true
theorem cods_of {K : Codes} {C : Cfg K} {l : List Nat} (hc : ∀ e, C.cod e = l.contains e) (h : codsChk C l = true) : ∀ e i, C.cod e = true → C.ty e = some i → (K e).n = i.size := by
  intro e i he hi
  rw [hc] at he
  have := List.all_eq_true.1 h e (by simpa using he)
  rw [hi] at this
  exact Nat.eq_of_beq_eq_true this
theorem cfg_ok (Γ Γs Γi) : CfgOk (base Γ Γs Γi) where
  eqs := fun t n h => by cases h
  ty := fun t i h => by
    have := tysChk_ok (C := base Γ Γs Γi) tys 0 tys_ok t i h
    rwa [Nat.zero_add] at this
  cods := cods_of (l := [5, 9, 51, 91, 66]) (fun _ => rfl) (by kernel_rfl)
  meth := fun t n g h => by cases h
theorem env_of {Γ Γs Γi} (gs : ∀ g F, Γs g = some F → FunS B g F) (hg : ∀ g F, Γ g = some F → FunG B g F) (gi : ∀ n F, Γi n = some F → FunI B n F) : EnvOk (base Γ Γs Γi) :=
  ⟨cfg_ok _ _ _, gs, hg, gi⟩
noncomputable def ff (f : Func) := FF f 0 fun i => none
def nms : List ByteArray := [⟨#[]⟩, ⟨#[97, 114, 103, 117, 109, 101, 110, 116]⟩, ⟨#[115, 104, 111, 114, 116]⟩, ⟨#[109, 97, 103, 105, 99]⟩, ⟨#[108, 101, 110, 103, 116, 104]⟩, ⟨#[115, 117, 109]⟩, ⟨#[102, 111, 114, 109]⟩, ⟨#[110, 97, 109, 101]⟩, ⟨#[109, 97, 110, 121]⟩, ⟨#[111, 114, 100, 101, 114]⟩, ⟨#[114, 101, 102, 101, 114, 101, 110, 99, 101]⟩, ⟨#[119, 105, 110, 100, 111, 119]⟩, ⟨#[111, 118, 101, 114, 108, 97, 112]⟩, ⟨#[112, 101, 114, 105, 111, 100]⟩, ⟨#[98, 117, 100, 103, 101, 116]⟩, ⟨#[112, 97, 105, 114]⟩, ⟨#[104, 97, 108, 116]⟩, ⟨#[115, 116, 97, 116, 101]⟩, ⟨#[114, 97, 110, 103, 101]⟩]

/-! ### the names -/
def namesF : List PV → Heap Kd → (List PV → Heap Kd → Prop) → Prop := fun ys L k => match ys, L with
  | [], [] => k [.own 0] [.row 9 nms]
  | _, _ => False
theorem env0 : EnvOk B := env_of (fun g F h => (by cases h)) (fun g F h => (by cases h)) (fun n F h => (by cases h))
theorem fn67 : FnOk Try.prog 67 Try.f67 (bodyOf Try.f67) := ⟨by kernel_rfl, by kernel_rfl, by kernel_rfl⟩
theorem nf67 (A : KA Kd) (k : List PV → Heap Kd → Prop) : evT B (ff Try.f67) A k 100 false [.code (bodyOf Try.f67)] (startEnv Try.f67.ntmps []) [] =
    ∃ zs : List ByteArray, List.map (Kd 9).enc zs = nms.map PV.str ∧ k [PV.own 0] [AObj.row 9 zs] := by kernel_rfl
theorem f67_ok : FunF B 67 0 namesF := by
  refine fun_ok fn67 rfl ?_
  rintro X L0 η0 w0 k ys hL hF
  unfold namesF at hF
  split at hF
  · refine ⟨by simp, evT_ok (f := ff Try.f67) env0 mixed (by kernel_rfl) rfl 100 false _ _ _ ?_⟩
    rw [nf67]
    exact ⟨nms, rfl, hF⟩
  · exact hF.elim
theorem fn68 : FnOk Try.prog 68 Try.f68 (bodyOf Try.f68) := ⟨by kernel_rfl, by kernel_rfl, by kernel_rfl⟩
theorem nf68 (A : KA Kd) (k : List PV → Heap Kd → Prop) : evT B (ff Try.f68) A k 100 false [.code (bodyOf Try.f68)] (startEnv Try.f68.ntmps []) [] =
    ∃ zs : List ByteArray, List.map (Kd 9).enc zs = nms.map PV.str ∧ k [PV.own 0] [AObj.row 9 zs] := by kernel_rfl
theorem f68_ok : FunF B 68 0 namesF := by
  refine fun_ok fn68 rfl ?_
  rintro X L0 η0 w0 k ys hL hF
  unfold namesF at hF
  split at hF
  · refine ⟨by simp, evT_ok (f := ff Try.f68) env0 mixed (by kernel_rfl) rfl 100 false _ _ _ ?_⟩
    rw [nf68]
    exact ⟨nms, rfl, hF⟩
  · exact hF.elim

/-! ### a class's name -/
def nameOf (n : Int) : ByteArray := bif decide (n ≤ 0) then ⟨#[]⟩ else bif decide (n ≥ 19) then ⟨#[]⟩ else nms.getD n.toNat ⟨#[]⟩
def nameS : SpecS := fun ys Φ => match ys with
  | [.int .i64 n] => Φ [.str (nameOf n)]
  | _ => False
theorem nameS_mono : MonoS nameS := by
  intro ys Φ Ψ h hF
  unfold nameS at hF ⊢
  split at hF
  · exact h _ hF
  · exact hF.elim
noncomputable def C1 := base (fun g => match g with | 67 => some (lift 0 namesF) | 68 => some (lift 0 namesF) | _ => none) (fun _ => none)
theorem env1 : EnvOk C1 := by
  refine env_of (fun g F h => (by cases h)) ?_ (fun n F h => (by cases h))
  intro g F h
  split at h
  · cases h; exact lift_ok f67_ok
  · cases h; exact lift_ok f68_ok
  · cases h
theorem fn36 : FnOk Try.prog 36 Try.f36 (bodyOf Try.f36) := ⟨by kernel_rfl, by kernel_rfl, by kernel_rfl⟩
theorem nf36 (A : KA Kd) (k : List PV → Heap Kd → Prop) (n : Int) : evT C1 (ff Try.f36) A k 100 false [.code (bodyOf Try.f36)] (startEnv Try.f36.ntmps [.int .i64 n]) [] =
    (bif decide (n ≤ 0) then k [PV.str ⟨#[]⟩] [] else bif decide (n ≥ ↑nms.length) then k [PV.str ⟨#[]⟩] []
      else (0 ≤ n ∧ n < ↑nms.length) ∧ ∀ (y : ByteArray), nms[n.toNat]? = some y → k [PV.str y] []) := by kernel_rfl
theorem f36_ok : FunS B 36 nameS := by
  refine pure_fun (C := C1) nameS_mono (fun_ok fn36 rfl ?_)
  rintro X L0 η0 w0 k ys hL ⟨rfl, hF⟩
  unfold nameS at hF
  split at hF
  · rename_i n
    refine ⟨Nat.le_of_ble_eq_true (by kernel_rfl), evT_ok (f := ff Try.f36) env1 mixed (by kernel_rfl) rfl 100 false _ _ _ ?_⟩
    rw [nf36]
    unfold nameOf at hF
    cases h1 : decide (n ≤ 0) with
    | true => simpa [h1] using hF
    | false =>
      have hl : (nms.length : Int) = 19 := by decide
      rw [hl]
      cases h2 : decide (n ≥ 19) with
      | true => simpa [h1, h2] using hF
      | false =>
        simp at h1 h2
        refine ⟨⟨by omega, by omega⟩, fun y hy => ?_⟩
        have : nms.getD n.toNat ⟨#[]⟩ = y := by simp [List.getD_eq_getElem?_getD, hy]
        rw [this] at hF
        have e1 : decide (n ≤ 0) = false := by simp; omega
        have e2 : decide (n ≥ 19) = false := by simp; omega
        simpa [e1, e2] using hF
  · exact hF.elim
end Go.Ab.T
