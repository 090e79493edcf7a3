import Derived.Test.YtajpmmjpkpgoeaaDoorTB
import Derived.Test.YtajpmmjpkpgoeaaDoorMaB
set_option linter.unusedVariables false
set_option linter.unusedSimpArgs false
set_option linter.unusedSectionVars false
namespace Go.Ab.T
open Go Go.Ab Go.Proofs
variable [DMode]
set_option maxRecDepth 100000
set_option maxHeartbeats 4000000
theorem fn_names : FnOk Tryd.prog 29 Tryd.f29 (bodyOf Tryd.f29) := ⟨by kernel_rfl, by kernel_rfl, by kernel_rfl⟩
noncomputable def ff_names : Fun := ⟨Tryd.f29.ntmps, 0, Tryd.f29.results.toList, fun _ => none, fun _ => false, fun _ => []⟩
theorem nf_names (A : KA Kd) (k : List PV -> Heap Kd -> Prop)  : evT B ff_names A k 400 false [.code (bodyOf Tryd.f29)] (startEnv 2 []) [] = (∃ (zs : List ByteArray), List.map e_string zs = [PV.str (ByteArray.mk #[]), PV.str (ByteArray.mk #[(97 : UInt8), (114 : UInt8), (103 : UInt8), (117 : UInt8), (109 : UInt8), (101 : UInt8), (110 : UInt8), (116 : UInt8)]), PV.str (ByteArray.mk #[(115 : UInt8), (104 : UInt8), (111 : UInt8), (114 : UInt8), (116 : UInt8)]), PV.str (ByteArray.mk #[(109 : UInt8), (97 : UInt8), (103 : UInt8), (105 : UInt8), (99 : UInt8)]), PV.str (ByteArray.mk #[(108 : UInt8), (101 : UInt8), (110 : UInt8), (103 : UInt8), (116 : UInt8), (104 : UInt8)]), PV.str (ByteArray.mk #[(115 : UInt8), (117 : UInt8), (109 : UInt8)]), PV.str (ByteArray.mk #[(102 : UInt8), (111 : UInt8), (114 : UInt8), (109 : UInt8)]), PV.str (ByteArray.mk #[(110 : UInt8), (97 : UInt8), (109 : UInt8), (101 : UInt8)]), PV.str (ByteArray.mk #[(109 : UInt8), (97 : UInt8), (110 : UInt8), (121 : UInt8)]), PV.str (ByteArray.mk #[(111 : UInt8), (114 : UInt8), (100 : UInt8), (101 : UInt8), (114 : UInt8)]), PV.str (ByteArray.mk #[(114 : UInt8), (101 : UInt8), (102 : UInt8), (101 : UInt8), (114 : UInt8), (101 : UInt8), (110 : UInt8), (99 : UInt8), (101 : UInt8)]), PV.str (ByteArray.mk #[(119 : UInt8), (105 : UInt8), (110 : UInt8), (100 : UInt8), (111 : UInt8), (119 : UInt8)]), PV.str (ByteArray.mk #[(111 : UInt8), (118 : UInt8), (101 : UInt8), (114 : UInt8), (108 : UInt8), (97 : UInt8), (112 : UInt8)]), PV.str (ByteArray.mk #[(112 : UInt8), (101 : UInt8), (114 : UInt8), (105 : UInt8), (111 : UInt8), (100 : UInt8)]), PV.str (ByteArray.mk #[(98 : UInt8), (117 : UInt8), (100 : UInt8), (103 : UInt8), (101 : UInt8), (116 : UInt8)]), PV.str (ByteArray.mk #[(112 : UInt8), (97 : UInt8), (105 : UInt8), (114 : UInt8)]), PV.str (ByteArray.mk #[(104 : UInt8), (97 : UInt8), (108 : UInt8), (116 : UInt8)]), PV.str (ByteArray.mk #[(115 : UInt8), (116 : UInt8), (97 : UInt8), (116 : UInt8), (101 : UInt8)]), PV.str (ByteArray.mk #[(114 : UInt8), (97 : UInt8), (110 : UInt8), (103 : UInt8), (101 : UInt8)])] /\ k [.own 0] [.row 9 zs]) := by kernel_rfl
def namesF : List PV -> Heap Kd -> (List PV -> Heap Kd -> Prop) -> Prop := fun ys L k => match ys, L with
 | [], [] => k [.own 0] [.row 9 nms]
 | _, _ => False
theorem namesF_inv {ys : List PV} {L : Heap Kd} {k : List PV -> Heap Kd -> Prop} (h : namesF ys L k) : ys = [] /\ L = [] /\ k [.own 0] [.row 9 nms] := by
 unfold namesF at h
 split at h
 ·exact ⟨rfl, rfl, h⟩
 ·exact h.elim
theorem ok_names : FunF B 29 0 namesF := by
 refine funF_of (N := 2) (f := ff_names) env0 mixed fn_names (by kernel_rfl) (by kernel_rfl) ?_
 intro A k ys L hA hF
 obtain ⟨rfl, rfl, hk⟩ := namesF_inv hF; clear hF
 exact ⟨by kernel_rfl, (hA.nf (nf_names A k) ⟨nms, rfl, hk⟩)⟩
noncomputable def CNm := base (fun g => match g with | 29 => some (lift 0 namesF) | _ => none) (fun _ => none) (fun _ => none)
theorem env_CNm : EnvOk CNm := env_of (fun g F h => (by cases h)) (by
 intro g F h
 split at h
 ·cases h; exact (lift_ok ok_names)
 ·cases h) (fun g F h => (by cases h))
def nameS : SpecS := fun ys Φ => match ys with
 | [.int .i64 n] => Φ [.str (nameOf n)]
 | _ => False
theorem nameS_mono : MonoS nameS := by
 intro ys Φ Ψ h hF
 unfold nameS at hF ⊢
 split at hF
 ·exact h _ hF
 ·exact hF.elim
theorem nameS_inv {ys : List PV} {Φ : List PV -> Prop} (h : nameS ys Φ) : ∃ (n : Int), ys = [.int .i64 n] /\ Φ [.str (nameOf n)] := by
 unfold nameS at h
 split at h
 ·exact ⟨_, rfl, h⟩
 ·exact h.elim
theorem fn_Name : FnOk Tryd.prog 21 Tryd.f21 (bodyOf Tryd.f21) := ⟨by kernel_rfl, by kernel_rfl, by kernel_rfl⟩
noncomputable def ff_Name : Fun := ⟨Tryd.f21.ntmps, 0, Tryd.f21.results.toList, fun _ => none, fun _ => false, fun _ => []⟩
theorem nf_Name (A : KA Kd) (k : List PV -> Heap Kd -> Prop) (n : Int) : evT CNm ff_Name A k 400 false [.code (bodyOf Tryd.f21)] (startEnv 17 [.int .i64 n]) [] = (bif decide (n <= 0) then k [.str ⟨#[]⟩] []
else bif decide (n >= (↑nms.length : Int)) then k [PV.str (ByteArray.mk #[])] [] else ((0 : Int) <= n /\ n < (↑nms.length : Int)) /\ ∀ (y : ByteArray), nms[n.toNat]? = some y -> k [PV.str y] []) := by kernel_rfl
theorem ok_Name : FunS B 21 nameS := by
 refine funS_of (N := 17) (f := ff_Name) env_CNm mixed fn_Name (by kernel_rfl) (by kernel_rfl) (by kernel_rfl) nameS_mono ?_
 intro A k ys hA hF
 obtain ⟨n, rfl, hk⟩ := nameS_inv hF; clear hF
 refine ⟨by kernel_rfl, (hA.nf (nf_Name A k n) ?_)⟩
 have hl : (nms.length : Int) = 19 := by decide
 rw [hl]
 by_cases h1 : n <= 0
 ·have : nameOf n = ⟨#[]⟩ := by
   have : isCls n = false := by simp [isCls]; omega
   simp [nameOf, this]
  rw [this] at hk
  simpa [h1] using hk
 ·by_cases h2 : n >= 19
  ·have : nameOf n = ⟨#[]⟩ := by
    have : isCls n = false := by simp [isCls]; omega
    simp [nameOf, this]
   rw [this] at hk
   simpa [h1, h2] using hk
  ·have h3 : isCls n = true := by simp [isCls]; omega
   have e1 : decide (n <= 0) = false := by simp; omega
   have e2 : decide (n >= 19) = false := by simp; omega
   rw [e1, e2]
   refine ⟨⟨by omega, by omega⟩, fun y hy => ?_⟩
   rw [nms_get h3 hy] at hk
   exact hk
noncomputable def CNw := base (fun _ => none) (fun g => match g with | 21 => some nameS | _ => none) (fun _ => none)
theorem env_CNw : EnvOk CNw := env_of (by
 intro g F h
 split at h
 ·cases h; exact ok_Name
 ·cases h) (fun g F h => (by cases h)) (fun g F h => (by cases h))
def newS : SpecS := fun ys Φ => match ys with
 | [.int .i64 n] => Φ [.err (newE n)]
 | _ => False
theorem newS_mono : MonoS newS := by
 intro ys Φ Ψ h hF
 unfold newS at hF ⊢
 split at hF
 ·exact h _ hF
 ·exact hF.elim
theorem newS_inv {ys : List PV} {Φ : List PV -> Prop} (h : newS ys Φ) : ∃ (n : Int), ys = [.int .i64 n] /\ Φ [.err (newE n)] := by
 unfold newS at h
 split at h
 ·exact ⟨_, rfl, h⟩
 ·exact h.elim
theorem fn_New : FnOk Tryd.prog 12 Tryd.f12 (bodyOf Tryd.f12) := ⟨by kernel_rfl, by kernel_rfl, by kernel_rfl⟩
noncomputable def ff_New : Fun := ⟨Tryd.f12.ntmps, 0, Tryd.f12.results.toList, fun _ => none, fun _ => false, fun _ => []⟩
theorem nf_New (A : KA Kd) (k : List PV -> Heap Kd -> Prop) (n : Int) : evT CNw ff_New A k 400 false [.code (bodyOf Tryd.f12)] (startEnv 8 [.int .i64 n]) [] = (bif (nameOf n).toList == (ByteArray.mk #[]).toList then k [.err Err.nil] [] else k [.err (Err.cls n)] []) := by kernel_rfl
theorem ok_New : FunS B 12 newS := by
 refine funS_of (N := 8) (f := ff_New) env_CNw mixed fn_New (by kernel_rfl) (by kernel_rfl) (by kernel_rfl) newS_mono ?_
 intro A k ys hA hF
 obtain ⟨n, rfl, hk⟩ := newS_inv hF; clear hF
 refine ⟨by kernel_rfl, (hA.nf (nf_New A k n) ?_)⟩
 rw [nameOf_empty]
 unfold newE at hk
 cases h : isCls n <;> simpa [h] using hk
def atS : SpecS := fun ys Φ => match ys with
 | [.int .i64 n, .err e] => Φ [.err (atE n e)]
 | _ => False
theorem atS_mono : MonoS atS := by
 intro ys Φ Ψ h hF
 unfold atS at hF ⊢
 split at hF
 ·exact h _ hF
 ·exact hF.elim
theorem atS_inv {ys : List PV} {Φ : List PV -> Prop} (h : atS ys Φ) : ∃ (n : Int) (e : Err), ys = [.int .i64 n, .err e] /\ Φ [.err (atE n e)] := by
 unfold atS at h
 split at h
 ·exact ⟨_, _, rfl, h⟩
 ·exact h.elim
theorem fn_At : FnOk Tryd.prog 14 Tryd.f14 (bodyOf Tryd.f14) := ⟨by kernel_rfl, by kernel_rfl, by kernel_rfl⟩
noncomputable def ff_At : Fun := ⟨Tryd.f14.ntmps, 0, Tryd.f14.results.toList, fun _ => none, fun _ => false, fun _ => []⟩
theorem nf_At (A : KA Kd) (k : List PV -> Heap Kd -> Prop) (n : Int) (e : Err) : evT CNw ff_At A k 400 false [.code (bodyOf Tryd.f14)] (startEnv 12 [.int .i64 n, .err e]) [] = (bif e.isNil then k [.err Err.nil] [] else k [.err (Err.plc n e)] []) := by kernel_rfl
theorem ok_At : FunS B 14 atS := by
 refine funS_of (N := 12) (f := ff_At) env_CNw mixed fn_At (by kernel_rfl) (by kernel_rfl) (by kernel_rfl) atS_mono ?_
 intro A k ys hA hF
 obtain ⟨n, e, rfl, hk⟩ := atS_inv hF; clear hF
 refine ⟨by kernel_rfl, (hA.nf (nf_At A k n e) ?_)⟩
 unfold atE at hk
 cases h : e.isNil <;> simpa [h] using hk
end Go.Ab.T
