import Derived.Test.YthfagophoncabaaGreatDoorSame2
set_option linter.unusedVariables false
set_option linter.unusedSimpArgs false
set_option linter.unusedSectionVars false
namespace Go.Ab.T
open Go Go.Ab Go.Proofs
set_option maxRecDepth 100000
set_option maxHeartbeats 4000000
theorem bytes_eq {a b : ByteArray} : (a.data.toList == b.data.toList) = decide (a = b) := by
 by_cases h : a = b
 ·subst h; simp
 ·rw [decide_eq_false h, <- Bool.not_eq_true]
  intro e
  rw [beq_iff_eq] at e
  exact h (by cases a; cases b; simpa using e)
theorem btl (s : ByteArray) : s.toList = s.data.toList := ByteArray.toList_eq s
instance : DecidableEq Sch := fun a b => if h : a.1 = b.1 /\ a.2.1 = b.2.1 /\ a.2.2.1 = b.2.2.1 /\ a.2.2.2 = b.2.2.2 then isTrue (Prod.ext h.1 (Prod.ext h.2.1 (Prod.ext h.2.2.1 h.2.2.2))) else isFalse fun e => h (e ▸ ⟨rfl, rfl, rfl, rfl⟩)
noncomputable def SF0 := base (fun _ => none) (fun g => match g with | 137 => some eqCellS | 138 => some eqWindowS | 139 => some eqNeedS | _ => none) (fun _ => none)
theorem env_SF0 : EnvOk SF0 := env_of (by
 intro g F h
 split at h
 ·cases h; exact ok_eqCell
 ·cases h; exact ok_eqWindow
 ·cases h; exact ok_eqNeed
 ·cases h) (fun g F h => (by cases h)) (fun g F h => (by cases h))
def pSameS : SpecS := fun ys Φ => match ys with
 | [x_0, x_1] => ∃ (x : Prt), ∃ (y : Prt), x_0 = e_api_Partition x /\ x_1 = e_api_Partition y /\ (x.2.2.2.length < 4611686018427387904) /\ Φ [.bool (decide (x = y))]
 | _ => False
theorem pSameS_mono : MonoS pSameS := by
 intro ys Φ Ψ h hF
 unfold pSameS at hF ⊢
 split at hF
 ·obtain ⟨a0, a1, q0, q1, hp, hk⟩ := hF; exact ⟨a0, a1, q0, q1, hp, h _ hk⟩
 ·exact hF.elim
theorem pSameS_inv {ys : List PV} {Φ : List PV -> Prop} (h : pSameS ys Φ) : ∃ (x : Prt) (y : Prt), ys = [e_api_Partition x, e_api_Partition y] /\ (x.2.2.2.length < 4611686018427387904) /\ Φ [.bool (decide (x = y))] := by
 unfold pSameS at h
 split at h
 ·obtain ⟨a0, a1, q0, q1, hz⟩ := h
  subst q0
  subst q1
  exact ⟨a0, a1, rfl, hz⟩
 ·exact h.elim
theorem fn_pSame : FnOk Tryz.prog 70 Tryz.f70 (bodyOf Tryz.f70) := ⟨by kernel_rfl, by kernel_rfl, by kernel_rfl⟩
noncomputable def ff_pSame : Fun := ⟨Tryz.f70.ntmps, 0, Tryz.f70.results.toList, fun _ => none, fun _ => false, fun _ => []⟩
theorem nf_pSame (A : KA Kd) (k : List PV -> Heap Kd -> Prop) (x y : Prt) : evT SF0 ff_pSame A k 400 false [.code (bodyOf Tryz.f70)] (startEnv 31 [e_api_Partition x, e_api_Partition y]) [] = (bif x.fst == y.fst then bif x.snd.fst.toList == y.snd.fst.toList then bif x.snd.snd.fst == y.snd.snd.fst then ∃ (l : List Cl), ∃ (m : List Cl), PV.sl (Int × Bool) e_api_Cell x.snd.snd.snd = PV.sl (Int × Bool) e_api_Cell l /\ PV.sl (Int × Bool) e_api_Cell y.snd.snd.snd = PV.sl (Int × Bool) e_api_Cell m /\ l.length < 4611686018427387904 /\ k [.bool (decide (l = m))] [] else k [.bool false] [] else k [.bool false] []
else k [PV.bool false] []) := by kernel_rfl
theorem ok_pSame : FunS B 70 pSameS := by
 refine funS_of (N := 31) (f := ff_pSame) env_SF0 mixed fn_pSame (by kernel_rfl) (by kernel_rfl) (by kernel_rfl) pSameS_mono ?_
 intro A k ys hA hF
 obtain ⟨x, y, rfl, hl, hk⟩ := pSameS_inv hF; clear hF
 refine ⟨by kernel_rfl, (hA.nf (nf_pSame A k x y) ?_)⟩
 obtain ⟨a1, a2, a3, a4⟩ := x
 obtain ⟨b1, b2, b3, b4⟩ := y
 cases c1 : a1 == b1 with
 | false => rw [decide_eq_false (fun h => by cases h; rw [beq_self_eq_true] at c1; cases c1)] at hk; exact hk
 | true =>
 cases c2 : a2.toList == b2.toList with
 | false => rw [decide_eq_false (fun h => by cases h; rw [beq_self_eq_true] at c2; cases c2)] at hk; exact hk
 | true =>
 cases c3 : a3 == b3 with
 | false => rw [decide_eq_false (fun h => by cases h; rw [beq_self_eq_true] at c3; cases c3)] at hk; exact hk
 | true =>
 have e1 : a1 = b1 := eq_of_beq c1
 have e2 : a2 = b2 := by rw [btl, btl, bytes_eq] at c2; exact of_decide_eq_true c2
 have e3 : a3 = b3 := eq_of_beq c3
 subst e1; subst e2; subst e3
 refine ⟨a4, b4, rfl, rfl, hl, ?_⟩
 have : decide ((a1, a2, a3, a4) = (a1, a2, a3, b4)) = decide (a4 = b4) := by simp
 rw [this] at hk
 exact hk
def sSameS : SpecS := fun ys Φ => match ys with
 | [x_0, x_1] => ∃ (x : Sch), ∃ (y : Sch), x_0 = e_api_Schedule x /\ x_1 = e_api_Schedule y /\ (x.2.2.1.length < 4611686018427387904 /\ x.2.2.2.length < 4611686018427387904) /\ Φ [.bool (decide (x = y))]
 | _ => False
theorem sSameS_mono : MonoS sSameS := by
 intro ys Φ Ψ h hF
 unfold sSameS at hF ⊢
 split at hF
 ·obtain ⟨a0, a1, q0, q1, hp, hk⟩ := hF; exact ⟨a0, a1, q0, q1, hp, h _ hk⟩
 ·exact hF.elim
theorem sSameS_inv {ys : List PV} {Φ : List PV -> Prop} (h : sSameS ys Φ) : ∃ (x : Sch) (y : Sch), ys = [e_api_Schedule x, e_api_Schedule y] /\ (x.2.2.1.length < 4611686018427387904 /\ x.2.2.2.length < 4611686018427387904) /\ Φ [.bool (decide (x = y))] := by
 unfold sSameS at h
 split at h
 ·obtain ⟨a0, a1, q0, q1, hz⟩ := h
  subst q0
  subst q1
  exact ⟨a0, a1, rfl, hz⟩
 ·exact h.elim
theorem fn_sSame : FnOk Tryz.prog 72 Tryz.f72 (bodyOf Tryz.f72) := ⟨by kernel_rfl, by kernel_rfl, by kernel_rfl⟩
noncomputable def ff_sSame : Fun := ⟨Tryz.f72.ntmps, 0, Tryz.f72.results.toList, fun _ => none, fun _ => false, fun _ => []⟩
theorem nf_sSame (A : KA Kd) (k : List PV -> Heap Kd -> Prop) (x y : Sch) : evT SF0 ff_sSame A k 400 false [.code (bodyOf Tryz.f72)] (startEnv 31 [e_api_Schedule x, e_api_Schedule y]) [] = (bif x.fst == y.fst then bif x.snd.fst == y.snd.fst then ∃ (l : List W3), ∃ (m : List W3), PV.sl (Int × Int × Int) e_api_Window x.snd.snd.fst = PV.sl (Int × Int × Int) e_api_Window l /\ PV.sl (Int × Int × Int) e_api_Window y.snd.snd.fst = PV.sl (Int × Int × Int) e_api_Window m /\ l.length < 4611686018427387904 /\ bif decide (l = m) then ∃ (l : List W3), ∃ (m : List W3), PV.sl (Int × Int × Int) e_api_Need x.snd.snd.snd = PV.sl (Int × Int × Int) e_api_Need l /\ PV.sl (Int × Int × Int) e_api_Need y.snd.snd.snd = PV.sl (Int × Int × Int) e_api_Need m /\ l.length < 4611686018427387904 /\ k [.bool (decide (l = m))] [] else k [.bool false] [] else k [.bool false] []
else k [PV.bool false] []) := by kernel_rfl
theorem ok_sSame : FunS B 72 sSameS := by
 refine funS_of (N := 31) (f := ff_sSame) env_SF0 mixed fn_sSame (by kernel_rfl) (by kernel_rfl) (by kernel_rfl) sSameS_mono ?_
 intro A k ys hA hF
 obtain ⟨x, y, rfl, ⟨hl, hl2⟩, hk⟩ := sSameS_inv hF; clear hF
 refine ⟨by kernel_rfl, (hA.nf (nf_sSame A k x y) ?_)⟩
 obtain ⟨a1, a2, a3, a4⟩ := x
 obtain ⟨b1, b2, b3, b4⟩ := y
 cases c1 : a1 == b1 with
 | false => rw [decide_eq_false (fun h => by cases h; rw [beq_self_eq_true] at c1; cases c1)] at hk; exact hk
 | true =>
 cases c2 : a2 == b2 with
 | false => rw [decide_eq_false (fun h => by cases h; rw [beq_self_eq_true] at c2; cases c2)] at hk; exact hk
 | true =>
 have e1 : a1 = b1 := eq_of_beq c1
 have e2 : a2 = b2 := eq_of_beq c2
 subst e1; subst e2
 refine ⟨a3, b3, rfl, rfl, hl, ?_⟩
 by_cases c3 : a3 = b3
 ·subst c3
  rw [decide_eq_true rfl, cond_true]
  refine ⟨a4, b4, rfl, rfl, hl2, ?_⟩
  have : decide ((a1, a2, a3, a4) = (a1, a2, a3, b4)) = decide (a4 = b4) := by simp
  rw [this] at hk
  exact hk
 ·rw [decide_eq_false c3, cond_false]
  rw [decide_eq_false (fun h => by cases h; exact c3 rfl)] at hk
  exact hk
noncomputable def SF1 := base (fun _ => none) (fun _ => none) (fun _ => none)
theorem env_SF1 : EnvOk SF1 := env_of (fun g F h => (by cases h)) (fun g F h => (by cases h)) (fun g F h => (by cases h))
def rSC8gS : SpecS := fun ys Φ => match ys with
 | [x_0, x_1] => ∃ (l : List Cl), ∃ (m : List Cl), x_0 = .sl _ e_api_Cell l /\ x_1 = .sl _ e_api_Cell m /\ (l.length < 4611686018427387904) /\ Φ [.bool (decide (l = m))]
 | _ => False
theorem rSC8gS_mono : MonoS rSC8gS := by
 intro ys Φ Ψ h hF
 unfold rSC8gS at hF ⊢
 split at hF
 ·obtain ⟨a0, a1, q0, q1, hp, hk⟩ := hF; exact ⟨a0, a1, q0, q1, hp, h _ hk⟩
 ·exact hF.elim
theorem rSC8gS_inv {ys : List PV} {Φ : List PV -> Prop} (h : rSC8gS ys Φ) : ∃ (l : List Cl) (m : List Cl), ys = [.sl _ e_api_Cell l, .sl _ e_api_Cell m] /\ (l.length < 4611686018427387904) /\ Φ [.bool (decide (l = m))] := by
 unfold rSC8gS at h
 split at h
 ·obtain ⟨a0, a1, q0, q1, hz⟩ := h
  subst q0
  subst q1
  exact ⟨a0, a1, rfl, hz⟩
 ·exact h.elim
theorem fn_rSC8g : FnOk Tryz.prog 112 Tryz.f112 (bodyOf Tryz.f112) := ⟨by kernel_rfl, by kernel_rfl, by kernel_rfl⟩
noncomputable def ff_rSC8g : Fun := ⟨Tryz.f112.ntmps, 0, Tryz.f112.results.toList, fun i => match i with | 4 => some [0, 1, 5] | _ => none, fun _ => false, fun _ => []⟩
theorem nf_rSC8g_a (A : KA Kd) (k : List PV -> Heap Kd -> Prop) (l m : List Cl) : evT SF1 ff_rSC8g A k 400 false [.code (bodyOf Tryz.f112)] (startEnv 26 [.sl _ e_api_Cell l, .sl _ e_api_Cell m]) [] = (bif (↑l.length : Int) != (↑m.length : Int) then k [.bool false] []
else A (td Tryz.f112 (4 : Nat)) (envAt (26 : Nat) [((0 : Nat), PV.sl (Int × Bool) e_api_Cell l), ((1 : Nat), PV.sl (Int × Bool) e_api_Cell m), ((5 : Nat), PV.int IntKind.i64 (0 : Int))]) []) := by kernel_rfl
theorem nf_rSC8g_b (A : KA Kd) (k : List PV -> Heap Kd -> Prop) (l m : List Cl) (i : Int) : evT SF1 ff_rSC8g A k 400 true (td Tryz.f112 4) (envAt 26 [(0, .sl _ e_api_Cell l), (1, .sl _ e_api_Cell m), (5, .int .i64 i)]) [] = (bif decide (i < (↑l.length : Int)) then (0 <= i /\ i < (↑l.length : Int)) /\ ∀ (y : Int × Bool), l[i.toNat]? = some y -> (0 <= i /\ i < (↑m.length : Int)) /\ ∀ (y_1 : Int × Bool), m[i.toNat]? = some y_1 -> bif !(y.fst == y_1.fst && (y.snd == y_1.snd && true)) then k [.bool false] [] else A (td Tryz.f112 4) (envAt 26 [(0, .sl (Int × Bool) e_api_Cell l), (1, .sl (Int × Bool) e_api_Cell m), (5, .int .i64 (IntKind.i64.wrap (i + 1)))]) []
else k [PV.bool true] []) := by kernel_rfl
theorem ok_rSC8g : FunS B 112 rSC8gS := by
 refine funS_of (N := 26) (f := ff_rSC8g) env_SF1 mixed fn_rSC8g (by kernel_rfl) (by kernel_rfl) (by kernel_rfl) rSC8gS_mono ?_
 intro A k ys hA hF
 obtain ⟨l, m, rfl, hl, hk⟩ := rSC8gS_inv hF; clear hF
 refine ⟨by kernel_rfl, (hA.nf (nf_rSC8g_a A k l m) ?_)⟩
 cases c : ((l.length : Int) != (m.length : Int)) with
 | true => rw [decide_eq_false (len_ne c)] at hk; exact hk
 | false =>
 have hlm := len_eq c
 rw [cond_false]
 refine same_loop l m hlm (fun i => A (td Tryz.f112 4) (envAt 26 [(0, .sl _ e_api_Cell l), (1, .sl _ e_api_Cell m), (5, .int .i64 ((i : Nat)))]) []) (fun b => k [.bool b] []) hk ?_ ?_
 ·intro hk
  refine (hA.nf (nf_rSC8g_b A k l m _) ?_)
  rw [ilt_false (Nat.lt_irrefl _)]; exact hk
 ·intro i y z hy hz ih hno
  have hlt := lt_of_get hy
  refine (hA.nf (nf_rSC8g_b A k l m _) ?_)
  rw [ilt_true hlt, cond_true]
  refine get_at hy (get_at hz ?_)
  rw [wrap_succ (by omega)]
  by_cases e : y = z
  ·subst e
   simp only [beq_self_eq_true, Bool.and_self, Bool.not_true, cond_false]
   exact ih rfl
  ·have hb : (y.1 == z.1 && (y.2 == z.2 && true)) = false := by
    rw [<- Bool.not_eq_true]
    intro h
    simp only [Bool.and_eq_true, beq_iff_eq, and_true] at h
    exact e (Prod.ext h.1 h.2)
   rw [hb, Bool.not_false, cond_true]
   exact hno e
noncomputable def SF2 := base (fun _ => none) (fun g => match g with | 112 => some rSC8gS | _ => none) (fun _ => none)
theorem env_SF2 : EnvOk SF2 := env_of (by
 intro g F h
 split at h
 ·cases h; exact ok_rSC8g
 ·cases h) (fun g F h => (by cases h)) (fun g F h => (by cases h))
theorem fn_rS8g : FnOk Tryz.prog 44 Tryz.f44 (bodyOf Tryz.f44) := ⟨by kernel_rfl, by kernel_rfl, by kernel_rfl⟩
noncomputable def ff_rS8g : Fun := ⟨Tryz.f44.ntmps, 0, Tryz.f44.results.toList, fun i => match i with | 4 => some [0, 1, 5] | _ => none, fun _ => false, fun _ => []⟩
theorem nf_rS8g_a (A : KA Kd) (k : List PV -> Heap Kd -> Prop) (l m : List Prt) : evT SF2 ff_rS8g A k 400 false [.code (bodyOf Tryz.f44)] (startEnv 68 [.sl _ e_api_Partition l, .sl _ e_api_Partition m]) [] = (bif (↑l.length : Int) != (↑m.length : Int) then k [.bool false] []
else A (td Tryz.f44 (4 : Nat)) (envAt (68 : Nat) [((0 : Nat), PV.sl (Int × ByteArray × Bool × List (Int × Bool)) e_api_Partition l), ((1 : Nat), PV.sl (Int × ByteArray × Bool × List (Int × Bool)) e_api_Partition m), ((5 : Nat), PV.int IntKind.i64 (0 : Int))]) []) := by kernel_rfl
theorem nf_rS8g_b (A : KA Kd) (k : List PV -> Heap Kd -> Prop) (l m : List Prt) (i : Int) : evT SF2 ff_rS8g A k 400 true (td Tryz.f44 4) (envAt 68 [(0, .sl _ e_api_Partition l), (1, .sl _ e_api_Partition m), (5, .int .i64 i)]) [] = (bif decide (i < (↑l.length : Int)) then (0 <= i /\ i < (↑l.length : Int)) /\ ∀ (y : Int × ByteArray × Bool × List (Int × Bool)), l[i.toNat]? = some y -> (0 <= i /\ i < (↑m.length : Int)) /\ ∀ (y_1 : Int × ByteArray × Bool × List (Int × Bool)), m[i.toNat]? = some y_1 -> bif y.fst != y_1.fst then k [.bool false] [] else (0 <= i /\ i < (↑l.length : Int)) /\ ∀ (y : Int × ByteArray × Bool × List (Int × Bool)), l[i.toNat]? = some y -> (0 <= i /\ i < (↑m.length : Int)) /\ ∀ (y_2 : Int × ByteArray × Bool × List (Int × Bool)), m[i.toNat]? = some y_2 -> bif !y.snd.fst.toList == y_2.snd.fst.toList then k [.bool false] [] else (0 <= i /\ i < (↑l.length : Int)) /\ ∀ (y : Int × ByteArray × Bool × List (Int × Bool)), l[i.toNat]? = some y -> (0 <= i /\ i < (↑m.length : Int)) /\ ∀ (y_3 : Int × ByteArray × Bool × List (Int × Bool)), m[i.toNat]? = some y_3 -> bif !y.snd.snd.fst == y_3.snd.snd.fst then k [.bool false] [] else (0 <= i /\ i < (↑l.length : Int)) /\ ∀ (y : Int × ByteArray × Bool × List (Int × Bool)), l[i.toNat]? = some y -> (0 <= i /\ i < (↑m.length : Int)) /\ ∀ (y_4 : Int × ByteArray × Bool × List (Int × Bool)), m[i.toNat]? = some y_4 -> ∃ (l_1 : List Cl), ∃ (m_1 : List Cl), PV.sl (Int × Bool) e_api_Cell y.snd.snd.snd = PV.sl (Int × Bool) e_api_Cell l_1 /\ PV.sl (Int × Bool) e_api_Cell y_4.snd.snd.snd = PV.sl (Int × Bool) e_api_Cell m_1 /\ l_1.length < 4611686018427387904 /\ bif !decide (l_1 = m_1) then k [.bool false] [] else A (td Tryz.f44 4) (envAt 68 [(0, .sl (Int × ByteArray × Bool × List (Int × Bool)) e_api_Partition l), (1, .sl (Int × ByteArray × Bool × List (Int × Bool)) e_api_Partition m), (5, .int .i64 (IntKind.i64.wrap (i + 1)))]) []
else k [PV.bool true] []) := by kernel_rfl
def rS8gS : SpecS := fun ys Φ => match ys with
 | [x_0, x_1] => ∃ (l : List Prt), ∃ (m : List Prt), x_0 = .sl _ e_api_Partition l /\ x_1 = .sl _ e_api_Partition m /\ (l.length < 4611686018427387904 /\ (∀ x, x ∈ l -> x.2.2.2.length < 4611686018427387904)) /\ Φ [.bool (decide (l = m))]
 | _ => False
theorem rS8gS_mono : MonoS rS8gS := by
 intro ys Φ Ψ h hF
 unfold rS8gS at hF ⊢
 split at hF
 ·obtain ⟨a0, a1, q0, q1, hp, hk⟩ := hF; exact ⟨a0, a1, q0, q1, hp, h _ hk⟩
 ·exact hF.elim
theorem rS8gS_inv {ys : List PV} {Φ : List PV -> Prop} (h : rS8gS ys Φ) : ∃ (l : List Prt) (m : List Prt), ys = [.sl _ e_api_Partition l, .sl _ e_api_Partition m] /\ (l.length < 4611686018427387904 /\ (∀ x, x ∈ l -> x.2.2.2.length < 4611686018427387904)) /\ Φ [.bool (decide (l = m))] := by
 unfold rS8gS at h
 split at h
 ·obtain ⟨a0, a1, q0, q1, hz⟩ := h
  subst q0
  subst q1
  exact ⟨a0, a1, rfl, hz⟩
 ·exact h.elim
theorem ok_rS8g : FunS B 44 rS8gS := by
 refine funS_of (N := 68) (f := ff_rS8g) env_SF2 mixed fn_rS8g (by kernel_rfl) (by kernel_rfl) (by kernel_rfl) rS8gS_mono ?_
 intro A k ys hA hF
 obtain ⟨l, m, rfl, ⟨hl, hw⟩, hk⟩ := rS8gS_inv hF; clear hF
 refine ⟨by kernel_rfl, (hA.nf (nf_rS8g_a A k l m) ?_)⟩
 cases c : ((l.length : Int) != (m.length : Int)) with
 | true => rw [decide_eq_false (len_ne c)] at hk; exact hk
 | false =>
 have hlm := len_eq c
 rw [cond_false]
 refine same_loop l m hlm (fun i => A (td Tryz.f44 4) (envAt 68 [(0, .sl _ e_api_Partition l), (1, .sl _ e_api_Partition m), (5, .int .i64 ((i : Nat)))]) []) (fun b => k [.bool b] []) hk ?_ ?_
 ·intro hk
  refine (hA.nf (nf_rS8g_b A k l m _) ?_)
  rw [ilt_false (Nat.lt_irrefl _)]; exact hk
 ·intro i y z hy hz ih hno
  have hlt := lt_of_get hy
  refine (hA.nf (nf_rS8g_b A k l m _) ?_)
  rw [ilt_true hlt, cond_true]
  obtain ⟨a1, a2, a3, a4⟩ := y
  obtain ⟨b1, b2, b3, b4⟩ := z
  have bne : ∀ v w : Int, (v != w) = !(v == w) := fun _ _ => rfl
  refine get_at hy (get_at hz ?_)
  cases c1 : a1 == b1 with
  | false => rw [bne, c1]; exact hno (fun h => by cases h; rw [beq_self_eq_true] at c1; cases c1)
  | true =>
  rw [bne, c1, Bool.not_true, cond_false]
  refine get_at hy (get_at hz ?_)
  cases c2 : a2.toList == b2.toList with
  | false => exact hno (fun h => by cases h; rw [beq_self_eq_true] at c2; cases c2)
  | true =>
  rw [Bool.not_true, cond_false]
  refine get_at hy (get_at hz ?_)
  cases c3 : a3 == b3 with
  | false => exact hno (fun h => by cases h; rw [beq_self_eq_true] at c3; cases c3)
  | true =>
  rw [Bool.not_true, cond_false]
  have e1 : a1 = b1 := eq_of_beq c1
  have e2 : a2 = b2 := by rw [btl, btl, bytes_eq] at c2; exact of_decide_eq_true c2
  have e3 : a3 = b3 := eq_of_beq c3
  subst e1; subst e2; subst e3
  refine get_at hy (get_at hz ⟨a4, b4, rfl, rfl, hw _ (List.mem_of_getElem? hy), ?_⟩)
  by_cases e4 : a4 = b4
  ·subst e4
   rw [decide_eq_true rfl, Bool.not_true, cond_false, wrap_succ (by omega)]
   exact ih rfl
  ·rw [decide_eq_false e4, Bool.not_false, cond_true]
   exact hno (fun h => by cases h; exact e4 rfl)
noncomputable def SF3 := base (fun _ => none) (fun _ => none) (fun _ => none)
theorem env_SF3 : EnvOk SF3 := env_of (fun g F h => (by cases h)) (fun g F h => (by cases h)) (fun g F h => (by cases h))
def rS9gS : SpecS := fun ys Φ => match ys with
 | [x_0, x_1] => ∃ (l : List Sch), ∃ (m : List Sch), x_0 = .sl _ e_api_Schedule l /\ x_1 = .sl _ e_api_Schedule m /\ (l.length < 4611686018427387904 /\ (∀ x, x ∈ l -> x.2.2.1.length < 4611686018427387904 /\ x.2.2.2.length < 4611686018427387904)) /\ Φ [.bool (decide (l = m))]
 | _ => False
theorem rS9gS_mono : MonoS rS9gS := by
 intro ys Φ Ψ h hF
 unfold rS9gS at hF ⊢
 split at hF
 ·obtain ⟨a0, a1, q0, q1, hp, hk⟩ := hF; exact ⟨a0, a1, q0, q1, hp, h _ hk⟩
 ·exact hF.elim
theorem rS9gS_inv {ys : List PV} {Φ : List PV -> Prop} (h : rS9gS ys Φ) : ∃ (l : List Sch) (m : List Sch), ys = [.sl _ e_api_Schedule l, .sl _ e_api_Schedule m] /\ (l.length < 4611686018427387904 /\ (∀ x, x ∈ l -> x.2.2.1.length < 4611686018427387904 /\ x.2.2.2.length < 4611686018427387904)) /\ Φ [.bool (decide (l = m))] := by
 unfold rS9gS at h
 split at h
 ·obtain ⟨a0, a1, q0, q1, hz⟩ := h
  subst q0
  subst q1
  exact ⟨a0, a1, rfl, hz⟩
 ·exact h.elim
theorem fn_rS9g : FnOk Tryz.prog 45 Tryz.f45 (bodyOf Tryz.f45) := ⟨by kernel_rfl, by kernel_rfl, by kernel_rfl⟩
noncomputable def ff_rS9g : Fun := ⟨Tryz.f45.ntmps, 0, Tryz.f45.results.toList, fun i => match i with | 14 => some [0, 1, 5, 7] | 9 => some [0, 1, 5, 6] | 4 => some [0, 1, 5] | _ => none, fun _ => false, fun _ => []⟩
theorem nf_rS9g_a (A : KA Kd) (k : List PV -> Heap Kd -> Prop) (l m : List Sch) : evT SF3 ff_rS9g A k 400 false [.code (bodyOf Tryz.f45)] (startEnv 127 [.sl _ e_api_Schedule l, .sl _ e_api_Schedule m]) [] = (bif (↑l.length : Int) != (↑m.length : Int) then k [.bool false] []
else A (td Tryz.f45 (4 : Nat)) (envAt (127 : Nat) [((0 : Nat), PV.sl (Int × Int × List (Int × Int × Int) × List (Int × Int × Int)) e_api_Schedule l), ((1 : Nat), PV.sl (Int × Int × List (Int × Int × Int) × List (Int × Int × Int)) e_api_Schedule m), ((5 : Nat), PV.int IntKind.i64 (0 : Int))]) []) := by kernel_rfl
theorem nf_rS9g_b (A : KA Kd) (k : List PV -> Heap Kd -> Prop) (l m : List Sch) (i : Int) : evT SF3 ff_rS9g A k 400 true (td Tryz.f45 4) (envAt 127 [(0, .sl _ e_api_Schedule l), (1, .sl _ e_api_Schedule m), (5, .int .i64 i)]) [] = (bif decide (i < (↑l.length : Int)) then (0 <= i /\ i < (↑l.length : Int)) /\ ∀ (y : Int × Int × List (Int × Int × Int) × List (Int × Int × Int)), l[i.toNat]? = some y -> (0 <= i /\ i < (↑m.length : Int)) /\ ∀ (y_1 : Int × Int × List (Int × Int × Int) × List (Int × Int × Int)), m[i.toNat]? = some y_1 -> bif y.fst != y_1.fst then k [.bool false] [] else (0 <= i /\ i < (↑l.length : Int)) /\ ∀ (y : Int × Int × List (Int × Int × Int) × List (Int × Int × Int)), l[i.toNat]? = some y -> (0 <= i /\ i < (↑m.length : Int)) /\ ∀ (y_2 : Int × Int × List (Int × Int × Int) × List (Int × Int × Int)), m[i.toNat]? = some y_2 -> bif y.snd.fst != y_2.snd.fst then k [.bool false] [] else (0 <= i /\ i < (↑l.length : Int)) /\ ∀ (y : Int × Int × List (Int × Int × Int) × List (Int × Int × Int)), l[i.toNat]? = some y -> (0 <= i /\ i < (↑m.length : Int)) /\ ∀ (y_3 : Int × Int × List (Int × Int × Int) × List (Int × Int × Int)), m[i.toNat]? = some y_3 -> bif (↑y.snd.snd.fst.length : Int) != (↑y_3.snd.snd.fst.length : Int) then k [.bool false] [] else (0 <= i /\ i < (↑l.length : Int)) /\ ∀ (y : Int × Int × List (Int × Int × Int) × List (Int × Int × Int)), l[i.toNat]? = some y -> (0 <= i /\ i < (↑m.length : Int)) /\ ∀ (y_4 : Int × Int × List (Int × Int × Int) × List (Int × Int × Int)), m[i.toNat]? = some y_4 -> bif (↑y.snd.snd.snd.length : Int) != (↑y_4.snd.snd.snd.length : Int) then k [.bool false] [] else A (td Tryz.f45 9) (envAt 127 [(0, .sl (Int × Int × List (Int × Int × Int) × List (Int × Int × Int)) e_api_Schedule l), (1, .sl (Int × Int × List (Int × Int × Int) × List (Int × Int × Int)) e_api_Schedule m), (5, .int .i64 i), (6, .int .i64 0)]) []
else k [PV.bool true] []) := by kernel_rfl
theorem nf_rS9g_c (A : KA Kd) (k : List PV -> Heap Kd -> Prop) (l m : List Sch) (i j : Int) : evT SF3 ff_rS9g A k 400 true (td Tryz.f45 9) (envAt 127 [(0, .sl _ e_api_Schedule l), (1, .sl _ e_api_Schedule m), (5, .int .i64 i), (6, .int .i64 j)]) [] = ((0 <= i /\ i < (↑l.length : Int)) /\ ∀ (y : Int × Int × List (Int × Int × Int) × List (Int × Int × Int)), l[i.toNat]? = some y -> bif decide (j < (↑y.snd.snd.fst.length : Int)) then (0 <= i /\ i < (↑l.length : Int)) /\ ∀ (y : Int × Int × List (Int × Int × Int) × List (Int × Int × Int)), l[i.toNat]? = some y -> (0 <= j /\ j < (↑y.snd.snd.fst.length : Int)) /\ ∀ (y_1 : Int × Int × Int), y.snd.snd.fst[j.toNat]? = some y_1 -> (0 <= i /\ i < (↑m.length : Int)) /\ ∀ (y : Int × Int × List (Int × Int × Int) × List (Int × Int × Int)), m[i.toNat]? = some y -> (0 <= j /\ j < (↑y.snd.snd.fst.length : Int)) /\ ∀ (y_2 : Int × Int × Int), y.snd.snd.fst[j.toNat]? = some y_2 -> bif !(y_1.fst == y_2.fst && (y_1.snd.fst == y_2.snd.fst && (y_1.snd.snd == y_2.snd.snd && true))) then k [.bool false] [] else A (td Tryz.f45 9) (envAt 127 [(0, .sl (Int × Int × List (Int × Int × Int) × List (Int × Int × Int)) e_api_Schedule l), (1, .sl (Int × Int × List (Int × Int × Int) × List (Int × Int × Int)) e_api_Schedule m), (5, .int .i64 i), (6, .int .i64 (IntKind.i64.wrap (j + 1)))]) [] else A (td Tryz.f45 14) (envAt 127 [(0, .sl (Int × Int × List (Int × Int × Int) × List (Int × Int × Int)) e_api_Schedule l), (1, .sl (Int × Int × List (Int × Int × Int) × List (Int × Int × Int)) e_api_Schedule m), (5, .int .i64 i), (7, .int .i64 0)]) []) := by kernel_rfl
theorem nf_rS9g_d (A : KA Kd) (k : List PV -> Heap Kd -> Prop) (l m : List Sch) (i j : Int) : evT SF3 ff_rS9g A k 400 true (td Tryz.f45 14) (envAt 127 [(0, .sl _ e_api_Schedule l), (1, .sl _ e_api_Schedule m), (5, .int .i64 i), (7, .int .i64 j)]) [] = ((0 <= i /\ i < (↑l.length : Int)) /\ ∀ (y : Int × Int × List (Int × Int × Int) × List (Int × Int × Int)), l[i.toNat]? = some y -> bif decide (j < (↑y.snd.snd.snd.length : Int)) then (0 <= i /\ i < (↑l.length : Int)) /\ ∀ (y : Int × Int × List (Int × Int × Int) × List (Int × Int × Int)), l[i.toNat]? = some y -> (0 <= j /\ j < (↑y.snd.snd.snd.length : Int)) /\ ∀ (y_1 : Int × Int × Int), y.snd.snd.snd[j.toNat]? = some y_1 -> (0 <= i /\ i < (↑m.length : Int)) /\ ∀ (y : Int × Int × List (Int × Int × Int) × List (Int × Int × Int)), m[i.toNat]? = some y -> (0 <= j /\ j < (↑y.snd.snd.snd.length : Int)) /\ ∀ (y_2 : Int × Int × Int), y.snd.snd.snd[j.toNat]? = some y_2 -> bif !(y_1.fst == y_2.fst && (y_1.snd.fst == y_2.snd.fst && (y_1.snd.snd == y_2.snd.snd && true))) then k [.bool false] [] else A (td Tryz.f45 14) (envAt 127 [(0, .sl (Int × Int × List (Int × Int × Int) × List (Int × Int × Int)) e_api_Schedule l), (1, .sl (Int × Int × List (Int × Int × Int) × List (Int × Int × Int)) e_api_Schedule m), (5, .int .i64 i), (7, .int .i64 (IntKind.i64.wrap (j + 1)))]) [] else A (td Tryz.f45 4) (envAt 127 [(0, .sl (Int × Int × List (Int × Int × Int) × List (Int × Int × Int)) e_api_Schedule l), (1, .sl (Int × Int × List (Int × Int × Int) × List (Int × Int × Int)) e_api_Schedule m), (5, .int .i64 (IntKind.i64.wrap (i + 1)))]) []) := by kernel_rfl
theorem w3_ne {y z : W3} (e : y ≠ z) : (y.1 == z.1 && (y.2.1 == z.2.1 && (y.2.2 == z.2.2 && true))) = false := by
 rw [<- Bool.not_eq_true]
 intro h
 simp only [Bool.and_eq_true, beq_iff_eq, and_true] at h
 exact e (Prod.ext h.1 (Prod.ext h.2.1 h.2.2))
theorem ok_rS9g : FunS B 45 rS9gS := by
 refine funS_of (N := 127) (f := ff_rS9g) env_SF3 mixed fn_rS9g (by kernel_rfl) (by kernel_rfl) (by kernel_rfl) rS9gS_mono ?_
 intro A k ys hA hF
 obtain ⟨l, m, rfl, ⟨hl, hw⟩, hk⟩ := rS9gS_inv hF; clear hF
 refine ⟨by kernel_rfl, (hA.nf (nf_rS9g_a A k l m) ?_)⟩
 have bne : ∀ v w : Int, (v != w) = !(v == w) := fun _ _ => rfl
 cases c : ((l.length : Int) != (m.length : Int)) with
 | true => rw [decide_eq_false (len_ne c)] at hk; exact hk
 | false =>
 have hlm := len_eq c
 rw [cond_false]
 refine same_loop l m hlm (fun i => A (td Tryz.f45 4) (envAt 127 [(0, .sl _ e_api_Schedule l), (1, .sl _ e_api_Schedule m), (5, .int .i64 ((i : Nat)))]) []) (fun b => k [.bool b] []) hk ?_ ?_
 ·intro hk
  refine (hA.nf (nf_rS9g_b A k l m _) ?_)
  rw [ilt_false (Nat.lt_irrefl _)]; exact hk
 ·intro i y z hy hz ih hno
  have hlt := lt_of_get hy
  obtain ⟨w1, w2⟩ := hw y (List.mem_of_getElem? hy)
  refine (hA.nf (nf_rS9g_b A k l m _) ?_)
  rw [ilt_true hlt, cond_true]
  obtain ⟨a1, a2, a3, a4⟩ := y
  obtain ⟨b1, b2, b3, b4⟩ := z
  have w1 : a3.length < 4611686018427387904 := w1
  have w2 : a4.length < 4611686018427387904 := w2
  refine get_at hy (get_at hz ?_)
  cases c1 : a1 == b1 with
  | false => rw [bne, c1]; exact hno (fun h => by cases h; rw [beq_self_eq_true] at c1; cases c1)
  | true =>
  rw [bne, c1, Bool.not_true, cond_false]
  refine get_at hy (get_at hz ?_)
  cases c2 : a2 == b2 with
  | false => rw [bne, c2]; exact hno (fun h => by cases h; rw [beq_self_eq_true] at c2; cases c2)
  | true =>
  rw [bne, c2, Bool.not_true, cond_false]
  have e1 : a1 = b1 := eq_of_beq c1
  have e2 : a2 = b2 := eq_of_beq c2
  subst e1; subst e2
  refine get_at hy (get_at hz ?_)
  cases c3 : ((a3.length : Int) != (b3.length : Int)) with
  | true => exact hno (fun h => by cases h; exact len_ne c3 rfl)
  | false =>
  rw [cond_false]
  refine get_at hy (get_at hz ?_)
  cases c4 : ((a4.length : Int) != (b4.length : Int)) with
  | true => exact hno (fun h => by cases h; exact len_ne c4 rfl)
  | false =>
  rw [cond_false]
  refine same_loop a3 b3 (len_eq c3) (fun j => A (td Tryz.f45 9) (envAt 127 [(0, .sl _ e_api_Schedule l), (1, .sl _ e_api_Schedule m), (5, .int .i64 ((i : Nat))), (6, .int .i64 ((j : Nat)))]) []) (fun b => b = decide (a3 = b3)) rfl ?_ ?_
  ·intro h3
   have h3 : a3 = b3 := of_decide_eq_true h3.symm
   subst h3
   refine (hA.nf (nf_rS9g_c A k l m _ _) (get_at hy ?_))
   rw [ilt_false (Nat.lt_irrefl _), cond_false]
   refine same_loop a4 b4 (len_eq c4) (fun j => A (td Tryz.f45 14) (envAt 127 [(0, .sl _ e_api_Schedule l), (1, .sl _ e_api_Schedule m), (5, .int .i64 ((i : Nat))), (7, .int .i64 ((j : Nat)))]) []) (fun b => b = decide (a4 = b4)) rfl ?_ ?_
   ·intro h4
    have h4 : a4 = b4 := of_decide_eq_true h4.symm
    subst h4
    refine (hA.nf (nf_rS9g_d A k l m _ _) (get_at hy ?_))
    rw [ilt_false (Nat.lt_irrefl _), cond_false, wrap_succ (by omega)]
    exact ih rfl
   ·intro j p q hp hq ih2 hno2
    have hj := lt_of_get hp
    refine (hA.nf (nf_rS9g_d A k l m _ _) (get_at hy ?_))
    rw [ilt_true hj, cond_true]
    refine get_at hy (get_at hp (get_at hz (get_at hq ?_)))
    by_cases e : p = q
    ·subst e
     simp only [beq_self_eq_true, Bool.and_self, Bool.not_true, cond_false]
     rw [wrap_succ (by omega)]
     exact ih2 rfl
    ·rw [w3_ne e, Bool.not_false, cond_true]
     have h4 := hno2 e
     exact hno (fun h => by cases h; simp at h4)
  ·intro j p q hp hq ih2 hno2
   have hj := lt_of_get hp
   refine (hA.nf (nf_rS9g_c A k l m _ _) (get_at hy ?_))
   rw [ilt_true hj, cond_true]
   refine get_at hy (get_at hp (get_at hz (get_at hq ?_)))
   by_cases e : p = q
   ·subst e
    simp only [beq_self_eq_true, Bool.and_self, Bool.not_true, cond_false]
    rw [wrap_succ (by omega)]
    exact ih2 rfl
   ·rw [w3_ne e, Bool.not_false, cond_true]
    have h4 := hno2 e
    exact hno (fun h => by cases h; simp at h4)
end Go.Ab.T
