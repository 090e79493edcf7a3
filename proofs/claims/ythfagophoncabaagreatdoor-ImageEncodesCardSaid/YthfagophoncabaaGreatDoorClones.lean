import Derived.Test.YthfagophoncabaaGreatDoorSame2
set_option linter.unusedVariables false
set_option linter.unusedSimpArgs false
set_option linter.unusedSectionVars false
namespace Go.Ab.T
open Go Go.Ab Go.Proofs
set_option maxRecDepth 100000
set_option maxHeartbeats 4000000
noncomputable def CL0 := base (fun _ => none) (fun _ => none) (fun _ => none)
theorem env_CL0 : EnvOk CL0 := env_of (fun g F h => (by cases h)) (fun g F h => (by cases h)) (fun g F h => (by cases h))
def clCellS : List PV -> Heap Kd -> (List PV -> Heap Kd -> Prop) -> Prop := fun ys L k => match ys, L with
 | [x_0], [] => ∃ (l : List Cl), x_0 = .sl _ e_api_Cell l /\ (l.length < 1099511627776) /\ k [.own 0] [.row 154 l]
 | _, _ => False
theorem clCellS_inv {ys : List PV} {L : Heap Kd} {k : List PV -> Heap Kd -> Prop} (h : clCellS ys L k) : ∃ (l : List Cl), ys = [.sl _ e_api_Cell l] /\ L = [] /\ (l.length < 1099511627776) /\ k [.own 0] [.row 154 l] := by
 unfold clCellS at h
 split at h
 ·obtain ⟨a0, q0, hz⟩ := h
  subst q0
  exact ⟨a0, rfl, rfl, hz⟩
 ·exact h.elim
theorem fn_clCell : FnOk Tryz.prog 140 Tryz.f140 (bodyOf Tryz.f140) := ⟨by kernel_rfl, by kernel_rfl, by kernel_rfl⟩
noncomputable def ff_clCell : Fun := ⟨Tryz.f140.ntmps, 0, Tryz.f140.results.toList, fun _ => none, fun _ => false, fun _ => []⟩
theorem nf_clCell (A : KA Kd) (k : List PV -> Heap Kd -> Prop) (l : List Cl) : evT CL0 ff_clCell A k 400 false [.code (bodyOf Tryz.f140)] (startEnv 8 [.sl _ e_api_Cell l]) [] = (∀ (b : Bool), (l ≠ [] -> b = false) -> bif b then k [.own 0] [.row 154 []] else ∃ (zs : List (Int × Bool)), List.map e_api_Cell zs = [] /\ ∃ (ys : List (Int × Bool)), List.map e_api_Cell ys = List.map e_api_Cell l /\ (zs.length + ys.length) * (TInfo.mk (TD.struct [((0 : Nat), (61 : TypeId)), ((1 : Nat), (4 : TypeId))]) (2 : Nat) (8 : Nat) [PV.int IntKind.u32 0, PV.bool false] true []).bytes <= 140737488355328 /\ k [.own 0] [.row 154 (zs ++ ys)]) := by kernel_rfl
theorem ok_clCell : FunF B 140 0 clCellS := by
 refine funF_of (N := 8) (f := ff_clCell) env_CL0 mixed fn_clCell (by kernel_rfl) (by kernel_rfl) ?_
 intro A k ys L hA hF
 obtain ⟨l, rfl, rfl, h1, hk⟩ := clCellS_inv hF; clear hF
 refine ⟨by kernel_rfl, (hA.nf (nf_clCell A k l) ?_)⟩
 intro b hb
 cases b with
 | false => exact ⟨[], rfl, l, rfl, by show (0 + l.length) * 8 <= _; omega, hk⟩
 | true =>
  cases l with
  | nil => exact hk
  | cons x r => exact absurd (hb (by simp)) (by simp)
def clWindowS : List PV -> Heap Kd -> (List PV -> Heap Kd -> Prop) -> Prop := fun ys L k => match ys, L with
 | [x_0], [] => ∃ (l : List W3), x_0 = .sl _ e_api_Window l /\ (l.length < 1099511627776) /\ k [.own 0] [.row 157 l]
 | _, _ => False
theorem clWindowS_inv {ys : List PV} {L : Heap Kd} {k : List PV -> Heap Kd -> Prop} (h : clWindowS ys L k) : ∃ (l : List W3), ys = [.sl _ e_api_Window l] /\ L = [] /\ (l.length < 1099511627776) /\ k [.own 0] [.row 157 l] := by
 unfold clWindowS at h
 split at h
 ·obtain ⟨a0, q0, hz⟩ := h
  subst q0
  exact ⟨a0, rfl, rfl, hz⟩
 ·exact h.elim
theorem fn_clWindow : FnOk Tryz.prog 141 Tryz.f141 (bodyOf Tryz.f141) := ⟨by kernel_rfl, by kernel_rfl, by kernel_rfl⟩
noncomputable def ff_clWindow : Fun := ⟨Tryz.f141.ntmps, 0, Tryz.f141.results.toList, fun _ => none, fun _ => false, fun _ => []⟩
theorem nf_clWindow (A : KA Kd) (k : List PV -> Heap Kd -> Prop) (l : List W3) : evT CL0 ff_clWindow A k 400 false [.code (bodyOf Tryz.f141)] (startEnv 8 [.sl _ e_api_Window l]) [] = (∀ (b : Bool), (l ≠ [] -> b = false) -> bif b then k [.own 0] [.row 157 []] else ∃ (zs : List (Int × Int × Int)), List.map e_api_Window zs = [] /\ ∃ (ys : List (Int × Int × Int)), List.map e_api_Window ys = List.map e_api_Window l /\ (zs.length + ys.length) * (TInfo.mk (TD.struct [((0 : Nat), (3 : TypeId)), ((1 : Nat), (3 : TypeId)), ((2 : Nat), (3 : TypeId))]) (3 : Nat) (24 : Nat) [PV.int IntKind.i64 0, PV.int IntKind.i64 0, PV.int IntKind.i64 0] true []).bytes <= 140737488355328 /\ k [.own 0] [.row 157 (zs ++ ys)]) := by kernel_rfl
theorem ok_clWindow : FunF B 141 0 clWindowS := by
 refine funF_of (N := 8) (f := ff_clWindow) env_CL0 mixed fn_clWindow (by kernel_rfl) (by kernel_rfl) ?_
 intro A k ys L hA hF
 obtain ⟨l, rfl, rfl, h1, hk⟩ := clWindowS_inv hF; clear hF
 refine ⟨by kernel_rfl, (hA.nf (nf_clWindow A k l) ?_)⟩
 intro b hb
 cases b with
 | false => exact ⟨[], rfl, l, rfl, by show (0 + l.length) * 24 <= _; omega, hk⟩
 | true =>
  cases l with
  | nil => exact hk
  | cons x r => exact absurd (hb (by simp)) (by simp)
def clNeedS : List PV -> Heap Kd -> (List PV -> Heap Kd -> Prop) -> Prop := fun ys L k => match ys, L with
 | [x_0], [] => ∃ (l : List W3), x_0 = .sl _ e_api_Need l /\ (l.length < 1099511627776) /\ k [.own 0] [.row 159 l]
 | _, _ => False
theorem clNeedS_inv {ys : List PV} {L : Heap Kd} {k : List PV -> Heap Kd -> Prop} (h : clNeedS ys L k) : ∃ (l : List W3), ys = [.sl _ e_api_Need l] /\ L = [] /\ (l.length < 1099511627776) /\ k [.own 0] [.row 159 l] := by
 unfold clNeedS at h
 split at h
 ·obtain ⟨a0, q0, hz⟩ := h
  subst q0
  exact ⟨a0, rfl, rfl, hz⟩
 ·exact h.elim
theorem fn_clNeed : FnOk Tryz.prog 142 Tryz.f142 (bodyOf Tryz.f142) := ⟨by kernel_rfl, by kernel_rfl, by kernel_rfl⟩
noncomputable def ff_clNeed : Fun := ⟨Tryz.f142.ntmps, 0, Tryz.f142.results.toList, fun _ => none, fun _ => false, fun _ => []⟩
theorem nf_clNeed (A : KA Kd) (k : List PV -> Heap Kd -> Prop) (l : List W3) : evT CL0 ff_clNeed A k 400 false [.code (bodyOf Tryz.f142)] (startEnv 8 [.sl _ e_api_Need l]) [] = (∀ (b : Bool), (l ≠ [] -> b = false) -> bif b then k [.own 0] [.row 159 []] else ∃ (zs : List (Int × Int × Int)), List.map e_api_Need zs = [] /\ ∃ (ys : List (Int × Int × Int)), List.map e_api_Need ys = List.map e_api_Need l /\ (zs.length + ys.length) * (TInfo.mk (TD.struct [((0 : Nat), (3 : TypeId)), ((1 : Nat), (3 : TypeId)), ((2 : Nat), (3 : TypeId))]) (3 : Nat) (24 : Nat) [PV.int IntKind.i64 0, PV.int IntKind.i64 0, PV.int IntKind.i64 0] true []).bytes <= 140737488355328 /\ k [.own 0] [.row 159 (zs ++ ys)]) := by kernel_rfl
theorem ok_clNeed : FunF B 142 0 clNeedS := by
 refine funF_of (N := 8) (f := ff_clNeed) env_CL0 mixed fn_clNeed (by kernel_rfl) (by kernel_rfl) ?_
 intro A k ys L hA hF
 obtain ⟨l, rfl, rfl, h1, hk⟩ := clNeedS_inv hF; clear hF
 refine ⟨by kernel_rfl, (hA.nf (nf_clNeed A k l) ?_)⟩
 intro b hb
 cases b with
 | false => exact ⟨[], rfl, l, rfl, by show (0 + l.length) * 24 <= _; omega, hk⟩
 | true =>
  cases l with
  | nil => exact hk
  | cons x r => exact absurd (hb (by simp)) (by simp)
def clPairS : List PV -> Heap Kd -> (List PV -> Heap Kd -> Prop) -> Prop := fun ys L k => match ys, L with
 | [x_0], [] => ∃ (l : List Pr), x_0 = .sl _ e_api_Pair l /\ (l.length < 1099511627776) /\ k [.own 0] [.row 139 l]
 | _, _ => False
theorem clPairS_inv {ys : List PV} {L : Heap Kd} {k : List PV -> Heap Kd -> Prop} (h : clPairS ys L k) : ∃ (l : List Pr), ys = [.sl _ e_api_Pair l] /\ L = [] /\ (l.length < 1099511627776) /\ k [.own 0] [.row 139 l] := by
 unfold clPairS at h
 split at h
 ·obtain ⟨a0, q0, hz⟩ := h
  subst q0
  exact ⟨a0, rfl, rfl, hz⟩
 ·exact h.elim
theorem fn_clPair : FnOk Tryz.prog 77 Tryz.f77 (bodyOf Tryz.f77) := ⟨by kernel_rfl, by kernel_rfl, by kernel_rfl⟩
noncomputable def ff_clPair : Fun := ⟨Tryz.f77.ntmps, 0, Tryz.f77.results.toList, fun _ => none, fun _ => false, fun _ => []⟩
theorem nf_clPair (A : KA Kd) (k : List PV -> Heap Kd -> Prop) (l : List Pr) : evT CL0 ff_clPair A k 400 false [.code (bodyOf Tryz.f77)] (startEnv 8 [.sl _ e_api_Pair l]) [] = (∀ (b : Bool), (l ≠ [] -> b = false) -> bif b then k [.own 0] [.row 139 []] else ∃ (zs : List (Int × Int)), List.map e_api_Pair zs = [] /\ ∃ (ys : List (Int × Int)), List.map e_api_Pair ys = List.map e_api_Pair l /\ (zs.length + ys.length) * (TInfo.mk (TD.struct [((0 : Nat), (3 : TypeId)), ((1 : Nat), (3 : TypeId))]) (2 : Nat) (16 : Nat) [PV.int IntKind.i64 0, PV.int IntKind.i64 0] true []).bytes <= 140737488355328 /\ k [.own 0] [.row 139 (zs ++ ys)]) := by kernel_rfl
theorem ok_clPair : FunF B 77 0 clPairS := by
 refine funF_of (N := 8) (f := ff_clPair) env_CL0 mixed fn_clPair (by kernel_rfl) (by kernel_rfl) ?_
 intro A k ys L hA hF
 obtain ⟨l, rfl, rfl, h1, hk⟩ := clPairS_inv hF; clear hF
 refine ⟨by kernel_rfl, (hA.nf (nf_clPair A k l) ?_)⟩
 intro b hb
 cases b with
 | false => exact ⟨[], rfl, l, rfl, by show (0 + l.length) * 16 <= _; omega, hk⟩
 | true =>
  cases l with
  | nil => exact hk
  | cons x r => exact absurd (hb (by simp)) (by simp)
def clActS : List PV -> Heap Kd -> (List PV -> Heap Kd -> Prop) -> Prop := fun ys L k => match ys, L with
 | [x_0], [] => ∃ (l : List Act3), x_0 = .sl _ e_api_Act l /\ (l.length < 1099511627776) /\ k [.own 0] [.row 141 l]
 | _, _ => False
theorem clActS_inv {ys : List PV} {L : Heap Kd} {k : List PV -> Heap Kd -> Prop} (h : clActS ys L k) : ∃ (l : List Act3), ys = [.sl _ e_api_Act l] /\ L = [] /\ (l.length < 1099511627776) /\ k [.own 0] [.row 141 l] := by
 unfold clActS at h
 split at h
 ·obtain ⟨a0, q0, hz⟩ := h
  subst q0
  exact ⟨a0, rfl, rfl, hz⟩
 ·exact h.elim
theorem fn_clAct : FnOk Tryz.prog 78 Tryz.f78 (bodyOf Tryz.f78) := ⟨by kernel_rfl, by kernel_rfl, by kernel_rfl⟩
noncomputable def ff_clAct : Fun := ⟨Tryz.f78.ntmps, 0, Tryz.f78.results.toList, fun _ => none, fun _ => false, fun _ => []⟩
theorem nf_clAct (A : KA Kd) (k : List PV -> Heap Kd -> Prop) (l : List Act3) : evT CL0 ff_clAct A k 400 false [.code (bodyOf Tryz.f78)] (startEnv 8 [.sl _ e_api_Act l]) [] = (∀ (b : Bool), (l ≠ [] -> b = false) -> bif b then k [.own 0] [.row 141 []] else ∃ (zs : List (Int × Int × Int)), List.map e_api_Act zs = [] /\ ∃ (ys : List (Int × Int × Int)), List.map e_api_Act ys = List.map e_api_Act l /\ (zs.length + ys.length) * (TInfo.mk (TD.struct [((0 : Nat), (3 : TypeId)), ((1 : Nat), (3 : TypeId)), ((2 : Nat), (3 : TypeId))]) (3 : Nat) (24 : Nat) [PV.int IntKind.i64 0, PV.int IntKind.i64 0, PV.int IntKind.i64 0] true []).bytes <= 140737488355328 /\ k [.own 0] [.row 141 (zs ++ ys)]) := by kernel_rfl
theorem ok_clAct : FunF B 78 0 clActS := by
 refine funF_of (N := 8) (f := ff_clAct) env_CL0 mixed fn_clAct (by kernel_rfl) (by kernel_rfl) ?_
 intro A k ys L hA hF
 obtain ⟨l, rfl, rfl, h1, hk⟩ := clActS_inv hF; clear hF
 refine ⟨by kernel_rfl, (hA.nf (nf_clAct A k l) ?_)⟩
 intro b hb
 cases b with
 | false => exact ⟨[], rfl, l, rfl, by show (0 + l.length) * 24 <= _; omega, hk⟩
 | true =>
  cases l with
  | nil => exact hk
  | cons x r => exact absurd (hb (by simp)) (by simp)
noncomputable def CL1 := base (fun g => match g with | 140 => some (lift 0 clCellS) | 141 => some (lift 0 clWindowS) | 142 => some (lift 0 clNeedS) | _ => none) (fun _ => none) (fun _ => none)
theorem env_CL1 : EnvOk CL1 := env_of (fun g F h => (by cases h)) (by
 intro g F h
 split at h
 ·cases h; exact (lift_ok ok_clCell)
 ·cases h; exact (lift_ok ok_clWindow)
 ·cases h; exact (lift_ok ok_clNeed)
 ·cases h) (fun g F h => (by cases h))
theorem take_next {α : Type} {l : List α} {i : Nat} {y : α} (h : l[i]? = some y) : l.take i ++ [y] = l.take (i + 1) := by rw [List.take_add_one, h]; rfl
def pCloneS : List PV -> Heap Kd -> (List PV -> Heap Kd -> Prop) -> Prop := fun ys L k => match ys, L with
 | [x_0], [] => ∃ (l : List Prt), x_0 = .sl _ e_api_Partition l /\ (l.length < 1099511627776 /\ (∀ x, x ∈ l -> x.2.2.2.length < 1099511627776)) /\ k [.own 0] [.row 55 l]
 | _, _ => False
theorem pCloneS_inv {ys : List PV} {L : Heap Kd} {k : List PV -> Heap Kd -> Prop} (h : pCloneS ys L k) : ∃ (l : List Prt), ys = [.sl _ e_api_Partition l] /\ L = [] /\ (l.length < 1099511627776 /\ (∀ x, x ∈ l -> x.2.2.2.length < 1099511627776)) /\ k [.own 0] [.row 55 l] := by
 unfold pCloneS at h
 split at h
 ·obtain ⟨a0, q0, hz⟩ := h
  subst q0
  exact ⟨a0, rfl, rfl, hz⟩
 ·exact h.elim
theorem fn_pClone : FnOk Tryz.prog 75 Tryz.f75 (bodyOf Tryz.f75) := ⟨by kernel_rfl, by kernel_rfl, by kernel_rfl⟩
noncomputable def ff_pClone : Fun := ⟨Tryz.f75.ntmps, 0, Tryz.f75.results.toList, fun i => match i with | 3 => some [3, 6, 7, 8] | _ => none, fun _ => false, fun _ => []⟩
theorem nf_pClone_a (A : KA Kd) (k : List PV -> Heap Kd -> Prop) (l : List Prt) : evT CL1 ff_pClone A k 400 false [.code (bodyOf Tryz.f75)] (startEnv 22 [.sl _ e_api_Partition l]) [] = (A (td Tryz.f75 3) (envAt 22 [(3, .own 0), (6, .sl (Int × ByteArray × Bool × List (Int × Bool)) e_api_Partition l), (7, .int .i64 (↑l.length : Int)), (8, .int .i64 0)]) [.row 55 []]) := by kernel_rfl
theorem nf_pClone_b (A : KA Kd) (k : List PV -> Heap Kd -> Prop) (l m : List Prt) (n i : Int) : evT CL1 ff_pClone A k 400 true (td Tryz.f75 3) (envAt 22 [(3, .own 0), (6, .sl _ e_api_Partition l), (7, .int .i64 n), (8, .int .i64 i)]) [.row 55 m] = (bif decide (i < n) then (0 <= i /\ i < (↑l.length : Int)) /\ ∀ (y : Int × ByteArray × Bool × List (Int × Bool)), l[i.toNat]? = some y -> ∃ (l_1 : List Cl), PV.sl (Int × Bool) e_api_Cell y.snd.snd.snd = PV.sl (Int × Bool) e_api_Cell l_1 /\ l_1.length < 1099511627776 /\ ∃ (zs : List (Int × ByteArray × Bool × (List (Int × Bool)))), List.map e_api_Partition zs = [PV.agg [PV.int IntKind.i64 y.fst, PV.str y.snd.fst, PV.bool y.snd.snd.fst, PV.sl (Int × Bool) e_api_Cell l_1]] /\ (m.length + (zs).length) * (TInfo.mk (TD.struct [((0 : Nat), (3 : TypeId)), ((1 : Nat), (9 : TypeId)), ((2 : Nat), (4 : TypeId)), ((3 : Nat), (53 : TypeId))]) (4 : Nat) (56 : Nat) [PV.int IntKind.i64 0, PV.str (ByteArray.mk #[]), PV.bool false, PV.raw nilSlice] true [((3 : Nat), (154 : TypeId))]).bytes <= 140737488355328 /\ A (td Tryz.f75 3) (envAt 22 [(3, .own 0), (6, .sl (Int × ByteArray × Bool × List (Int × Bool)) e_api_Partition l), (7, .int .i64 n), (8, .int .i64 (IntKind.i64.wrap (i + 1)))]) [.row 55 (m ++ zs)]
else k [PV.own (0 : Nat)] [AObj.row (55 : Nat) m]) := by kernel_rfl
theorem ok_pClone : FunF B 75 0 pCloneS := by
 refine funF_of (N := 22) (f := ff_pClone) env_CL1 mixed fn_pClone (by kernel_rfl) (by kernel_rfl) ?_
 intro A k ys L hA hF
 obtain ⟨l, rfl, rfl, ⟨h1, h2⟩, hk⟩ := pCloneS_inv hF; clear hF
 refine ⟨by kernel_rfl, (hA.nf (nf_pClone_a A k l) ?_)⟩
 refine down_loop l (fun i => A (td Tryz.f75 3) (envAt 22 [(3, .own 0), (6, .sl _ e_api_Partition l), (7, .int .i64 (l.length : Int)), (8, .int .i64 (i : Int))]) [.row 55 (l.take i)]) ?_ ?_ 0 (Nat.zero_le _)
 ·refine cast (congrArg (fun z => A (td Tryz.f75 3) (envAt 22 [(3, .own 0), (6, .sl _ e_api_Partition l), (7, .int .i64 (l.length : Int)), (8, .int .i64 ((l.length : Nat) : Int))]) [.row 55 z]) (List.take_length : l.take l.length = l).symm) ?_
  refine (hA.nf (nf_pClone_b A k l l _ _) ?_)
  rw [ilt_false (Nat.lt_irrefl _)]; exact hk
 ·intro i y hy ih
  have hlt := lt_of_get hy
  refine (hA.nf (nf_pClone_b A k l (l.take i) _ _) ?_)
  rw [ilt_true hlt, cond_true]
  have hb : ((l.take i).length + 1) * 56 <= 140737488355328 := by rw [List.length_take]; omega
  have hA2 : A (td Tryz.f75 3) (envAt 22 [(3, .own 0), (6, .sl _ e_api_Partition l), (7, .int .i64 (l.length : Int)), (8, .int .i64 (IntKind.i64.wrap ((i : Int) + 1)))]) [.row 55 (l.take i ++ [y])] := by
   rw [wrap_succ (by omega)]
   exact cast (congrArg (fun z => A (td Tryz.f75 3) (envAt 22 [(3, .own 0), (6, .sl _ e_api_Partition l), (7, .int .i64 (l.length : Int)), (8, .int .i64 ((i + 1 : Nat) : Int))]) [.row 55 z]) (take_next hy).symm) ih
  refine get_at hy ?_
  repeat' first
   | exact hb
   | exact hA2
   | refine ⟨y.2.2.2, rfl, h2 y (List.mem_of_getElem? hy), ?_⟩
   | refine ⟨[y], rfl, ?_, ?_⟩
   | refine ⟨?_, ?_⟩
def sCloneS : List PV -> Heap Kd -> (List PV -> Heap Kd -> Prop) -> Prop := fun ys L k => match ys, L with
 | [x_0], [] => ∃ (l : List Sch), x_0 = .sl _ e_api_Schedule l /\ (l.length < 1099511627776 /\ (∀ x, x ∈ l -> x.2.2.1.length < 1099511627776 /\ x.2.2.2.length < 1099511627776)) /\ k [.own 0] [.row 59 l]
 | _, _ => False
theorem sCloneS_inv {ys : List PV} {L : Heap Kd} {k : List PV -> Heap Kd -> Prop} (h : sCloneS ys L k) : ∃ (l : List Sch), ys = [.sl _ e_api_Schedule l] /\ L = [] /\ (l.length < 1099511627776 /\ (∀ x, x ∈ l -> x.2.2.1.length < 1099511627776 /\ x.2.2.2.length < 1099511627776)) /\ k [.own 0] [.row 59 l] := by
 unfold sCloneS at h
 split at h
 ·obtain ⟨a0, q0, hz⟩ := h
  subst q0
  exact ⟨a0, rfl, rfl, hz⟩
 ·exact h.elim
theorem fn_sClone : FnOk Tryz.prog 76 Tryz.f76 (bodyOf Tryz.f76) := ⟨by kernel_rfl, by kernel_rfl, by kernel_rfl⟩
noncomputable def ff_sClone : Fun := ⟨Tryz.f76.ntmps, 0, Tryz.f76.results.toList, fun i => match i with | 3 => some [3, 6, 7, 8] | _ => none, fun _ => false, fun i => match i with | 5 => [3] | _ => []⟩
theorem nf_sClone_a (A : KA Kd) (k : List PV -> Heap Kd -> Prop) (l : List Sch) : evT CL1 ff_sClone A k 400 false [.code (bodyOf Tryz.f76)] (startEnv 26 [.sl _ e_api_Schedule l]) [] = (A (td Tryz.f76 3) (envAt 26 [(3, .own 0), (6, .sl (Int × Int × List (Int × Int × Int) × List (Int × Int × Int)) e_api_Schedule l), (7, .int .i64 (↑l.length : Int)), (8, .int .i64 0)]) [.row 59 []]) := by kernel_rfl
theorem nf_sClone_b (A : KA Kd) (k : List PV -> Heap Kd -> Prop) (l m : List Sch) (n i : Int) : evT CL1 ff_sClone A k 400 true (td Tryz.f76 3) (envAt 26 [(3, .own 0), (6, .sl _ e_api_Schedule l), (7, .int .i64 n), (8, .int .i64 i)]) [.row 59 m] = (bif decide (i < n) then (0 <= i /\ i < (↑l.length : Int)) /\ ∀ (y : Int × Int × List (Int × Int × Int) × List (Int × Int × Int)), l[i.toNat]? = some y -> ((∃ (l_1 : List W3), PV.sl (Int × Int × Int) e_api_Window y.snd.snd.fst = PV.sl (Int × Int × Int) e_api_Window l_1 /\ l_1.length < 1099511627776 /\ ∃ (l_2 : List W3), PV.sl (Int × Int × Int) e_api_Need y.snd.snd.snd = PV.sl (Int × Int × Int) e_api_Need l_2 /\ l_2.length < 1099511627776 /\ ∃ (zs : List (Int × Int × (List (Int × Int × Int)) × (List (Int × Int × Int)))), List.map e_api_Schedule zs = [PV.agg [PV.int IntKind.i64 y.fst, PV.int IntKind.i64 y.snd.fst, PV.sl (Int × Int × Int) e_api_Window l_1, PV.sl (Int × Int × Int) e_api_Need l_2]] /\ (m.length + (zs).length) * (TInfo.mk (TD.struct [((0 : Nat), (3 : TypeId)), ((1 : Nat), (3 : TypeId)), ((2 : Nat), (56 : TypeId)), ((3 : Nat), (57 : TypeId))]) (4 : Nat) (64 : Nat) [PV.int IntKind.i64 0, PV.int IntKind.i64 0, PV.raw nilSlice, PV.raw nilSlice] true [((2 : Nat), (157 : TypeId)), ((3 : Nat), (159 : TypeId))]).bytes <= 140737488355328 /\ A (td Tryz.f76 3) (envAt 26 [(3, .own 0), (6, .sl (Int × Int × List (Int × Int × Int) × List (Int × Int × Int)) e_api_Schedule l), (7, .int .i64 n), (8, .int .i64 (IntKind.i64.wrap (i + 1)))]) [.row 59 (m ++ zs)]) /\ ∃ (l_1 : List W3), PV.sl (Int × Int × Int) e_api_Window y.snd.snd.fst = PV.sl (Int × Int × Int) e_api_Window l_1 /\ l_1.length < 1099511627776 /\ ∃ (l_2 : List W3), PV.sl (Int × Int × Int) e_api_Need y.snd.snd.snd = PV.sl (Int × Int × Int) e_api_Need l_2 /\ l_2.length < 1099511627776 /\ ∃ (zs : List (Int × Int × (List (Int × Int × Int)) × (List (Int × Int × Int)))), List.map e_api_Schedule zs = [PV.agg [PV.int IntKind.i64 y.fst, PV.int IntKind.i64 y.snd.fst, PV.sl (Int × Int × Int) e_api_Window l_1, PV.sl (Int × Int × Int) e_api_Need l_2]] /\ (m.length + (zs).length) * (TInfo.mk (TD.struct [((0 : Nat), (3 : TypeId)), ((1 : Nat), (3 : TypeId)), ((2 : Nat), (56 : TypeId)), ((3 : Nat), (57 : TypeId))]) (4 : Nat) (64 : Nat) [PV.int IntKind.i64 0, PV.int IntKind.i64 0, PV.raw nilSlice, PV.raw nilSlice] true [((2 : Nat), (157 : TypeId)), ((3 : Nat), (159 : TypeId))]).bytes <= 140737488355328 /\ A (td Tryz.f76 3) (envAt 26 [(3, .own 0), (6, .sl (Int × Int × List (Int × Int × Int) × List (Int × Int × Int)) e_api_Schedule l), (7, .int .i64 n), (8, .int .i64 (IntKind.i64.wrap (i + 1)))]) [.row 59 (m ++ zs)]) /\ ∃ (l_1 : List W3), PV.sl (Int × Int × Int) e_api_Window y.snd.snd.fst = PV.sl (Int × Int × Int) e_api_Window l_1 /\ l_1.length < 1099511627776 /\ ∃ (l_2 : List W3), PV.sl (Int × Int × Int) e_api_Need y.snd.snd.snd = PV.sl (Int × Int × Int) e_api_Need l_2 /\ l_2.length < 1099511627776 /\ ∃ (zs : List (Int × Int × (List (Int × Int × Int)) × (List (Int × Int × Int)))), List.map e_api_Schedule zs = [PV.agg [PV.int IntKind.i64 y.fst, PV.int IntKind.i64 y.snd.fst, PV.sl (Int × Int × Int) e_api_Window l_1, PV.sl (Int × Int × Int) e_api_Need l_2]] /\ (m.length + (zs).length) * (TInfo.mk (TD.struct [((0 : Nat), (3 : TypeId)), ((1 : Nat), (3 : TypeId)), ((2 : Nat), (56 : TypeId)), ((3 : Nat), (57 : TypeId))]) (4 : Nat) (64 : Nat) [PV.int IntKind.i64 0, PV.int IntKind.i64 0, PV.raw nilSlice, PV.raw nilSlice] true [((2 : Nat), (157 : TypeId)), ((3 : Nat), (159 : TypeId))]).bytes <= 140737488355328 /\ A (td Tryz.f76 3) (envAt 26 [(3, .own 0), (6, .sl (Int × Int × List (Int × Int × Int) × List (Int × Int × Int)) e_api_Schedule l), (7, .int .i64 n), (8, .int .i64 (IntKind.i64.wrap (i + 1)))]) [.row 59 (m ++ zs)]
else k [PV.own (0 : Nat)] [AObj.row (59 : Nat) m]) := by kernel_rfl
theorem ok_sClone : FunF B 76 0 sCloneS := by
 refine funF_of (N := 26) (f := ff_sClone) env_CL1 mixed fn_sClone (by kernel_rfl) (by kernel_rfl) ?_
 intro A k ys L hA hF
 obtain ⟨l, rfl, rfl, ⟨h1, h2⟩, hk⟩ := sCloneS_inv hF; clear hF
 refine ⟨by kernel_rfl, (hA.nf (nf_sClone_a A k l) ?_)⟩
 refine down_loop l (fun i => A (td Tryz.f76 3) (envAt 26 [(3, .own 0), (6, .sl _ e_api_Schedule l), (7, .int .i64 (l.length : Int)), (8, .int .i64 (i : Int))]) [.row 59 (l.take i)]) ?_ ?_ 0 (Nat.zero_le _)
 ·refine cast (congrArg (fun z => A (td Tryz.f76 3) (envAt 26 [(3, .own 0), (6, .sl _ e_api_Schedule l), (7, .int .i64 (l.length : Int)), (8, .int .i64 ((l.length : Nat) : Int))]) [.row 59 z]) (List.take_length : l.take l.length = l).symm) ?_
  refine (hA.nf (nf_sClone_b A k l l _ _) ?_)
  rw [ilt_false (Nat.lt_irrefl _)]; exact hk
 ·intro i y hy ih
  have hlt := lt_of_get hy
  refine (hA.nf (nf_sClone_b A k l (l.take i) _ _) ?_)
  rw [ilt_true hlt, cond_true]
  have hb : ((l.take i).length + 1) * 64 <= 140737488355328 := by rw [List.length_take]; omega
  have hA2 : A (td Tryz.f76 3) (envAt 26 [(3, .own 0), (6, .sl _ e_api_Schedule l), (7, .int .i64 (l.length : Int)), (8, .int .i64 (IntKind.i64.wrap ((i : Int) + 1)))]) [.row 59 (l.take i ++ [y])] := by
   rw [wrap_succ (by omega)]
   exact cast (congrArg (fun z => A (td Tryz.f76 3) (envAt 26 [(3, .own 0), (6, .sl _ e_api_Schedule l), (7, .int .i64 (l.length : Int)), (8, .int .i64 ((i + 1 : Nat) : Int))]) [.row 59 z]) (take_next hy).symm) ih
  refine get_at hy ?_
  repeat' first
   | exact hb
   | exact hA2
   | refine ⟨y.2.2.1, rfl, (h2 y (List.mem_of_getElem? hy)).1, ?_⟩
   | refine ⟨y.2.2.2, rfl, (h2 y (List.mem_of_getElem? hy)).2, ?_⟩
   | refine ⟨[y], rfl, ?_, ?_⟩
   | refine ⟨?_, ?_⟩
noncomputable def CL2 := base (fun g => match g with | 77 => some (lift 0 clPairS) | 78 => some (lift 0 clActS) | 75 => some (frzAll B (lift 0 pCloneS)) | 76 => some (frzAll B (lift 0 sCloneS)) | _ => none) (fun _ => none) (fun _ => none)
theorem env_CL2 : EnvOk CL2 := env_of (fun g F h => (by cases h)) (by
 intro g F h
 split at h
 ·cases h; exact (lift_ok ok_clPair)
 ·cases h; exact (lift_ok ok_clAct)
 ·cases h; exact (frzAll_ok (lift_ok ok_pClone))
 ·cases h; exact (frzAll_ok (lift_ok ok_sClone))
 ·cases h) (fun g F h => (by cases h))
theorem fn_iClone : FnOk Tryz.prog 18 Tryz.f18 (bodyOf Tryz.f18) := ⟨by kernel_rfl, by kernel_rfl, by kernel_rfl⟩
noncomputable def ff_iClone : Fun := ⟨Tryz.f18.ntmps, 0, Tryz.f18.results.toList, fun _ => none, fun _ => false, fun i => match i with | 1 => [0] | 2 => [0] | _ => []⟩
def iCloneS : List PV -> Heap Kd -> (List PV -> Heap Kd -> Prop) -> Prop := fun ys L k => match ys, L with
 | [x_0], [] => ∃ (ep : Int), ∃ (fi : Int), ∃ (ps : List Prt), ∃ (ss : List Sch), ∃ (rs : List Pr), ∃ (ac : List Act3), x_0 = .agg [.int .u64 ep, .int .i64 fi, .sl _ e_api_Partition ps, .sl _ e_api_Schedule ss, .sl _ e_api_Pair rs, .sl _ e_api_Act ac] /\ ((ps.length < 1099511627776 /\ ss.length < 1099511627776 /\ rs.length < 1099511627776 /\ ac.length < 1099511627776) /\ (∀ x, x ∈ ps -> x.2.2.2.length < 1099511627776) /\ (∀ x, x ∈ ss -> x.2.2.1.length < 1099511627776 /\ x.2.2.2.length < 1099511627776)) /\ k [.agg [.int .u64 ep, .int .i64 fi, .own 0, .own 1, .own 2, .own 3]] [.row 55 ps, .row 59 ss, .row 139 rs, .row 141 ac]
 | _, _ => False
theorem iCloneS_inv {ys : List PV} {L : Heap Kd} {k : List PV -> Heap Kd -> Prop} (h : iCloneS ys L k) : ∃ (ep : Int) (fi : Int) (ps : List Prt) (ss : List Sch) (rs : List Pr) (ac : List Act3), ys = [.agg [.int .u64 ep, .int .i64 fi, .sl _ e_api_Partition ps, .sl _ e_api_Schedule ss, .sl _ e_api_Pair rs, .sl _ e_api_Act ac]] /\ L = [] /\ ((ps.length < 1099511627776 /\ ss.length < 1099511627776 /\ rs.length < 1099511627776 /\ ac.length < 1099511627776) /\ (∀ x, x ∈ ps -> x.2.2.2.length < 1099511627776) /\ (∀ x, x ∈ ss -> x.2.2.1.length < 1099511627776 /\ x.2.2.2.length < 1099511627776)) /\ k [.agg [.int .u64 ep, .int .i64 fi, .own 0, .own 1, .own 2, .own 3]] [.row 55 ps, .row 59 ss, .row 139 rs, .row 141 ac] := by
 unfold iCloneS at h
 split at h
 ·obtain ⟨a0, a1, a2, a3, a4, a5, q0, hz⟩ := h
  subst q0
  exact ⟨a0, a1, a2, a3, a4, a5, rfl, rfl, hz⟩
 ·exact h.elim
theorem nf_iClone (A : KA Kd) (k : List PV -> Heap Kd -> Prop) (ep fi : Int) (ps : List Prt) (ss : List Sch) (rs : List Pr) (ac : List Act3) : evT CL2 ff_iClone A k 400 false [.code (bodyOf Tryz.f18)] (startEnv 20 [.agg [.int .u64 ep, .int .i64 fi, .sl _ e_api_Partition ps, .sl _ e_api_Schedule ss, .sl _ e_api_Pair rs, .sl _ e_api_Act ac]]) [] = (((∃ (l : List Prt), PV.sl (Int × ByteArray × Bool × List (Int × Bool)) e_api_Partition ps = PV.sl (Int × ByteArray × Bool × List (Int × Bool)) e_api_Partition l /\ (l.length < 1099511627776 /\ ∀ (x : Prt), x ∈ l -> x.snd.snd.snd.length < 1099511627776) /\ ∃ (l_1 : List Sch), PV.sl (Int × Int × List (Int × Int × Int) × List (Int × Int × Int)) e_api_Schedule ss = PV.sl (Int × Int × List (Int × Int × Int) × List (Int × Int × Int)) e_api_Schedule l_1 /\ (l_1.length < 1099511627776 /\ ∀ (x : Sch), x ∈ l_1 -> x.snd.snd.fst.length < 1099511627776 /\ x.snd.snd.snd.length < 1099511627776) /\ ((∃ (l_2 : List Pr), PV.sl (Int × Int) e_api_Pair rs = PV.sl (Int × Int) e_api_Pair l_2 /\ l_2.length < 1099511627776 /\ ∃ (l_3 : List Act3), PV.sl (Int × Int × Int) e_api_Act ac = PV.sl (Int × Int × Int) e_api_Act l_3 /\ l_3.length < 1099511627776 /\ k [.agg [.int .u64 ep, .int .i64 fi, .own 0, .own 1, .own 2, .own 3]] [.row 55 l, .row 59 l_1, .row 139 l_2, .row 141 l_3]) /\ ∃ (l_2 : List Pr), PV.sl (Int × Int) e_api_Pair rs = PV.sl (Int × Int) e_api_Pair l_2 /\ l_2.length < 1099511627776 /\ ∃ (l_3 : List Act3), PV.sl (Int × Int × Int) e_api_Act ac = PV.sl (Int × Int × Int) e_api_Act l_3 /\ l_3.length < 1099511627776 /\ k [.agg [.int .u64 ep, .int .i64 fi, .own 0, .own 1, .own 2, .own 3]] [.row 55 l, .row 59 l_1, .row 139 l_2, .row 141 l_3]) /\ ∃ (l_2 : List Pr), PV.sl (Int × Int) e_api_Pair rs = PV.sl (Int × Int) e_api_Pair l_2 /\ l_2.length < 1099511627776 /\ ∃ (l_3 : List Act3), PV.sl (Int × Int × Int) e_api_Act ac = PV.sl (Int × Int × Int) e_api_Act l_3 /\ l_3.length < 1099511627776 /\ k [.agg [.int .u64 ep, .int .i64 fi, .own 0, .own 1, .own 2, .own 3]] [.row 55 l, .row 59 l_1, .row 139 l_2, .row 141 l_3]) /\ ∃ (l : List Prt), PV.sl (Int × ByteArray × Bool × List (Int × Bool)) e_api_Partition ps = PV.sl (Int × ByteArray × Bool × List (Int × Bool)) e_api_Partition l /\ (l.length < 1099511627776 /\ ∀ (x : Prt), x ∈ l -> x.snd.snd.snd.length < 1099511627776) /\ ∃ (l_1 : List Sch), PV.sl (Int × Int × List (Int × Int × Int) × List (Int × Int × Int)) e_api_Schedule ss = PV.sl (Int × Int × List (Int × Int × Int) × List (Int × Int × Int)) e_api_Schedule l_1 /\ (l_1.length < 1099511627776 /\ ∀ (x : Sch), x ∈ l_1 -> x.snd.snd.fst.length < 1099511627776 /\ x.snd.snd.snd.length < 1099511627776) /\ ((∃ (l_2 : List Pr), PV.sl (Int × Int) e_api_Pair rs = PV.sl (Int × Int) e_api_Pair l_2 /\ l_2.length < 1099511627776 /\ ∃ (l_3 : List Act3), PV.sl (Int × Int × Int) e_api_Act ac = PV.sl (Int × Int × Int) e_api_Act l_3 /\ l_3.length < 1099511627776 /\ k [.agg [.int .u64 ep, .int .i64 fi, .own 0, .own 1, .own 2, .own 3]] [.row 55 l, .row 59 l_1, .row 139 l_2, .row 141 l_3]) /\ ∃ (l_2 : List Pr), PV.sl (Int × Int) e_api_Pair rs = PV.sl (Int × Int) e_api_Pair l_2 /\ l_2.length < 1099511627776 /\ ∃ (l_3 : List Act3), PV.sl (Int × Int × Int) e_api_Act ac = PV.sl (Int × Int × Int) e_api_Act l_3 /\ l_3.length < 1099511627776 /\ k [.agg [.int .u64 ep, .int .i64 fi, .own 0, .own 1, .own 2, .own 3]] [.row 55 l, .row 59 l_1, .row 139 l_2, .row 141 l_3]) /\ ∃ (l_2 : List Pr), PV.sl (Int × Int) e_api_Pair rs = PV.sl (Int × Int) e_api_Pair l_2 /\ l_2.length < 1099511627776 /\ ∃ (l_3 : List Act3), PV.sl (Int × Int × Int) e_api_Act ac = PV.sl (Int × Int × Int) e_api_Act l_3 /\ l_3.length < 1099511627776 /\ k [.agg [.int .u64 ep, .int .i64 fi, .own 0, .own 1, .own 2, .own 3]] [.row 55 l, .row 59 l_1, .row 139 l_2, .row 141 l_3]) /\ ∃ (l : List Prt), PV.sl (Int × ByteArray × Bool × List (Int × Bool)) e_api_Partition ps = PV.sl (Int × ByteArray × Bool × List (Int × Bool)) e_api_Partition l /\ (l.length < 1099511627776 /\ ∀ (x : Prt), x ∈ l -> x.snd.snd.snd.length < 1099511627776) /\ ∃ (l_1 : List Sch), PV.sl (Int × Int × List (Int × Int × Int) × List (Int × Int × Int)) e_api_Schedule ss = PV.sl (Int × Int × List (Int × Int × Int) × List (Int × Int × Int)) e_api_Schedule l_1 /\ (l_1.length < 1099511627776 /\ ∀ (x : Sch), x ∈ l_1 -> x.snd.snd.fst.length < 1099511627776 /\ x.snd.snd.snd.length < 1099511627776) /\ ((∃ (l_2 : List Pr), PV.sl (Int × Int) e_api_Pair rs = PV.sl (Int × Int) e_api_Pair l_2 /\ l_2.length < 1099511627776 /\ ∃ (l_3 : List Act3), PV.sl (Int × Int × Int) e_api_Act ac = PV.sl (Int × Int × Int) e_api_Act l_3 /\ l_3.length < 1099511627776 /\ k [.agg [.int .u64 ep, .int .i64 fi, .own 0, .own 1, .own 2, .own 3]] [.row 55 l, .row 59 l_1, .row 139 l_2, .row 141 l_3]) /\ ∃ (l_2 : List Pr), PV.sl (Int × Int) e_api_Pair rs = PV.sl (Int × Int) e_api_Pair l_2 /\ l_2.length < 1099511627776 /\ ∃ (l_3 : List Act3), PV.sl (Int × Int × Int) e_api_Act ac = PV.sl (Int × Int × Int) e_api_Act l_3 /\ l_3.length < 1099511627776 /\ k [.agg [.int .u64 ep, .int .i64 fi, .own 0, .own 1, .own 2, .own 3]] [.row 55 l, .row 59 l_1, .row 139 l_2, .row 141 l_3]) /\ ∃ (l_2 : List Pr), PV.sl (Int × Int) e_api_Pair rs = PV.sl (Int × Int) e_api_Pair l_2 /\ l_2.length < 1099511627776 /\ ∃ (l_3 : List Act3), PV.sl (Int × Int × Int) e_api_Act ac = PV.sl (Int × Int × Int) e_api_Act l_3 /\ l_3.length < 1099511627776 /\ k [.agg [.int .u64 ep, .int .i64 fi, .own 0, .own 1, .own 2, .own 3]] [.row 55 l, .row 59 l_1, .row 139 l_2, .row 141 l_3]) := by kernel_rfl
theorem ok_iClone : FunF B 18 0 iCloneS := by
 refine funF_of (N := 20) (f := ff_iClone) env_CL2 mixed fn_iClone (by kernel_rfl) (by kernel_rfl) ?_
 intro A k ys L hA hF
 obtain ⟨ep, fi, ps, ss, rs, ac, rfl, rfl, ⟨⟨n1, n2, n3, n4⟩, w1, w2⟩, hk⟩ := iCloneS_inv hF; clear hF
 refine ⟨by kernel_rfl, (hA.nf (nf_iClone A k ep fi ps ss rs ac) ?_)⟩
 repeat' first
  | exact hk
  | refine ⟨ps, rfl, ⟨n1, w1⟩, ?_⟩
  | refine ⟨ss, rfl, ⟨n2, w2⟩, ?_⟩
  | refine ⟨rs, rfl, n3, ?_⟩
  | refine ⟨ac, rfl, n4, ?_⟩
  | refine ⟨?_, ?_⟩
end Go.Ab.T
