import Derived.Test.YtgnhjhdmfhfilaaDoorWSort1
import Derived.Test.YtgnhjhdmfhfilaaDoorSh
set_option linter.unusedVariables false
set_option linter.unusedSimpArgs false
set_option linter.unusedSectionVars false
namespace Go.Ab.T
open Go Go.Ab Go.Proofs
variable [DMode]
set_option maxRecDepth 100000
set_option maxHeartbeats 4000000
def sortWG : Spec Kd := fun ys L Φ => match ys with
  | [.own o, .fn (.func 66) [] []] => match L[o]? with
    | some (.row 37 xs) => xs.length < 2305843009213693952 ∧ Φ [] (L.set o (.row 37 (isort ltW xs))) []
    | _ => False
  | _ => False
theorem fn_sortF : FnOk Tryd.prog 65 Tryd.f65 (bodyOf Tryd.f65) := ⟨by kernel_rfl, by kernel_rfl, by kernel_rfl⟩
noncomputable def ff_sortF : Fun := ⟨Tryd.f65.ntmps, 0, Tryd.f65.results.toList, fun _ => none, fun _ => false, fun _ => []⟩
theorem isort_merge (xs : List Win) : isort ltW xs = xs.mergeSort fun x y => !(ltOf cmpW) y x := by
  have e : ltOf cmpW = ltW := by funext x y; exact cmpW_lt x y
  rw [e]
  refine (isort_unique ltW_sto (List.mergeSort_perm _ _) ?_).symm
  have := List.pairwise_mergeSort (le := fun x y => !ltW y x) (fun a b c h1 h2 => ?_) (fun a b => ?_) xs
  · exact this.imp fun h => by simpa using h
  · simp only [Bool.not_eq_true', Bool.not_eq_eq_eq_not, Bool.not_true] at h1 h2 ⊢
    exact ltW_sto.ntrans c b a h2 h1
  · cases h1 : ltW b a with
    | false => rfl
    | true => rw [ltW_sto.nlt h1]; rfl
theorem ok_sortF : FunG B 65 sortWG := by
  intro X ys L Φ hF η w vs hh hg hv
  unfold sortWG at hF
  split at hF
  · rename_i o
    split at hF
    · rename_i xs hL
      obtain ⟨hlen, hΦ⟩ := hF
      haveI : Inhabited (Kd 37).α := ⟨((0, 0, 0) : Win)⟩
      refine sort_runs (K := Kd) (C := B) Tryd.sortW 3 (by decide) (fun w => Tryd.isAgg37 w) (fun w => Tryd.sizeOf37 w) fn_sortF rfl fn_cmpWf (@ok_cmpWf ⟨true⟩) (e := 37)
        (fun x : Win => [.int .i64 x.1, .int .i64 x.2.1, .int .i64 x.2.2]) (fun x : Win => [.int .i64 x.1, .int .i64 x.2.1, .int .i64 x.2.2]) (fun x => rfl) (fun x M w => ?_) (fun x M w cs h => ?_) cmpW (fun x y Φ h => h) swoW (fun x y h1 h2 => ?_) (fun x => rfl) (fun x v hv => ?_) (by kernel_rfl) (isort ltW) isort_merge hL hlen hh hg hv hΦ
      · exact ⟨_, _, rfl, ⟨rfl, rfl⟩, rfl, _, _, rfl, ⟨rfl, rfl⟩, rfl, _, _, rfl, ⟨rfl, rfl⟩, rfl, rfl⟩
      · obtain ⟨a, b, rfl, _, h1, c, d, rfl, _, h2, e, f, rfl, _, h3, h4⟩ := h
        have h4 : f = [] := h4
        subst h4
        have h1 : [a] = [_] := h1
        have h2 : [c] = [_] := h2
        have h3 : [e] = [_] := h3
        rw [List.cons.inj h1 |>.1, List.cons.inj h2 |>.1, List.cons.inj h3 |>.1]
      · exact ltW_sto.tot x y ((cmpW_lt x y).symm.trans h1) ((cmpW_lt y x).symm.trans h2)
      · simp only [List.mem_cons, List.not_mem_nil, or_false] at hv
        rcases hv with rfl | rfl | rfl <;> rfl
    · exact hF.elim
  · exact hF.elim
noncomputable def WS1 := base (fun g => match g with | 133 => some (lift 0 namesF) | 106 => some (lift 0 namesF) | 64 => some (lift 0 cloneWS) | 65 => some sortWG | _ => none) (fun g => match g with | 80 => some nanS | 43 => some cmpIS | 42 => some orS | 23 => some ofS | 83 => some nameS | 103 => some nameS | 48 => some newS | 50 => some atS | 71 => some inS | 107 => some idxIS | 84 => some hasIS | 85 => some fitsS | 49 => some wrongS | 17 => some CheckS | 16 => some trueS | 66 => some cmpWS | 67 => some ltWS | 27 => some sameWS | 19 => some touchS | _ => none) (fun _ => none)
theorem env_WS1 : EnvOk WS1 := env_of (by
    intro g F h
    split at h
    · cases h; exact ok_nanI
    · cases h; exact ok_cmpI
    · cases h; exact ok_orF
    · cases h; exact of_ok
    · cases h; exact ok_Name
    · cases h; exact ok_rName
    · cases h; exact ok_New
    · cases h; exact ok_At
    · cases h; exact ok_In
    · cases h; exact ok_idxI
    · cases h; exact ok_cont
    · cases h; exact ok_fits
    · cases h; exact ok_wrong
    · cases h; exact ok_Check
    · cases h; exact ok_awake13
    · cases h; exact ok_cmpWf
    · cases h; exact ok_ltWf
    · cases h; exact ok_sameW
    · cases h; exact ok_touchW
    · cases h) (by
    intro g F h
    split at h
    · cases h; exact (lift_ok ok_rnames)
    · cases h; exact (lift_ok ok_names)
    · cases h; exact (lift_ok ok_cloneW)
    · cases h; exact ok_sortF
    · cases h) (fun g F h => (by cases h))
def winSortS : List PV → Heap Kd → (List PV → Heap Kd → Prop) → Prop := fun ys L k => match ys, L with
  | [x_0], [] => ∃ (l : List Win), x_0 = .sl _ e_api_Window l ∧ (l.length < 100000) ∧ k [.own 0] [.row 37 (isort ltW l)]
  | _, _ => False
theorem winSortS_inv {ys : List PV} {L : Heap Kd} {k : List PV → Heap Kd → Prop} (h : winSortS ys L k) : ∃ (l : List Win), ys = [.sl _ e_api_Window l] ∧ L = [] ∧ (l.length < 100000) ∧ k [.own 0] [.row 37 (isort ltW l)] := by
  unfold winSortS at h
  split at h
  · obtain ⟨a0, q0, hz⟩ := h
    subst q0
    exact ⟨a0, rfl, rfl, hz⟩
  · exact h.elim
theorem fn_winSort : FnOk Tryd.prog 28 Tryd.f28 (bodyOf Tryd.f28) := ⟨by kernel_rfl, by kernel_rfl, by kernel_rfl⟩
noncomputable def ff_winSort : Fun := ⟨Tryd.f28.ntmps, 0, Tryd.f28.results.toList, fun _ => none, fun _ => false, fun _ => []⟩
theorem nf_winSort (A : KA Kd) (k : List PV → Heap Kd → Prop) (l : List Win) : evT WS1 ff_winSort A k 400 false [.code (bodyOf Tryd.f28)] (startEnv 9 [.sl _ e_api_Window l]) [] = (∃ (l_1 : List Win), PV.sl (Int × Int × Int) e_api_Window l = PV.sl (Int × Int × Int) e_api_Window l_1 ∧ l_1.length < (1099511627776 : Nat) ∧ l_1.length < (2305843009213693952 : Nat) ∧ k [PV.own (0 : Nat)] [AObj.row (37 : Nat) (isort ltW l_1)]) := by kernel_rfl
theorem ok_winSort : FunF B 28 0 winSortS := by
  refine funF_of (N := 9) (f := ff_winSort) env_WS1 mixed fn_winSort (by kernel_rfl) (by kernel_rfl) ?_
  intro A k ys L hA hF
  obtain ⟨l, rfl, rfl, h1, hk⟩ := winSortS_inv hF; clear hF
  refine ⟨by kernel_rfl, (hA.nf (nf_winSort A k l) ?_)⟩
  exact ⟨l, rfl, by omega, by omega, hk⟩
theorem fn_rSort13 : FnOk Tryd.prog 29 Tryd.f29 (bodyOf Tryd.f29) := ⟨by kernel_rfl, by kernel_rfl, by kernel_rfl⟩
noncomputable def ff_rSort13 : Fun := ⟨Tryd.f29.ntmps, 0, Tryd.f29.results.toList, fun i => match i with | 8 => some [0, 3, 4, 5, 6, 7] | 3 => some [0, 3, 4] | _ => none, fun _ => false, fun _ => []⟩
theorem nf_rSort_a (A : KA Kd) (k : List PV → Heap Kd → Prop) (l : List Win) : evT WS1 ff_rSort13 A k 400 false [.code (bodyOf Tryd.f29)] (startEnv 60 [.sl _ e_api_Window l]) [] = (∃ (zs : List (Int × Int × Int)), List.map e_api_Window zs = [] ∧ A (td Tryd.f29 (3 : Nat)) (envAt (60 : Nat) [((0 : Nat), PV.sl (Int × Int × Int) e_api_Window l), ((3 : Nat), PV.own (0 : Nat)), ((4 : Nat), PV.int IntKind.i64 (0 : Int))]) [AObj.row (37 : Nat) zs]) := by kernel_rfl
theorem nf_rSort_b (A : KA Kd) (k : List PV → Heap Kd → Prop) (l acc : List Win) (i : Int) : evT WS1 ff_rSort13 A k 400 true (td Tryd.f29 3) (envAt 60 [(0, .sl _ e_api_Window l), (3, .own 0), (4, .int .i64 i)]) [.row 37 acc] = (bif decide (i < (↑l.length : Int)) then ∃ (zs : List (Int × Int × Int)), List.map e_api_Window zs = [] ∧ A (td Tryd.f29 (8 : Nat)) (envAt (60 : Nat) [((0 : Nat), PV.sl (Int × Int × Int) e_api_Window l), ((3 : Nat), PV.own (0 : Nat)), ((4 : Nat), PV.int IntKind.i64 i), ((5 : Nat), PV.own (1 : Nat)), ((6 : Nat), PV.bool false), ((7 : Nat), PV.int IntKind.i64 (0 : Int))]) [AObj.row (37 : Nat) acc, AObj.row (37 : Nat) zs]
else k [PV.own (0 : Nat)] [AObj.row (37 : Nat) acc]) := by kernel_rfl
theorem nf_rSort_c (A : KA Kd) (k : List PV → Heap Kd → Prop) (l acc nx : List Win) (i j : Int) (d : Bool) : evT WS1 ff_rSort13 A k 400 true (td Tryd.f29 8) (envAt 60 [(0, .sl _ e_api_Window l), (3, .own 0), (4, .int .i64 i), (5, .own 1), (6, .bool d), (7, .int .i64 j)]) [.row 37 acc, .row 37 nx] = (bif decide (j < (↑acc.length : Int)) then bif !d then ((0 : Int) ≤ i ∧ i < (↑l.length : Int)) ∧ ∀ (y : Int × Int × Int), l[i.toNat]? = some y → ((0 : Int) ≤ j ∧ j < (↑acc.length : Int)) ∧ ∀ (y_1 : (Int × Int × Int)), acc[j.toNat]? = some y_1 → bif ltW (y.fst, y.snd.fst, y.snd.snd) (y_1.fst, y_1.snd.fst, y_1.snd.snd) then ((0 : Int) ≤ i ∧ i < (↑l.length : Int)) ∧ ∀ (y : Int × Int × Int), l[i.toNat]? = some y → ∃ (zs : List (Int × Int × Int)), List.map e_api_Window zs = [PV.agg [PV.int IntKind.i64 y.fst, PV.int IntKind.i64 y.snd.fst, PV.int IntKind.i64 y.snd.snd]] ∧ (nx.length + (zs).length) * (TInfo.mk (TD.struct [((0 : Nat), (3 : TypeId)), ((1 : Nat), (3 : TypeId)), ((2 : Nat), (3 : TypeId))]) (3 : Nat) (24 : Nat) [PV.int IntKind.i64 (0 : Int), PV.int IntKind.i64 (0 : Int), PV.int IntKind.i64 (0 : Int)] true []).bytes ≤ (140737488355328 : Nat) ∧ ((0 : Int) ≤ j ∧ j < (↑acc.length : Int)) ∧ ∀ (y : (Int × Int × Int)), acc[j.toNat]? = some y → ∃ (zs_1 : List (Int × Int × Int)), List.map e_api_Window zs_1 = [PV.agg [PV.int IntKind.i64 y.fst, PV.int IntKind.i64 y.snd.fst, PV.int IntKind.i64 y.snd.snd]] ∧ ((nx ++ zs).length + (zs_1).length) * (TInfo.mk (TD.struct [((0 : Nat), (3 : TypeId)), ((1 : Nat), (3 : TypeId)), ((2 : Nat), (3 : TypeId))]) (3 : Nat) (24 : Nat) [PV.int IntKind.i64 (0 : Int), PV.int IntKind.i64 (0 : Int), PV.int IntKind.i64 (0 : Int)] true []).bytes ≤ (140737488355328 : Nat) ∧ A (td Tryd.f29 (8 : Nat)) (envAt (60 : Nat) [((0 : Nat), PV.sl (Int × Int × Int) e_api_Window l), ((3 : Nat), PV.own (0 : Nat)), ((4 : Nat), PV.int IntKind.i64 i), ((5 : Nat), PV.own (1 : Nat)), ((6 : Nat), PV.bool true), ((7 : Nat), PV.int IntKind.i64 (IntKind.i64.wrap (j + (1 : Int))))]) [AObj.row (37 : Nat) acc, AObj.row (37 : Nat) ((nx ++ zs) ++ zs_1)] else ((0 : Int) ≤ j ∧ j < (↑acc.length : Int)) ∧ ∀ (y : (Int × Int × Int)), acc[j.toNat]? = some y → ∃ (zs : List (Int × Int × Int)), List.map e_api_Window zs = [PV.agg [PV.int IntKind.i64 y.fst, PV.int IntKind.i64 y.snd.fst, PV.int IntKind.i64 y.snd.snd]] ∧ (nx.length + (zs).length) * (TInfo.mk (TD.struct [((0 : Nat), (3 : TypeId)), ((1 : Nat), (3 : TypeId)), ((2 : Nat), (3 : TypeId))]) (3 : Nat) (24 : Nat) [PV.int IntKind.i64 (0 : Int), PV.int IntKind.i64 (0 : Int), PV.int IntKind.i64 (0 : Int)] true []).bytes ≤ (140737488355328 : Nat) ∧ A (td Tryd.f29 (8 : Nat)) (envAt (60 : Nat) [((0 : Nat), PV.sl (Int × Int × Int) e_api_Window l), ((3 : Nat), PV.own (0 : Nat)), ((4 : Nat), PV.int IntKind.i64 i), ((5 : Nat), PV.own (1 : Nat)), ((6 : Nat), PV.bool d), ((7 : Nat), PV.int IntKind.i64 (IntKind.i64.wrap (j + (1 : Int))))]) [AObj.row (37 : Nat) acc, AObj.row (37 : Nat) (nx ++ zs)] else ((0 : Int) ≤ j ∧ j < (↑acc.length : Int)) ∧ ∀ (y : (Int × Int × Int)), acc[j.toNat]? = some y → ∃ (zs : List (Int × Int × Int)), List.map e_api_Window zs = [PV.agg [PV.int IntKind.i64 y.fst, PV.int IntKind.i64 y.snd.fst, PV.int IntKind.i64 y.snd.snd]] ∧ (nx.length + (zs).length) * (TInfo.mk (TD.struct [((0 : Nat), (3 : TypeId)), ((1 : Nat), (3 : TypeId)), ((2 : Nat), (3 : TypeId))]) (3 : Nat) (24 : Nat) [PV.int IntKind.i64 (0 : Int), PV.int IntKind.i64 (0 : Int), PV.int IntKind.i64 (0 : Int)] true []).bytes ≤ (140737488355328 : Nat) ∧ A (td Tryd.f29 (8 : Nat)) (envAt (60 : Nat) [((0 : Nat), PV.sl (Int × Int × Int) e_api_Window l), ((3 : Nat), PV.own (0 : Nat)), ((4 : Nat), PV.int IntKind.i64 i), ((5 : Nat), PV.own (1 : Nat)), ((6 : Nat), PV.bool d), ((7 : Nat), PV.int IntKind.i64 (IntKind.i64.wrap (j + (1 : Int))))]) [AObj.row (37 : Nat) acc, AObj.row (37 : Nat) (nx ++ zs)]
else bif !d then ((0 : Int) ≤ i ∧ i < (↑l.length : Int)) ∧ ∀ (y : Int × Int × Int), l[i.toNat]? = some y → ∃ (zs : List (Int × Int × Int)), List.map e_api_Window zs = [PV.agg [PV.int IntKind.i64 y.fst, PV.int IntKind.i64 y.snd.fst, PV.int IntKind.i64 y.snd.snd]] ∧ (nx.length + (zs).length) * (TInfo.mk (TD.struct [((0 : Nat), (3 : TypeId)), ((1 : Nat), (3 : TypeId)), ((2 : Nat), (3 : TypeId))]) (3 : Nat) (24 : Nat) [PV.int IntKind.i64 (0 : Int), PV.int IntKind.i64 (0 : Int), PV.int IntKind.i64 (0 : Int)] true []).bytes ≤ (140737488355328 : Nat) ∧ A (td Tryd.f29 (3 : Nat)) (envAt (60 : Nat) [((0 : Nat), PV.sl (Int × Int × Int) e_api_Window l), ((3 : Nat), PV.own (0 : Nat)), ((4 : Nat), PV.int IntKind.i64 (IntKind.i64.wrap (i + (1 : Int))))]) [AObj.row (37 : Nat) (nx ++ zs)] else A (td Tryd.f29 (3 : Nat)) (envAt (60 : Nat) [((0 : Nat), PV.sl (Int × Int × Int) e_api_Window l), ((3 : Nat), PV.own (0 : Nat)), ((4 : Nat), PV.int IntKind.i64 (IntKind.i64.wrap (i + (1 : Int))))]) [AObj.row (37 : Nat) nx]) := by kernel_rfl
def rSort13S : List PV → Heap Kd → (List PV → Heap Kd → Prop) → Prop := fun ys L k => match ys, L with
  | [x_0], [] => ∃ (l : List Win), x_0 = .sl _ e_api_Window l ∧ (l.length < 100000) ∧ k [.own 0] [.row 37 (isort ltW l)]
  | _, _ => False
theorem rSort13S_inv {ys : List PV} {L : Heap Kd} {k : List PV → Heap Kd → Prop} (h : rSort13S ys L k) : ∃ (l : List Win), ys = [.sl _ e_api_Window l] ∧ L = [] ∧ (l.length < 100000) ∧ k [.own 0] [.row 37 (isort ltW l)] := by
  unfold rSort13S at h
  split at h
  · obtain ⟨a0, q0, hz⟩ := h
    subst q0
    exact ⟨a0, rfl, rfl, hz⟩
  · exact h.elim
theorem rSort_in (A : KA Kd) (k : List PV → Heap Kd → Prop) (hA : Closed WS1 ff_rSort13 k A) (l acc : List Win) (i : Nat) (x : Win) (hx : l[i]? = some x) (hi : i < 100000) (hacc : acc.length < 100000)
    (hout : A (td Tryd.f29 3) (envAt 60 [(0, .sl _ e_api_Window l), (3, .own 0), (4, .int .i64 ((i + 1 : Nat) : Int))]) [.row 37 (insB ltW x acc)]) :
    A (td Tryd.f29 8) (envAt 60 [(0, .sl _ e_api_Window l), (3, .own 0), (4, .int .i64 (i : Int)), (5, .own 1), (6, .bool false), (7, .int .i64 0)]) [.row 37 acc, .row 37 ([] : List Win)] := by
  refine down_loop acc (fun j => ∀ (d : Bool) (n : List Win), n.length ≤ 2 * j + 1 → n ++ (bif d then acc.drop j else insB ltW x (acc.drop j)) = insB ltW x acc → A (td Tryd.f29 8) (envAt 60 [(0, .sl _ e_api_Window l), (3, .own 0), (4, .int .i64 (i : Int)), (5, .own 1), (6, .bool d), (7, .int .i64 (j : Int))]) [.row 37 acc, .row 37 n]) ?_ ?_ 0 (Nat.zero_le _) false [] (by decide) rfl
  · intro d n hn h
    refine (hA.nf (nf_rSort_c A k l acc n _ _ d) ?_)
    rw [ilt_false (Nat.lt_irrefl _), cond_false, wrap_succ (by omega)]
    rw [List.drop_length] at h
    cases d with
    | true =>
      rw [cond_true, List.append_nil] at h
      rw [Bool.not_true, cond_false, h]
      exact hout
    | false =>
      rw [cond_false] at h
      rw [Bool.not_false, cond_true]
      refine get_at hx ⟨[x], rfl, by show (n.length + 1) * 24 ≤ _; omega, ?_⟩
      have h : n ++ [x] = insB ltW x acc := h
      rw [h]
      exact hout
  · intro j y hy ih d n hn h
    have hlt := lt_of_get hy
    refine (hA.nf (nf_rSort_c A k l acc n _ _ d) ?_)
    rw [ilt_true hlt, cond_true, wrap_succ (by omega)]
    rw [drop_cons' hy] at h
    cases d with
    | true =>
      rw [cond_true] at h
      rw [Bool.not_true, cond_false]
      exact get_at hy ⟨[y], rfl, by show (n.length + 1) * 24 ≤ _; omega, ih true (n ++ [y]) (by rw [List.length_append, List.length_singleton]; omega) (by rw [← h, List.append_assoc]; rfl)⟩
    | false =>
      rw [cond_false, insB] at h
      rw [Bool.not_false, cond_true]
      refine get_at hx (get_at hy ?_)
      rw [show ltW (x.fst, x.snd.fst, x.snd.snd) (y.fst, y.snd.fst, y.snd.snd) = ltW x y from rfl]
      cases c : ltW x y with
      | true =>
        rw [c, cond_true] at h
        rw [cond_true]
        exact get_at hx ⟨[x], rfl, by show (n.length + 1) * 24 ≤ _; omega, get_at hy ⟨[y], rfl, by show ((n ++ [x]).length + 1) * 24 ≤ _; rw [List.length_append, List.length_singleton]; omega, ih true (n ++ [x] ++ [y]) (by rw [List.length_append, List.length_append, List.length_singleton, List.length_singleton]; omega) (by rw [← h, List.append_assoc, List.append_assoc]; rfl)⟩⟩
      | false =>
        rw [c, cond_false] at h
        rw [cond_false]
        exact get_at hy ⟨[y], rfl, by show (n.length + 1) * 24 ≤ _; omega, ih false (n ++ [y]) (by rw [List.length_append, List.length_singleton]; omega) (by rw [← h, List.append_assoc]; rfl)⟩
theorem ok_rSort13 : FunF B 29 0 rSort13S := by
  refine funF_of (N := 60) (f := ff_rSort13) env_WS1 mixed fn_rSort13 (by kernel_rfl) (by kernel_rfl) ?_
  intro A k ys L hA hF
  obtain ⟨l, rfl, rfl, hl, hk⟩ := rSort13S_inv hF; clear hF
  refine ⟨by kernel_rfl, (hA.nf (nf_rSort_a A k l) ?_)⟩
  refine ⟨[], rfl, ?_⟩
  refine down_loop l (fun i => ∀ acc : List Win, acc.length = i → (l.drop i).foldl (fun acc x => insB ltW x acc) acc = isort ltW l → A (td Tryd.f29 3) (envAt 60 [(0, .sl _ e_api_Window l), (3, .own 0), (4, .int .i64 (i : Int))]) [.row 37 acc]) ?_ ?_ 0 (Nat.zero_le _) [] rfl rfl
  · intro acc _ h
    refine (hA.nf (nf_rSort_b A k l acc _) ?_)
    rw [ilt_false (Nat.lt_irrefl _), cond_false]
    rw [List.drop_length] at h
    have h : acc = isort ltW l := h
    subst h
    exact hk
  · intro i y hy ih acc hacc h
    have hlt := lt_of_get hy
    refine (hA.nf (nf_rSort_b A k l acc _) ?_)
    rw [ilt_true hlt, cond_true]
    rw [drop_cons' hy, List.foldl_cons] at h
    exact ⟨[], rfl, rSort_in A k hA l acc i y hy (by omega) (by omega) (ih (insB ltW y acc) (by rw [(insB_perm y acc).length_eq, List.length_cons, hacc]) h)⟩
end Go.Ab.T
