import Derived.Test.YtgnhjhdmfhfilaaDoorPut2
import Derived.Test.YtgnhjhdmfhfilaaDoorReader
import Derived.Test.YtgnhjhdmfhfilaaDoorMaB
import Derived.Test.YtgnhjhdmfhfilaaDoorAbC
set_option linter.unusedVariables false
set_option linter.unusedSimpArgs false
namespace Go.Ab.T
open Go Go.Ab Go.Proofs
set_option maxRecDepth 100000
set_option maxHeartbeats 4000000
noncomputable def PE0 := base (fun g => match g with | 133 => some (lift 0 namesF) | 106 => some (lift 0 namesF) | 62 => some (lift 0 cloneS) | 63 => some (eitherOwn (lift 1 putIS) (lift 0 putS)) | 33 => some (lift 0 NewS) | 73 => some (lift 1 EnterS) | 101 => some (lift 1 FailS) | 76 => some (lift 1 NeedS) | 74 => some (lift 1 ErrS) | 100 => some (lift 1 numberS) | 75 => some (lift 1 U8S) | _ => none) (fun g => match g with | 83 => some nameS | 103 => some nameS | 48 => some newS | 50 => some atS | 71 => some inS | 89 => some sizeS | 132 => some rSizeS | 58 => some getS | 102 => some getS | 61 => some fitsS | 23 => some ofS | 39 => some PlaceS | 37 => some LeftS | _ => none) (fun _ => none)
theorem env_PE0 : EnvOk PE0 := env_of (by
    intro g F h
    split at h
    · cases h; exact ok_Name
    · cases h; exact ok_rName
    · cases h; exact ok_New
    · cases h; exact ok_At
    · cases h; exact ok_In
    · cases h; exact ok_size
    · cases h; exact ok_rSize
    · cases h; exact ok_Get
    · cases h; exact ok_rGet
    · cases h; exact ok_fits
    · cases h; exact of_ok
    · cases h; exact ok_Place
    · cases h; exact ok_Left
    · cases h) (by
    intro g F h
    split at h
    · cases h; exact (lift_ok ok_rnames)
    · cases h; exact (lift_ok ok_names)
    · cases h; exact (lift_ok ok_clone)
    · cases h; exact (eitherOwn_ok (lift_ok ok_putI) (lift_ok ok_put))
    · cases h; exact (lift_ok ok_rNew)
    · cases h; exact (lift_ok ok_Enter)
    · cases h; exact (lift_ok ok_Fail)
    · cases h; exact (lift_ok ok_Need)
    · cases h; exact (lift_ok ok_rErr)
    · cases h; exact (lift_ok ok_number)
    · cases h; exact (lift_ok ok_U8)
    · cases h) (fun g F h => (by cases h))
def nanS : SpecS := fun ys Φ => match ys with
  | [.int .i64 v] => Φ [.bool false]
  | _ => False
theorem nanS_mono : MonoS nanS := by
  intro ys Φ Ψ h hF
  unfold nanS at hF ⊢
  split at hF
  · exact h _ hF
  · exact hF.elim
theorem nanS_inv {ys : List PV} {Φ : List PV → Prop} (h : nanS ys Φ) : ∃ (v : Int), ys = [.int .i64 v] ∧ Φ [.bool false] := by
  unfold nanS at h
  split at h
  · exact ⟨_, rfl, h⟩
  · exact h.elim
theorem fn_nanI : FnOk Tryd.prog 80 Tryd.f80 (bodyOf Tryd.f80) := ⟨by kernel_rfl, by kernel_rfl, by kernel_rfl⟩
noncomputable def ff_nanI : Fun := ⟨Tryd.f80.ntmps, 0, Tryd.f80.results.toList, fun _ => none, fun _ => false, fun _ => []⟩
theorem nf_nanI (A : KA Kd) (k : List PV → Heap Kd → Prop) (v : Int) : evT PE0 ff_nanI A k 400 false [.code (bodyOf Tryd.f80)] (startEnv 6 [.int .i64 v]) [] = (k [PV.bool (v != v)] []) := by kernel_rfl
theorem ok_nanI : FunS B 80 nanS := by
  refine funS_of (N := 6) (f := ff_nanI) env_PE0 mixed fn_nanI (by kernel_rfl) (by kernel_rfl) (by kernel_rfl) nanS_mono ?_
  intro A k ys hA hF
  obtain ⟨v, rfl, hk⟩ := nanS_inv hF; clear hF
  refine ⟨by kernel_rfl, (hA.nf (nf_nanI A k v) ?_)⟩
  rw [bne_self_eq_false]; exact hk
noncomputable def PE1 := base (fun g => match g with | 133 => some (lift 0 namesF) | 106 => some (lift 0 namesF) | 62 => some (lift 0 cloneS) | 63 => some (eitherOwn (lift 1 putIS) (lift 0 putS)) | 33 => some (lift 0 NewS) | 73 => some (lift 1 EnterS) | 101 => some (lift 1 FailS) | 76 => some (lift 1 NeedS) | 74 => some (lift 1 ErrS) | 100 => some (lift 1 numberS) | 75 => some (lift 1 U8S) | _ => none) (fun g => match g with | 83 => some nameS | 103 => some nameS | 48 => some newS | 50 => some atS | 71 => some inS | 89 => some sizeS | 132 => some rSizeS | 58 => some getS | 102 => some getS | 61 => some fitsS | 23 => some ofS | 39 => some PlaceS | 37 => some LeftS | 80 => some nanS | _ => none) (fun _ => none)
theorem env_PE1 : EnvOk PE1 := env_of (by
    intro g F h
    split at h
    · cases h; exact ok_Name
    · cases h; exact ok_rName
    · cases h; exact ok_New
    · cases h; exact ok_At
    · cases h; exact ok_In
    · cases h; exact ok_size
    · cases h; exact ok_rSize
    · cases h; exact ok_Get
    · cases h; exact ok_rGet
    · cases h; exact ok_fits
    · cases h; exact of_ok
    · cases h; exact ok_Place
    · cases h; exact ok_Left
    · cases h; exact ok_nanI
    · cases h) (by
    intro g F h
    split at h
    · cases h; exact (lift_ok ok_rnames)
    · cases h; exact (lift_ok ok_names)
    · cases h; exact (lift_ok ok_clone)
    · cases h; exact (eitherOwn_ok (lift_ok ok_putI) (lift_ok ok_put))
    · cases h; exact (lift_ok ok_rNew)
    · cases h; exact (lift_ok ok_Enter)
    · cases h; exact (lift_ok ok_Fail)
    · cases h; exact (lift_ok ok_Need)
    · cases h; exact (lift_ok ok_rErr)
    · cases h; exact (lift_ok ok_number)
    · cases h; exact (lift_ok ok_U8)
    · cases h) (fun g F h => (by cases h))
def cmpIS : SpecS := fun ys Φ => match ys with
  | [.int .i64 a, .int .i64 b] => Φ [.int .i64 (cmpI a b)]
  | _ => False
theorem cmpIS_mono : MonoS cmpIS := by
  intro ys Φ Ψ h hF
  unfold cmpIS at hF ⊢
  split at hF
  · exact h _ hF
  · exact hF.elim
theorem cmpIS_inv {ys : List PV} {Φ : List PV → Prop} (h : cmpIS ys Φ) : ∃ (a : Int) (b : Int), ys = [.int .i64 a, .int .i64 b] ∧ Φ [.int .i64 (cmpI a b)] := by
  unfold cmpIS at h
  split at h
  · exact ⟨_, _, rfl, h⟩
  · exact h.elim
theorem fn_cmpI : FnOk Tryd.prog 43 Tryd.f43 (bodyOf Tryd.f43) := ⟨by kernel_rfl, by kernel_rfl, by kernel_rfl⟩
noncomputable def ff_cmpI : Fun := ⟨Tryd.f43.ntmps, 0, Tryd.f43.results.toList, fun _ => none, fun _ => false, fun _ => []⟩
theorem nf_cmpI (A : KA Kd) (k : List PV → Heap Kd → Prop) (a b : Int) : evT PE1 ff_cmpI A k 400 false [.code (bodyOf Tryd.f43)] (startEnv 20 [.int .i64 a, .int .i64 b]) [] = (bif decide (a < b) then k [PV.int IntKind.i64 (-1 : Int)] []
else bif decide (a > b) then k [PV.int IntKind.i64 (1 : Int)] [] else k [PV.int IntKind.i64 (0 : Int)] []) := by kernel_rfl
theorem ok_cmpI : FunS B 43 cmpIS := by
  refine funS_of (N := 20) (f := ff_cmpI) env_PE1 mixed fn_cmpI (by kernel_rfl) (by kernel_rfl) (by kernel_rfl) cmpIS_mono ?_
  intro A k ys hA hF
  obtain ⟨a, b, rfl, hk⟩ := cmpIS_inv hF; clear hF
  refine ⟨by kernel_rfl, (hA.nf (nf_cmpI A k a b) ?_)⟩
  unfold cmpI at hk
  cases h : decide (a < b) with
  | true => rw [h] at hk; exact hk
  | false =>
    rw [h] at hk
    cases h2 : decide (a > b) with
    | true => rw [h2] at hk; exact hk
    | false => rw [h2] at hk; exact hk
def orS : SpecS := fun ys Φ => match ys with
  | [x_0] => ∃ (l : List Int), x_0 = .sl _ e_int l ∧ (l.length < 4611686018427387904) ∧ Φ [.int .i64 (orV l)]
  | _ => False
theorem orS_mono : MonoS orS := by
  intro ys Φ Ψ h hF
  unfold orS at hF ⊢
  split at hF
  · obtain ⟨a0, q0, hp, hk⟩ := hF; exact ⟨a0, q0, hp, h _ hk⟩
  · exact hF.elim
theorem orS_inv {ys : List PV} {Φ : List PV → Prop} (h : orS ys Φ) : ∃ (l : List Int), ys = [.sl _ e_int l] ∧ (l.length < 4611686018427387904) ∧ Φ [.int .i64 (orV l)] := by
  unfold orS at h
  split at h
  · obtain ⟨a0, q0, hz⟩ := h
    subst q0
    exact ⟨a0, rfl, hz⟩
  · exact h.elim
theorem fn_orF : FnOk Tryd.prog 42 Tryd.f42 (bodyOf Tryd.f42) := ⟨by kernel_rfl, by kernel_rfl, by kernel_rfl⟩
noncomputable def ff_orF : Fun := ⟨Tryd.f42.ntmps, 0, Tryd.f42.results.toList, fun i => match i with | 3 => some [3, 6, 7, 8] | _ => none, fun _ => false, fun _ => []⟩
theorem nf_orF_a (A : KA Kd) (k : List PV → Heap Kd → Prop) (l : List Int) : evT PE1 ff_orF A k 400 false [.code (bodyOf Tryd.f42)] (startEnv 18 [.sl _ e_int l]) [] = (A (td Tryd.f42 (3 : Nat)) (envAt (18 : Nat) [((3 : Nat), PV.int IntKind.i64 (0 : Int)), ((6 : Nat), PV.sl Int e_int l), ((7 : Nat), PV.int IntKind.i64 (↑l.length : Int)), ((8 : Nat), PV.int IntKind.i64 (0 : Int))]) []) := by kernel_rfl
theorem nf_orF_b (A : KA Kd) (k : List PV → Heap Kd → Prop) (l : List Int) (n i : Int) : evT PE1 ff_orF A k 400 true (td Tryd.f42 3) (envAt 18 [(3, .int .i64 0), (6, .sl _ e_int l), (7, .int .i64 n), (8, .int .i64 i)]) [] = (bif decide (i < n) then ((0 : Int) ≤ i ∧ i < (↑l.length : Int)) ∧ ∀ (y : Int), l[i.toNat]? = some y → bif y != (0 : Int) then k [PV.int IntKind.i64 y] [] else A (td Tryd.f42 (3 : Nat)) (envAt (18 : Nat) [((3 : Nat), PV.int IntKind.i64 (0 : Int)), ((6 : Nat), PV.sl Int e_int l), ((7 : Nat), PV.int IntKind.i64 n), ((8 : Nat), PV.int IntKind.i64 (IntKind.i64.wrap (i + (1 : Int))))]) []
else k [PV.int IntKind.i64 (0 : Int)] []) := by kernel_rfl
theorem ok_orF : FunS B 42 orS := by
  refine funS_of (N := 18) (f := ff_orF) env_PE1 mixed fn_orF (by kernel_rfl) (by kernel_rfl) (by kernel_rfl) orS_mono ?_
  intro A k ys hA hF
  obtain ⟨l, rfl, hl, hk⟩ := orS_inv hF; clear hF
  refine ⟨by kernel_rfl, (hA.nf (nf_orF_a A k l) ?_)⟩
  refine down_loop l (fun i => k [.int .i64 (orV (l.drop i))] [] → A (td Tryd.f42 3) (envAt 18 [(3, .int .i64 0), (6, .sl _ e_int l), (7, .int .i64 (l.length : Int)), (8, .int .i64 (i : Int))]) []) ?_ ?_ 0 (Nat.zero_le _) hk
  · intro hk
    refine (hA.nf (nf_orF_b A k l _ _) ?_)
    rw [ilt_false (Nat.lt_irrefl _)]
    rw [List.drop_length] at hk; exact hk
  · intro i y hy ih hk
    have hlt := lt_of_get hy
    refine (hA.nf (nf_orF_b A k l _ _) ?_)
    rw [ilt_true hlt, cond_true]
    refine get_at hy ?_
    rw [drop_cons' hy, orV] at hk
    cases c : y != 0 with
    | true => rw [c] at hk; exact hk
    | false =>
    rw [c] at hk
    rw [cond_false, wrap_succ (by omega)]
    exact ih hk
noncomputable def PE2 := base (fun g => match g with | 133 => some (lift 0 namesF) | 106 => some (lift 0 namesF) | 62 => some (lift 0 cloneS) | 63 => some (eitherOwn (lift 1 putIS) (lift 0 putS)) | 33 => some (lift 0 NewS) | 73 => some (lift 1 EnterS) | 101 => some (lift 1 FailS) | 76 => some (lift 1 NeedS) | 74 => some (lift 1 ErrS) | 100 => some (lift 1 numberS) | 75 => some (lift 1 U8S) | _ => none) (fun g => match g with | 83 => some nameS | 103 => some nameS | 48 => some newS | 50 => some atS | 71 => some inS | 89 => some sizeS | 132 => some rSizeS | 58 => some getS | 102 => some getS | 61 => some fitsS | 23 => some ofS | 39 => some PlaceS | 37 => some LeftS | 80 => some nanS | 43 => some cmpIS | 42 => some orS | _ => none) (fun _ => none)
theorem env_PE2 : EnvOk PE2 := env_of (by
    intro g F h
    split at h
    · cases h; exact ok_Name
    · cases h; exact ok_rName
    · cases h; exact ok_New
    · cases h; exact ok_At
    · cases h; exact ok_In
    · cases h; exact ok_size
    · cases h; exact ok_rSize
    · cases h; exact ok_Get
    · cases h; exact ok_rGet
    · cases h; exact ok_fits
    · cases h; exact of_ok
    · cases h; exact ok_Place
    · cases h; exact ok_Left
    · cases h; exact ok_nanI
    · cases h; exact ok_cmpI
    · cases h; exact ok_orF
    · cases h) (by
    intro g F h
    split at h
    · cases h; exact (lift_ok ok_rnames)
    · cases h; exact (lift_ok ok_names)
    · cases h; exact (lift_ok ok_clone)
    · cases h; exact (eitherOwn_ok (lift_ok ok_putI) (lift_ok ok_put))
    · cases h; exact (lift_ok ok_rNew)
    · cases h; exact (lift_ok ok_Enter)
    · cases h; exact (lift_ok ok_Fail)
    · cases h; exact (lift_ok ok_Need)
    · cases h; exact (lift_ok ok_rErr)
    · cases h; exact (lift_ok ok_number)
    · cases h; exact (lift_ok ok_U8)
    · cases h) (fun g F h => (by cases h))
def cmpPS : SpecS := fun ys Φ => match ys with
  | [.agg [.int .i64 a1, .int .i64 a2], .agg [.int .i64 b1, .int .i64 b2]] => Φ [.int .i64 (cmpP (a1, a2) (b1, b2))]
  | _ => False
theorem cmpPS_mono : MonoS cmpPS := by
  intro ys Φ Ψ h hF
  unfold cmpPS at hF ⊢
  split at hF
  · exact h _ hF
  · exact hF.elim
theorem cmpPS_inv {ys : List PV} {Φ : List PV → Prop} (h : cmpPS ys Φ) : ∃ (a1 : Int) (a2 : Int) (b1 : Int) (b2 : Int), ys = [.agg [.int .i64 a1, .int .i64 a2], .agg [.int .i64 b1, .int .i64 b2]] ∧ Φ [.int .i64 (cmpP (a1, a2) (b1, b2))] := by
  unfold cmpPS at h
  split at h
  · exact ⟨_, _, _, _, rfl, h⟩
  · exact h.elim
theorem fn_cmpP : FnOk Tryd.prog 99 Tryd.f99 (bodyOf Tryd.f99) := ⟨by kernel_rfl, by kernel_rfl, by kernel_rfl⟩
noncomputable def ff_cmpP : Fun := ⟨Tryd.f99.ntmps, 0, Tryd.f99.results.toList, fun _ => none, fun _ => false, fun _ => []⟩
theorem nf_cmpP (A : KA Kd) (k : List PV → Heap Kd → Prop) (a1 a2 b1 b2 : Int) : evT PE2 ff_cmpP A k 400 false [.code (bodyOf Tryd.f99)] (startEnv 17 [.agg [.int .i64 a1, .int .i64 a2], .agg [.int .i64 b1, .int .i64 b2]]) [] = (∃ (zs : List Int), List.map e_int zs = [PV.int IntKind.i64 (cmpI a1 b1), PV.int IntKind.i64 (cmpI a2 b2)] ∧ ∃ (l : List Int), PV.sl Int e_int zs = PV.sl Int e_int l ∧ l.length < (4611686018427387904 : Nat) ∧ k [PV.int IntKind.i64 (orV l)] []) := by kernel_rfl
theorem ok_cmpP : FunS B 99 cmpPS := by
  refine funS_of (N := 17) (f := ff_cmpP) env_PE2 mixed fn_cmpP (by kernel_rfl) (by kernel_rfl) (by kernel_rfl) cmpPS_mono ?_
  intro A k ys hA hF
  obtain ⟨a1, a2, b1, b2, rfl, hk⟩ := cmpPS_inv hF; clear hF
  refine ⟨by kernel_rfl, (hA.nf (nf_cmpP A k a1 a2 b1 b2) ?_)⟩
  exact ⟨[cmpI a1 b1, cmpI a2 b2], rfl, [cmpI a1 b1, cmpI a2 b2], rfl, (by show (2 : Nat) < 4611686018427387904; decide), hk⟩
def idS : SpecS := fun ys Φ => match ys with
  | [.int .i64 n] => Φ [.bool (idOk n)]
  | _ => False
theorem idS_mono : MonoS idS := by
  intro ys Φ Ψ h hF
  unfold idS at hF ⊢
  split at hF
  · exact h _ hF
  · exact hF.elim
theorem idS_inv {ys : List PV} {Φ : List PV → Prop} (h : idS ys Φ) : ∃ (n : Int), ys = [.int .i64 n] ∧ Φ [.bool (idOk n)] := by
  unfold idS at h
  split at h
  · exact ⟨_, rfl, h⟩
  · exact h.elim
theorem fn_prRight : FnOk Tryd.prog 69 Tryd.f69 (bodyOf Tryd.f69) := ⟨by kernel_rfl, by kernel_rfl, by kernel_rfl⟩
noncomputable def ff_prRight : Fun := ⟨Tryd.f69.ntmps, 0, Tryd.f69.results.toList, fun _ => none, fun _ => false, fun _ => []⟩
theorem nf_prRight (A : KA Kd) (k : List PV → Heap Kd → Prop) (n : Int) : evT PE2 ff_prRight A k 400 false [.code (bodyOf Tryd.f69)] (startEnv 9 [.int .i64 n]) [] = (bif decide (n ≥ (0 : Int)) then k [PV.bool (decide (n ≤ (255 : Int)))] [] else k [PV.bool false] []) := by kernel_rfl
theorem ok_prRight : FunS B 69 idS := by
  refine funS_of (N := 9) (f := ff_prRight) env_PE2 mixed fn_prRight (by kernel_rfl) (by kernel_rfl) (by kernel_rfl) idS_mono ?_
  intro A k ys hA hF
  obtain ⟨n, rfl, hk⟩ := idS_inv hF; clear hF
  refine ⟨by kernel_rfl, (hA.nf (nf_prRight A k n) ?_)⟩
  unfold idOk at hk
  cases h : decide (n ≥ 0) with
  | true => rw [h] at hk; exact hk
  | false => rw [h] at hk; exact hk
def ltPS : SpecS := fun ys Φ => match ys with
  | [.agg [.int .i64 a1, .int .i64 a2], .agg [.int .i64 b1, .int .i64 b2]] => Φ [.bool (ltP (a1, a2) (b1, b2))]
  | _ => False
theorem ltPS_mono : MonoS ltPS := by
  intro ys Φ Ψ h hF
  unfold ltPS at hF ⊢
  split at hF
  · exact h _ hF
  · exact hF.elim
theorem ltPS_inv {ys : List PV} {Φ : List PV → Prop} (h : ltPS ys Φ) : ∃ (a1 : Int) (a2 : Int) (b1 : Int) (b2 : Int), ys = [.agg [.int .i64 a1, .int .i64 a2], .agg [.int .i64 b1, .int .i64 b2]] ∧ Φ [.bool (ltP (a1, a2) (b1, b2))] := by
  unfold ltPS at h
  split at h
  · exact ⟨_, _, _, _, rfl, h⟩
  · exact h.elim
theorem fn_rLess10 : FnOk Tryd.prog 72 Tryd.f72 (bodyOf Tryd.f72) := ⟨by kernel_rfl, by kernel_rfl, by kernel_rfl⟩
noncomputable def ff_rLess10 : Fun := ⟨Tryd.f72.ntmps, 0, Tryd.f72.results.toList, fun _ => none, fun _ => false, fun _ => []⟩
theorem nf_rLess10 (A : KA Kd) (k : List PV → Heap Kd → Prop) (a1 a2 b1 b2 : Int) : evT PE2 ff_rLess10 A k 400 false [.code (bodyOf Tryd.f72)] (startEnv 24 [.agg [.int .i64 a1, .int .i64 a2], .agg [.int .i64 b1, .int .i64 b2]]) [] = (bif decide (a1 < b1) then k [PV.bool true] []
else bif a1 == b1 then k [PV.bool (decide (a2 < b2))] [] else k [PV.bool false] []) := by kernel_rfl
theorem ok_rLess10 : FunS B 72 ltPS := by
  refine funS_of (N := 24) (f := ff_rLess10) env_PE2 mixed fn_rLess10 (by kernel_rfl) (by kernel_rfl) (by kernel_rfl) ltPS_mono ?_
  intro A k ys hA hF
  obtain ⟨a1, a2, b1, b2, rfl, hk⟩ := ltPS_inv hF; clear hF
  refine ⟨by kernel_rfl, (hA.nf (nf_rLess10 A k a1 a2 b1 b2) ?_)⟩
  unfold ltP at hk
  simp only at hk
  cases h : decide (a1 < b1) with
  | true => rw [h] at hk; exact hk
  | false =>
    rw [h] at hk
    cases h2 : a1 == b1 with
    | true => rw [h2] at hk; exact hk
    | false => rw [h2] at hk; exact hk
noncomputable def PE3 := base (fun g => match g with | 133 => some (lift 0 namesF) | 106 => some (lift 0 namesF) | 62 => some (lift 0 cloneS) | 63 => some (eitherOwn (lift 1 putIS) (lift 0 putS)) | 33 => some (lift 0 NewS) | 73 => some (lift 1 EnterS) | 101 => some (lift 1 FailS) | 76 => some (lift 1 NeedS) | 74 => some (lift 1 ErrS) | 100 => some (lift 1 numberS) | 75 => some (lift 1 U8S) | _ => none) (fun g => match g with | 83 => some nameS | 103 => some nameS | 48 => some newS | 50 => some atS | 71 => some inS | 89 => some sizeS | 132 => some rSizeS | 58 => some getS | 102 => some getS | 61 => some fitsS | 23 => some ofS | 39 => some PlaceS | 37 => some LeftS | 80 => some nanS | 43 => some cmpIS | 42 => some orS | 99 => some cmpPS | 69 => some idS | 72 => some ltPS | _ => none) (fun _ => none)
theorem env_PE3 : EnvOk PE3 := env_of (by
    intro g F h
    split at h
    · cases h; exact ok_Name
    · cases h; exact ok_rName
    · cases h; exact ok_New
    · cases h; exact ok_At
    · cases h; exact ok_In
    · cases h; exact ok_size
    · cases h; exact ok_rSize
    · cases h; exact ok_Get
    · cases h; exact ok_rGet
    · cases h; exact ok_fits
    · cases h; exact of_ok
    · cases h; exact ok_Place
    · cases h; exact ok_Left
    · cases h; exact ok_nanI
    · cases h; exact ok_cmpI
    · cases h; exact ok_orF
    · cases h; exact ok_cmpP
    · cases h; exact ok_prRight
    · cases h; exact ok_rLess10
    · cases h) (by
    intro g F h
    split at h
    · cases h; exact (lift_ok ok_rnames)
    · cases h; exact (lift_ok ok_names)
    · cases h; exact (lift_ok ok_clone)
    · cases h; exact (eitherOwn_ok (lift_ok ok_putI) (lift_ok ok_put))
    · cases h; exact (lift_ok ok_rNew)
    · cases h; exact (lift_ok ok_Enter)
    · cases h; exact (lift_ok ok_Fail)
    · cases h; exact (lift_ok ok_Need)
    · cases h; exact (lift_ok ok_rErr)
    · cases h; exact (lift_ok ok_number)
    · cases h; exact (lift_ok ok_U8)
    · cases h) (fun g F h => (by cases h))
theorem fn_less10 : FnOk Tryd.prog 70 Tryd.f70 (bodyOf Tryd.f70) := ⟨by kernel_rfl, by kernel_rfl, by kernel_rfl⟩
noncomputable def ff_less10 : Fun := ⟨Tryd.f70.ntmps, 0, Tryd.f70.results.toList, fun _ => none, fun _ => false, fun _ => []⟩
theorem nf_less10 (A : KA Kd) (k : List PV → Heap Kd → Prop) (a1 a2 b1 b2 : Int) : evT PE3 ff_less10 A k 400 false [.code (bodyOf Tryd.f70)] (startEnv 9 [.agg [.int .i64 a1, .int .i64 a2], .agg [.int .i64 b1, .int .i64 b2]]) [] = (k [PV.bool (decide (cmpP (a1, a2) (b1, b2) < (0 : Int)))] []) := by kernel_rfl
theorem ok_less10 : FunS B 70 ltPS := by
  refine funS_of (N := 9) (f := ff_less10) env_PE3 mixed fn_less10 (by kernel_rfl) (by kernel_rfl) (by kernel_rfl) ltPS_mono ?_
  intro A k ys hA hF
  obtain ⟨a1, a2, b1, b2, rfl, hk⟩ := ltPS_inv hF; clear hF
  refine ⟨by kernel_rfl, (hA.nf (nf_less10 A k a1 a2 b1 b2) ?_)⟩
  rw [cmpP_lt]; exact hk
end Go.Ab.T
