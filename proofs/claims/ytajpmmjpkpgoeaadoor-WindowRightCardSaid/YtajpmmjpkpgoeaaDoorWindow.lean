import Derived.Test.YtajpmmjpkpgoeaaDoorFault
import Derived.Test.YtajpmmjpkpgoeaaDoorMaB
set_option linter.unusedVariables false
set_option linter.unusedSimpArgs false
set_option linter.unusedSectionVars false
namespace Go.Ab.T
open Go Go.Ab Go.Proofs
variable [DMode]
set_option maxRecDepth 100000
set_option maxHeartbeats 4000000
def idxIS : SpecS := fun ys Φ => match ys with
 | [x_0, .int .i64 v] => ∃ (l : List Int), x_0 = .sl _ e_int l /\ (l.length < 4611686018427387904) /\ Φ [.int .i64 (idxI v l 0)]
 | _ => False
theorem idxIS_mono : MonoS idxIS := by
 intro ys Φ Ψ h hF
 unfold idxIS at hF ⊢
 split at hF
 ·obtain ⟨a0, q0, hp, hk⟩ := hF; exact ⟨a0, q0, hp, h _ hk⟩
 ·exact hF.elim
theorem idxIS_inv {ys : List PV} {Φ : List PV -> Prop} (h : idxIS ys Φ) : ∃ (l : List Int) (v : Int), ys = [.sl _ e_int l, .int .i64 v] /\ (l.length < 4611686018427387904) /\ Φ [.int .i64 (idxI v l 0)] := by
 unfold idxIS at h
 split at h
 ·obtain ⟨a0, q0, hz⟩ := h
  subst q0
  exact ⟨a0, _, rfl, hz⟩
 ·exact h.elim
theorem fn_idxI : FnOk Tryd.prog 30 Tryd.f30 (bodyOf Tryd.f30) := ⟨by kernel_rfl, by kernel_rfl, by kernel_rfl⟩
noncomputable def ff_idxI : Fun := ⟨Tryd.f30.ntmps, 0, Tryd.f30.results.toList, fun i => match i with | 2 => some [0, 1, 7, 8] | _ => none, fun _ => false, fun _ => []⟩
theorem nf_idxI_a (A : KA Kd) (k : List PV -> Heap Kd -> Prop) (l : List Int) (v : Int) : evT B ff_idxI A k 400 false [.code (bodyOf Tryd.f30)] (startEnv 19 [.sl _ e_int l, .int .i64 v]) [] = (A (td Tryd.f30 2) (envAt 19 [(0, .sl Int e_int l), (1, .int .i64 v), (7, .int .i64 (↑l.length : Int)), (8, .int .i64 0)]) []) := by kernel_rfl
theorem nf_idxI_b (A : KA Kd) (k : List PV -> Heap Kd -> Prop) (l : List Int) (v i : Int) : evT B ff_idxI A k 400 true (td Tryd.f30 2) (envAt 19 [(0, .sl _ e_int l), (1, .int .i64 v), (7, .int .i64 l.length), (8, .int .i64 i)]) [] = (bif decide (i < (↑l.length : Int)) then (0 <= i /\ i < (↑l.length : Int)) /\ ∀ (y : Int), l[i.toNat]? = some y -> bif v == y then k [.int .i64 i] [] else A (td Tryd.f30 2) (envAt 19 [(0, .sl Int e_int l), (1, .int .i64 v), (7, .int .i64 (↑l.length : Int)), (8, .int .i64 (IntKind.i64.wrap (i + 1)))]) []
else k [PV.int IntKind.i64 (-1 : Int)] []) := by kernel_rfl
theorem ok_idxI : FunS B 30 idxIS := by
 refine funS_of (N := 19) (f := ff_idxI) env0 mixed fn_idxI (by kernel_rfl) (by kernel_rfl) (by kernel_rfl) idxIS_mono ?_
 intro A k ys hA hF
 obtain ⟨l, v, rfl, hl, hk⟩ := idxIS_inv hF; clear hF
 refine ⟨by kernel_rfl, (hA.nf (nf_idxI_a A k l v) ?_)⟩
 refine down_loop l (fun i => k [.int .i64 (idxI v (l.drop i) i)] [] -> A (td Tryd.f30 2) (envAt 19 [(0, .sl _ e_int l), (1, .int .i64 v), (7, .int .i64 l.length), (8, .int .i64 (i : Int))]) []) ?_ ?_ 0 (Nat.zero_le _) hk
 ·intro hk
  refine (hA.nf (nf_idxI_b A k l v _) ?_)
  rw [ilt_false (Nat.lt_irrefl _)]
  rw [List.drop_length] at hk; exact hk
 ·intro i y hy ih hk
  refine (hA.nf (nf_idxI_b A k l v _) ?_)
  rw [ilt_true (lt_of_get hy)]
  refine get_at hy ?_
  rw [drop_cons' hy] at hk
  have hlt := lt_of_get hy
  cases he : (v == y) with
  | true => rw [idxI, he] at hk; exact hk
  | false => rw [idxI, he] at hk; rw [wrap_succ (by omega)]; exact ih hk
def hasIS : SpecS := fun ys Φ => match ys with
 | [x_0, .int .i64 v] => ∃ (l : List Int), x_0 = .sl _ e_int l /\ (l.length < 4611686018427387904) /\ Φ [.bool (hasI v l)]
 | _ => False
theorem hasIS_mono : MonoS hasIS := by
 intro ys Φ Ψ h hF
 unfold hasIS at hF ⊢
 split at hF
 ·obtain ⟨a0, q0, hp, hk⟩ := hF; exact ⟨a0, q0, hp, h _ hk⟩
 ·exact hF.elim
theorem hasIS_inv {ys : List PV} {Φ : List PV -> Prop} (h : hasIS ys Φ) : ∃ (l : List Int) (v : Int), ys = [.sl _ e_int l, .int .i64 v] /\ (l.length < 4611686018427387904) /\ Φ [.bool (hasI v l)] := by
 unfold hasIS at h
 split at h
 ·obtain ⟨a0, q0, hz⟩ := h
  subst q0
  exact ⟨a0, _, rfl, hz⟩
 ·exact h.elim
theorem fn_cont : FnOk Tryd.prog 22 Tryd.f22 (bodyOf Tryd.f22) := ⟨by kernel_rfl, by kernel_rfl, by kernel_rfl⟩
noncomputable def ff_cont : Fun := ⟨Tryd.f22.ntmps, 0, Tryd.f22.results.toList, fun _ => none, fun _ => false, fun _ => []⟩
noncomputable def C1 := base (fun _ => none) (fun g => match g with | 30 => some idxIS | _ => none) (fun _ => none)
theorem env_C1 : EnvOk C1 := env_of (by
 intro g F h
 split at h
 ·cases h; exact ok_idxI
 ·cases h) (fun g F h => (by cases h)) (fun g F h => (by cases h))
theorem nf_cont (A : KA Kd) (k : List PV -> Heap Kd -> Prop) (l : List Int) (v : Int) : evT C1 ff_cont A k 400 false [.code (bodyOf Tryd.f22)] (startEnv 9 [.sl _ e_int l, .int .i64 v]) [] = (∃ (l_1 : List Int), PV.sl Int e_int l = PV.sl Int e_int l_1 /\ l_1.length < 4611686018427387904 /\ k [.bool (decide (idxI v l_1 (0 : Int) >= (0 : Int)))] []) := by kernel_rfl
theorem ok_cont : FunS B 22 hasIS := by
 refine funS_of (N := 9) (f := ff_cont) env_C1 mixed fn_cont (by kernel_rfl) (by kernel_rfl) (by kernel_rfl) hasIS_mono ?_
 intro A k ys hA hF
 obtain ⟨l, v, rfl, hl, hk⟩ := hasIS_inv hF; clear hF
 refine ⟨by kernel_rfl, (hA.nf (nf_cont A k l v) ?_)⟩
 exact ⟨l, rfl, hl, by rw [idxI_has v l 0 (Int.le_refl _)]; exact hk⟩
def fitsS : SpecS := fun ys Φ => match ys with
 | [.agg [.int .i64 a, .int .i64 b, .int .i64 c], .int .i64 fr] => Φ [.bool (fitsW (a, b, c) fr)]
 | _ => False
theorem fitsS_mono : MonoS fitsS := by
 intro ys Φ Ψ h hF
 unfold fitsS at hF ⊢
 split at hF
 ·exact h _ hF
 ·exact hF.elim
theorem fitsS_inv {ys : List PV} {Φ : List PV -> Prop} (h : fitsS ys Φ) : ∃ (a : Int) (b : Int) (c : Int) (fr : Int), ys = [.agg [.int .i64 a, .int .i64 b, .int .i64 c], .int .i64 fr] /\ Φ [.bool (fitsW (a, b, c) fr)] := by
 unfold fitsS at h
 split at h
 ·exact ⟨_, _, _, _, rfl, h⟩
 ·exact h.elim
theorem fn_fits : FnOk Tryd.prog 23 Tryd.f23 (bodyOf Tryd.f23) := ⟨by kernel_rfl, by kernel_rfl, by kernel_rfl⟩
noncomputable def ff_fits : Fun := ⟨Tryd.f23.ntmps, 0, Tryd.f23.results.toList, fun _ => none, fun _ => false, fun _ => []⟩
theorem nf_fits (A : KA Kd) (k : List PV -> Heap Kd -> Prop) (a b c fr : Int) : evT B ff_fits A k 400 false [.code (bodyOf Tryd.f23)] (startEnv 28 [.agg [.int .i64 a, .int .i64 b, .int .i64 c], .int .i64 fr]) [] = (bif decide (c > 0) then bif decide (b >= 0) then bif decide (b <= fr) then k [.bool (decide (c <= IntKind.i64.wrap (fr - b)))] [] else k [.bool false] [] else k [.bool false] []
else k [PV.bool false] []) := by kernel_rfl
theorem ok_fits : FunS B 23 fitsS := by
 refine funS_of (N := 28) (f := ff_fits) env0 mixed fn_fits (by kernel_rfl) (by kernel_rfl) (by kernel_rfl) fitsS_mono ?_
 intro A k ys hA hF
 obtain ⟨a, b, c, fr, rfl, hk⟩ := fitsS_inv hF; clear hF
 refine ⟨by kernel_rfl, (hA.nf (nf_fits A k a b c fr) ?_)⟩
 unfold fitsW at hk
 cases h1 : decide (c > 0) <;> cases h2 : decide (b >= 0) <;> cases h3 : decide (b <= fr) <;> simp only [h1, h2, h3, Bool.and_true, Bool.true_and, Bool.false_and, Bool.and_false, cond_true, cond_false] at hk ⊢ <;> exact hk
noncomputable def C2 := base (fun _ => none) (fun g => match g with | 22 => some hasIS | 23 => some fitsS | _ => none) (fun _ => none)
theorem env_C2 : EnvOk C2 := env_of (by
 intro g F h
 split at h
 ·cases h; exact ok_cont
 ·cases h; exact ok_fits
 ·cases h) (fun g F h => (by cases h)) (fun g F h => (by cases h))
theorem fn_wrong : FnOk Tryd.prog 13 Tryd.f13 (bodyOf Tryd.f13) := ⟨by kernel_rfl, by kernel_rfl, by kernel_rfl⟩
noncomputable def ff_wrong : Fun := ⟨Tryd.f13.ntmps, 0, Tryd.f13.results.toList, fun _ => none, fun _ => false, fun _ => []⟩
theorem nf_wrong (A : KA Kd) (k : List PV -> Heap Kd -> Prop) (id fr i : Int) (ws : List Win) (ns : List Win) (ids : List Int) : evT C2 ff_wrong A k 400 false [.code (bodyOf Tryd.f13)] (startEnv 49 [.agg [.int .i64 id, .int .i64 fr, .sl _ e_api_Window ws, .sl _ e_api_Need ns], .int .i64 i, .sl _ e_int ids]) [] = ((0 <= i /\ i < (↑ws.length : Int)) /\ ∀ (y : Int × Int × Int), ws[i.toNat]? = some y -> bif decide (i > 0) then (0 <= IntKind.i64.wrap (i - 1) /\ IntKind.i64.wrap (i - 1) < (↑ws.length : Int)) /\ ∀ (y_1 : Int × Int × Int), ws[(IntKind.i64.wrap (i - 1)).toNat]? = some y_1 -> ∃ (l : List Int), PV.sl Int e_int ids = PV.sl Int e_int l /\ l.length < 4611686018427387904 /\ bif !hasI y.fst l then k [.int .i64 10] [] else bif !fitsW (y.fst, y.snd.fst, y.snd.snd) fr then k [.int .i64 11] [] else bif decide (y.snd.fst < y_1.snd.fst) then k [.int .i64 9] [] else bif decide (y.snd.fst < IntKind.i64.wrap (y_1.snd.fst + y_1.snd.snd)) then k [.int .i64 12] [] else k [.int .i64 0] [] else ∃ (l : List Int), PV.sl Int e_int ids = PV.sl Int e_int l /\ l.length < 4611686018427387904 /\ bif !hasI y.fst l then k [.int .i64 10] [] else bif !fitsW (y.fst, y.snd.fst, y.snd.snd) fr then k [.int .i64 11] [] else bif decide (y.snd.fst < 0) then k [.int .i64 9] [] else bif decide (y.snd.fst < IntKind.i64.wrap ((0 : Int) + (0 : Int))) then k [.int .i64 12] [] else k [.int .i64 0] []) := by kernel_rfl
def wrongS : SpecS := fun ys Φ => match ys with
 | [x_0, .int .i64 i, x_2] => ∃ (id : Int), ∃ (fr : Int), ∃ (ws : List Win), ∃ (ns : List Win), ∃ (ids : List Int), ∃ (n : Nat), ∃ (p : Win), ∃ (w : Win), x_0 = .agg [.int .i64 id, .int .i64 fr, .sl _ e_api_Window ws, .sl _ e_api_Need ns] /\ x_2 = .sl _ e_int ids /\ (ids.length < 4611686018427387904 /\ i = (n : Int) /\ n < 4611686018427387904 /\ ws[n]? = some w /\ prevW ws n = some p) /\ Φ [.int .i64 (wrongW fr ids p w)]
 | _ => False
theorem wrongS_mono : MonoS wrongS := by
 intro ys Φ Ψ h hF
 unfold wrongS at hF ⊢
 split at hF
 ·obtain ⟨a0, a1, a2, a3, a4, a5, a6, a7, q0, q1, hp, hk⟩ := hF; exact ⟨a0, a1, a2, a3, a4, a5, a6, a7, q0, q1, hp, h _ hk⟩
 ·exact hF.elim
theorem wrongS_inv {ys : List PV} {Φ : List PV -> Prop} (h : wrongS ys Φ) : ∃ (id : Int) (fr : Int) (i : Int) (ws : List Win) (ns : List Win) (ids : List Int) (n : Nat) (p : Win) (w : Win), ys = [.agg [.int .i64 id, .int .i64 fr, .sl _ e_api_Window ws, .sl _ e_api_Need ns], .int .i64 i, .sl _ e_int ids] /\ (ids.length < 4611686018427387904 /\ i = (n : Int) /\ n < 4611686018427387904 /\ ws[n]? = some w /\ prevW ws n = some p) /\ Φ [.int .i64 (wrongW fr ids p w)] := by
 unfold wrongS at h
 split at h
 ·obtain ⟨a0, a1, a2, a3, a4, a5, a6, a7, q0, q1, hz⟩ := h
  subst q0
  subst q1
  exact ⟨a0, a1, _, a2, a3, a4, a5, a6, a7, rfl, hz⟩
 ·exact h.elim
theorem ok_wrong : FunS B 13 wrongS := by
 refine funS_of (N := 49) (f := ff_wrong) env_C2 mixed fn_wrong (by kernel_rfl) (by kernel_rfl) (by kernel_rfl) wrongS_mono ?_
 intro A k ys hA hF
 obtain ⟨id, fr, i, ws, ns, ids, n, p, w, rfl, ⟨hl, rfl, hn, hw, hp⟩, hk⟩ := wrongS_inv hF; clear hF
 refine ⟨by kernel_rfl, (hA.nf (nf_wrong A k id fr n ws ns ids) ?_)⟩
 refine get_at hw ?_
 have fin : ∀ p : Win, k [.int .i64 (wrongW fr ids p w)] [] -> (∃ l, PV.sl _ e_int ids = PV.sl _ e_int l /\ l.length < 4611686018427387904 /\
  bif !hasI w.fst l then k [PV.int IntKind.i64 10] []
  else bif !fitsW (w.fst, w.snd.fst, w.snd.snd) fr then k [PV.int IntKind.i64 11] []
  else bif decide (w.snd.fst < p.snd.fst) then k [PV.int IntKind.i64 9] []
  else bif decide (w.snd.fst < IntKind.i64.wrap (p.snd.fst + p.snd.snd)) then k [PV.int IntKind.i64 12] [] else k [PV.int IntKind.i64 0] []) := by
  intro p hk
  refine ⟨ids, rfl, hl, ?_⟩
  unfold wrongW at hk
  cases h1 : hasI w.1 ids <;> cases h2 : fitsW w fr <;> cases h3 : decide (w.2.1 < p.2.1) <;> cases h4 : decide (w.2.1 < IntKind.i64.wrap (p.2.1 + p.2.2)) <;>
   simp only [h1, h2, h3, h4, Bool.not_true, Bool.not_false, cond_true, cond_false] at hk ⊢ <;> exact hk
 cases n with
 | zero =>
  obtain rfl : (0, 0, 0) = p := by simpa [prevW] using hp
  exact fin (0, 0, 0) hk
 | succ m =>
  have hd : decide (((m + 1 : Nat) : Int) > 0) = true := decide_eq_true (by omega)
  rw [hd]
  exact get_at' (i := m) (wrap_nat (by omega) (by omega)) hp (fin p hk)
noncomputable def C3 := base (fun _ => none) (fun g => match g with | 12 => some newS | 14 => some atS | 13 => some wrongS | _ => none) (fun _ => none)
theorem env_C3 : EnvOk C3 := env_of (by
 intro g F h
 split at h
 ·cases h; exact ok_New
 ·cases h; exact ok_At
 ·cases h; exact ok_wrong
 ·cases h) (fun g F h => (by cases h)) (fun g F h => (by cases h))
theorem fn_Check : FnOk Tryd.prog 6 Tryd.f6 (bodyOf Tryd.f6) := ⟨by kernel_rfl, by kernel_rfl, by kernel_rfl⟩
noncomputable def ff_Check : Fun := ⟨Tryd.f6.ntmps, 0, Tryd.f6.results.toList, fun i => match i with | 2 => some [1, 2, 9, 10] | _ => none, fun _ => false, fun _ => []⟩
theorem nf_Check_a (A : KA Kd) (k : List PV -> Heap Kd -> Prop) (id fr : Int) (ws : List Win) (ns : List Win) (ids : List Int) : evT C3 ff_Check A k 400 false [.code (bodyOf Tryd.f6)] (startEnv 24 [.agg [.int .i64 id, .int .i64 fr, .sl _ e_api_Window ws, .sl _ e_api_Need ns], .sl _ e_int ids]) [] = (A (td Tryd.f6 2) (envAt 24 [(1, .sl Int e_int ids), (2, .ptr 0 0), (9, .int .i64 (↑ws.length : Int)), (10, .int .i64 0)]) [.box [.int .i64 id, .int .i64 fr, .sl (Int × Int × Int) e_api_Window ws, .sl (Int × Int × Int) e_api_Need ns]]) := by kernel_rfl
theorem nf_Check_b (A : KA Kd) (k : List PV -> Heap Kd -> Prop) (id fr i : Int) (ws : List Win) (ns : List Win) (ids : List Int) : evT C3 ff_Check A k 400 true (td Tryd.f6 2) (envAt 24 [(1, .sl _ e_int ids), (2, .ptr 0 0), (9, .int .i64 ws.length), (10, .int .i64 i)]) [.box [.int .i64 id, .int .i64 fr, .sl _ e_api_Window ws, .sl _ e_api_Need ns]] = (bif decide (i < (↑ws.length : Int)) then ∃ (id_1 : Int), ∃ (fr_1 : Int), ∃ (ws_1 : List Win), ∃ (ns_1 : List Win), ∃ (ids_1 : List Int), ∃ (n : Nat), ∃ (p : Win), ∃ (w : Win), PV.agg [PV.int IntKind.i64 id, PV.int IntKind.i64 fr, PV.sl (Int × Int × Int) e_api_Window ws, PV.sl (Int × Int × Int) e_api_Need ns] = PV.agg [PV.int IntKind.i64 id_1, PV.int IntKind.i64 fr_1, PV.sl (Int × Int × Int) e_api_Window ws_1, PV.sl (Int × Int × Int) e_api_Need ns_1] /\ PV.sl Int e_int ids = PV.sl Int e_int ids_1 /\ (ids_1.length < 4611686018427387904 /\ i = (↑n : Int) /\ n < 4611686018427387904 /\ ws_1[n]? = some w /\ prevW ws_1 n = some p) /\ bif !(newE (wrongW fr_1 ids_1 p w)).isNil then k [.err (atE i (newE (wrongW fr_1 ids_1 p w)))] [] else A (td Tryd.f6 2) (envAt 24 [(1, .sl Int e_int ids), (2, .ptr 0 0), (9, .int .i64 (↑ws.length : Int)), (10, .int .i64 (IntKind.i64.wrap (i + 1)))]) [.box [.int .i64 id, .int .i64 fr, .sl (Int × Int × Int) e_api_Window ws, .sl (Int × Int × Int) e_api_Need ns]]
else k [PV.err Err.nil] []) := by kernel_rfl
def CheckS : SpecS := fun ys Φ => match ys with
 | [x_0, x_1] => ∃ (id : Int), ∃ (fr : Int), ∃ (ws : List Win), ∃ (ns : List Win), ∃ (ids : List Int), x_0 = .agg [.int .i64 id, .int .i64 fr, .sl _ e_api_Window ws, .sl _ e_api_Need ns] /\ x_1 = .sl _ e_int ids /\ (ids.length < 4611686018427387904 /\ ws.length < 4611686018427387904) /\ Φ [.err (errW (chkW fr ids (0, 0, 0) ws 0))]
 | _ => False
theorem CheckS_mono : MonoS CheckS := by
 intro ys Φ Ψ h hF
 unfold CheckS at hF ⊢
 split at hF
 ·obtain ⟨a0, a1, a2, a3, a4, q0, q1, hp, hk⟩ := hF; exact ⟨a0, a1, a2, a3, a4, q0, q1, hp, h _ hk⟩
 ·exact hF.elim
theorem CheckS_inv {ys : List PV} {Φ : List PV -> Prop} (h : CheckS ys Φ) : ∃ (id : Int) (fr : Int) (ws : List Win) (ns : List Win) (ids : List Int), ys = [.agg [.int .i64 id, .int .i64 fr, .sl _ e_api_Window ws, .sl _ e_api_Need ns], .sl _ e_int ids] /\ (ids.length < 4611686018427387904 /\ ws.length < 4611686018427387904) /\ Φ [.err (errW (chkW fr ids (0, 0, 0) ws 0))] := by
 unfold CheckS at h
 split at h
 ·obtain ⟨a0, a1, a2, a3, a4, q0, q1, hz⟩ := h
  subst q0
  subst q1
  exact ⟨a0, a1, a2, a3, a4, rfl, hz⟩
 ·exact h.elim
theorem ok_Check : FunS B 6 CheckS := by
 refine funS_of (N := 24) (f := ff_Check) env_C3 mixed fn_Check (by kernel_rfl) (by kernel_rfl) (by kernel_rfl) CheckS_mono ?_
 intro A k ys hA hF
 obtain ⟨id, fr, ws, ns, ids, rfl, ⟨hl, hw⟩, hk⟩ := CheckS_inv hF; clear hF
 refine ⟨by kernel_rfl, (hA.nf (nf_Check_a A k id fr ws ns ids) ?_)⟩
 refine down_loop ws (fun i => ∀ p, prevW ws i = some p -> k [.err (errW (chkW fr ids p (ws.drop i) i))] [] -> A (td Tryd.f6 2) (envAt 24 [(1, .sl _ e_int ids), (2, .ptr 0 0), (9, .int .i64 ws.length), (10, .int .i64 (i : Int))])
  [.box [.int .i64 id, .int .i64 fr, .sl _ e_api_Window ws, .sl _ e_api_Need ns]]) ?_ ?_ 0 (Nat.zero_le _) (0, 0, 0) rfl hk
 ·intro p _ hk
  refine (hA.nf (nf_Check_b A k id fr _ ws ns ids) ?_)
  rw [ilt_false (Nat.lt_irrefl _)]
  rw [List.drop_length] at hk; exact hk
 ·intro i y hy ih p hp hk
  refine (hA.nf (nf_Check_b A k id fr _ ws ns ids) ?_)
  rw [ilt_true (lt_of_get hy)]
  have hlt := lt_of_get hy
  refine ⟨id, fr, ws, ns, ids, i, p, y, rfl, rfl, ⟨hl, rfl, by omega, hy, hp⟩, ?_⟩
  rw [drop_cons' hy, chkW] at hk
  rw [isNil_newE, Bool.not_not]
  have hc := isCls_wrongW fr ids p y
  cases h0 : (wrongW fr ids p y == 0) with
  | true =>
   rw [hc, h0]
   rw [h0] at hk
   rw [wrap_succ (by omega)]
   exact ih y hy hk
  | false =>
   rw [h0] at hc
   rw [at_new _ _ hc, hc]
   rw [h0] at hk
   have : errW ((i : Int), wrongW fr ids p y) = .plc i (.cls (wrongW fr ids p y)) := by
    show (bif wrongW fr ids p y == 0 then _ else _) = _
    rw [h0]; rfl
   rw [<- this]; exact hk
end Go.Ab.T
