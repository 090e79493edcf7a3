import Derived.Test.YtajpmmjpkpgoeaaDoorFault
import Derived.Test.YtajpmmjpkpgoeaaDoorWordS
import Derived.Test.YtajpmmjpkpgoeaaDoorMaB
set_option linter.unusedVariables false
set_option linter.unusedSimpArgs false
set_option linter.unusedSectionVars false
namespace Go.Ab.T
open Go Go.Ab Go.Proofs
set_option maxRecDepth 100000
set_option maxHeartbeats 4000000
def hasWS : SpecS := fun ys Φ => match ys with
 | [.agg [.int .i64 a, .int .i64 b, .int .i64 c], .int .i64 t] => Φ [.bool (inW (a, b, c) t)]
 | _ => False
theorem hasWS_mono : MonoS hasWS := by
 intro ys Φ Ψ h hF
 unfold hasWS at hF ⊢
 split at hF
 ·exact h _ hF
 ·exact hF.elim
theorem hasWS_inv {ys : List PV} {Φ : List PV -> Prop} (h : hasWS ys Φ) : ∃ (a : Int) (b : Int) (c : Int) (t : Int), ys = [.agg [.int .i64 a, .int .i64 b, .int .i64 c], .int .i64 t] /\ Φ [.bool (inW (a, b, c) t)] := by
 unfold hasWS at h
 split at h
 ·exact ⟨_, _, _, _, rfl, h⟩
 ·exact h.elim
theorem fn_hasW : FnOk Tryd.prog 17 Tryd.f17 (bodyOf Tryd.f17) := ⟨by kernel_rfl, by kernel_rfl, by kernel_rfl⟩
noncomputable def ff_hasW : Fun := ⟨Tryd.f17.ntmps, 0, Tryd.f17.results.toList, fun _ => none, fun _ => false, fun _ => []⟩
theorem nf_hasW (A : KA Kd) (k : List PV -> Heap Kd -> Prop) (a b c t : Int) : evT B ff_hasW A k 400 false [.code (bodyOf Tryd.f17)] (startEnv 18 [.agg [.int .i64 a, .int .i64 b, .int .i64 c], .int .i64 t]) [] = (bif decide (t >= b) then k [.bool (decide (IntKind.i64.wrap (t - b) < c))] [] else k [.bool false] []) := by kernel_rfl
theorem ok_hasW : FunS B 17 hasWS := by
 refine funS_of (N := 18) (f := ff_hasW) env0 mixed fn_hasW (by kernel_rfl) (by kernel_rfl) (by kernel_rfl) hasWS_mono ?_
 intro A k ys hA hF
 obtain ⟨a, b, c, t, rfl, hk⟩ := hasWS_inv hF; clear hF
 refine ⟨by kernel_rfl, (hA.nf (nf_hasW A k a b c t) ?_)⟩
 unfold inW at hk
 cases h1 : decide (t >= b) with
 | true => rw [h1, Bool.true_and] at hk; exact hk
 | false => rw [h1, Bool.false_and] at hk; exact hk
noncomputable def CO1 := base (fun _ => none) (fun g => match g with | 17 => some hasWS | _ => none) (fun _ => none)
theorem env_CO1 : EnvOk CO1 := env_of (by
 intro g F h
 split at h
 ·cases h; exact ok_hasW
 ·cases h) (fun g F h => (by cases h)) (fun g F h => (by cases h))
def own1S : SpecS := fun ys Φ => match ys with
 | [.agg [.int .i64 a, .int .i64 b, .int .i64 c], .el (.agg [.int .i64 t]) 0] => Φ [.bool (inW (a, b, c) t)]
 | _ => False
theorem own1S_mono : MonoS own1S := by
 intro ys Φ Ψ h hF
 unfold own1S at hF ⊢
 split at hF
 ·exact h _ hF
 ·exact hF.elim
theorem own1S_inv {ys : List PV} {Φ : List PV -> Prop} (h : own1S ys Φ) : ∃ (a : Int) (b : Int) (c : Int) (t : Int), ys = [.agg [.int .i64 a, .int .i64 b, .int .i64 c], .el (.agg [.int .i64 t]) 0] /\ Φ [.bool (inW (a, b, c) t)] := by
 unfold own1S at h
 split at h
 ·exact ⟨_, _, _, _, rfl, h⟩
 ·exact h.elim
theorem fn_own1 : FnOk Tryd.prog 16 Tryd.f16 (bodyOf Tryd.f16) := ⟨by kernel_rfl, by kernel_rfl, by kernel_rfl⟩
noncomputable def ff_own1 : Fun := ⟨Tryd.f16.ntmps, 0, Tryd.f16.results.toList, fun _ => none, fun _ => false, fun _ => []⟩
theorem nf_own1 (A : KA Kd) (k : List PV -> Heap Kd -> Prop) (a b c t : Int) : evT CO1 ff_own1 A k 400 false [.code (bodyOf Tryd.f16)] (startEnv 7 [.agg [.int .i64 a, .int .i64 b, .int .i64 c], .el (.agg [.int .i64 t]) 0]) [] = (k [.bool (inW (a, b, c) t)] []) := by kernel_rfl
theorem ok_own1 : FunS B 16 own1S := by
 refine funS_of (N := 7) (f := ff_own1) env_CO1 mixed fn_own1 (by kernel_rfl) (by kernel_rfl) (by kernel_rfl) own1S_mono ?_
 intro A k ys hA hF
 obtain ⟨a, b, c, t, rfl, hk⟩ := own1S_inv hF; clear hF
 refine ⟨by kernel_rfl, (hA.nf (nf_own1 A k a b c t) ?_)⟩
 exact hk
noncomputable def CO2 := base (fun _ => none) (fun g => match g with | 16 => some own1S | _ => none) (fun _ => none)
theorem env_CO2 : EnvOk CO2 := env_of (by
 intro g F h
 split at h
 ·cases h; exact ok_own1
 ·cases h) (fun g F h => (by cases h)) (fun g F h => (by cases h))
def ixWS : SpecS := fun ys Φ => match ys with
 | [x_0, .fn (.func 16) [] [.el (.agg [.int .i64 t]) 0]] => ∃ (ws : List Win), x_0 = .sl _ e_api_Window ws /\ (ws.length < 4611686018427387904) /\ Φ [.int .i64 (ixW t ws 0)]
 | _ => False
theorem ixWS_mono : MonoS ixWS := by
 intro ys Φ Ψ h hF
 unfold ixWS at hF ⊢
 split at hF
 ·obtain ⟨a0, q0, hp, hk⟩ := hF; exact ⟨a0, q0, hp, h _ hk⟩
 ·exact hF.elim
theorem ixWS_inv {ys : List PV} {Φ : List PV -> Prop} (h : ixWS ys Φ) : ∃ (ws : List Win) (t : Int), ys = [.sl _ e_api_Window ws, .fn (.func 16) [] [.el (.agg [.int .i64 t]) 0]] /\ (ws.length < 4611686018427387904) /\ Φ [.int .i64 (ixW t ws 0)] := by
 unfold ixWS at h
 split at h
 ·obtain ⟨a0, q0, hz⟩ := h
  subst q0
  exact ⟨a0, _, rfl, hz⟩
 ·exact h.elim
theorem fn_ixW : FnOk Tryd.prog 15 Tryd.f15 (bodyOf Tryd.f15) := ⟨by kernel_rfl, by kernel_rfl, by kernel_rfl⟩
noncomputable def ff_ixW : Fun := ⟨Tryd.f15.ntmps, 0, Tryd.f15.results.toList, fun i => match i with | 2 => some [0, 1, 7, 8] | _ => none, fun _ => false, fun _ => []⟩
theorem nf_ixW_a (A : KA Kd) (k : List PV -> Heap Kd -> Prop) (ws : List Win) (t : Int) : evT CO2 ff_ixW A k 400 false [.code (bodyOf Tryd.f15)] (startEnv 19 [.sl _ e_api_Window ws, .fn (.func 16) [] [.el (.agg [.int .i64 t]) 0]]) [] = (A (td Tryd.f15 2) (envAt 19 [(0, .sl (Int × Int × Int) e_api_Window ws), ((1 : Nat), PV.fn (Fn.func (16 : FuncId)) [] [PV.el (.agg [.int .i64 t]) (0 : Nat)]), (7, .int .i64 (↑ws.length : Int)), (8, .int .i64 0)]) []) := by kernel_rfl
theorem nf_ixW_b (A : KA Kd) (k : List PV -> Heap Kd -> Prop) (ws : List Win) (t i : Int) : evT CO2 ff_ixW A k 400 true (td Tryd.f15 2) (envAt 19 [(0, .sl _ e_api_Window ws), (1, .fn (.func 16) [] [.el (.agg [.int .i64 t]) 0]), (7, .int .i64 ws.length), (8, .int .i64 i)]) [] = (bif decide (i < (↑ws.length : Int)) then (0 <= i /\ i < (↑ws.length : Int)) /\ ∀ (y : Int × Int × Int), ws[i.toNat]? = some y -> bif inW (y.fst, y.snd.fst, y.snd.snd) t then k [.int .i64 i] [] else A (td Tryd.f15 2) (envAt 19 [(0, .sl (Int × Int × Int) e_api_Window ws), ((1 : Nat), PV.fn (Fn.func (16 : FuncId)) [] [PV.el (.agg [.int .i64 t]) (0 : Nat)]), (7, .int .i64 (↑ws.length : Int)), (8, .int .i64 (IntKind.i64.wrap (i + 1)))]) []
else k [PV.int IntKind.i64 (-1 : Int)] []) := by kernel_rfl
theorem ok_ixW : FunS B 15 ixWS := by
 refine funS_of (N := 19) (f := ff_ixW) env_CO2 mixed fn_ixW (by kernel_rfl) (by kernel_rfl) (by kernel_rfl) ixWS_mono ?_
 intro A k ys hA hF
 obtain ⟨ws, t, rfl, hl, hk⟩ := ixWS_inv hF; clear hF
 refine ⟨by kernel_rfl, (hA.nf (nf_ixW_a A k ws t) ?_)⟩
 refine down_loop ws (fun i => k [.int .i64 (ixW t (ws.drop i) i)] [] -> A (td Tryd.f15 2) (envAt 19 [(0, .sl _ e_api_Window ws), (1, .fn (.func 16) [] [.el (.agg [.int .i64 t]) 0]), (7, .int .i64 ws.length), (8, .int .i64 (i : Int))]) []) ?_ ?_ 0 (Nat.zero_le _) hk
 ·intro hk
  refine (hA.nf (nf_ixW_b A k ws t _) ?_)
  rw [ilt_false (Nat.lt_irrefl _)]
  rw [List.drop_length] at hk; exact hk
 ·intro i y hy ih hk
  refine (hA.nf (nf_ixW_b A k ws t _) ?_)
  rw [ilt_true (lt_of_get hy)]
  refine get_at hy ?_
  rw [drop_cons' hy] at hk
  have hlt := lt_of_get hy
  cases he : inW y t with
  | true => rw [ixW, he] at hk; exact hk
  | false => rw [ixW, he] at hk; rw [wrap_succ (by omega)]; exact ih hk
noncomputable def CO3 := base (fun _ => none) (fun g => match g with | 16 => some own1S | 15 => some ixWS | _ => none) (fun _ => none)
theorem env_CO3 : EnvOk CO3 := env_of (by
 intro g F h
 split at h
 ·cases h; exact ok_own1
 ·cases h; exact ok_ixW
 ·cases h) (fun g F h => (by cases h)) (fun g F h => (by cases h))
theorem fn_Owner : FnOk Tryd.prog 7 Tryd.f7 (bodyOf Tryd.f7) := ⟨by kernel_rfl, by kernel_rfl, by kernel_rfl⟩
noncomputable def ff_Owner : Fun := ⟨Tryd.f7.ntmps, 0, Tryd.f7.results.toList, fun _ => none, fun _ => false, fun _ => []⟩
theorem nf_Owner (A : KA Kd) (k : List PV -> Heap Kd -> Prop) (id fr t : Int) (ws ns : List Win) : evT CO3 ff_Owner A k 400 false [.code (bodyOf Tryd.f7)] (startEnv 26 [.agg [.int .i64 id, .int .i64 fr, .sl _ e_api_Window ws, .sl _ e_api_Need ns], .int .i64 t]) [] = (bif decide (t < 0) then k [.int .i64 (-1 : Int)] []
else bif decide (t >= fr) then k [PV.int IntKind.i64 (-1 : Int)] [] else ∃ (ws_1 : List Win), PV.sl (Int × Int × Int) e_api_Window ws = PV.sl (Int × Int × Int) e_api_Window ws_1 /\ ws_1.length < (4611686018427387904 : Nat) /\ bif decide (ixW t ws_1 (0 : Int) < (0 : Int)) then k [PV.int IntKind.i64 (-1 : Int)] [] else ((0 : Int) <= ixW t ws_1 (0 : Int) /\ ixW t ws_1 (0 : Int) < (↑ws.length : Int)) /\ ∀ (y : Int × Int × Int), ws[(ixW t ws_1 (0 : Int)).toNat]? = some y -> k [PV.int IntKind.i64 y.fst] []) := by kernel_rfl
def OwnerS : SpecS := fun ys Φ => match ys with
 | [x_0, .int .i64 t] => ∃ (id : Int), ∃ (fr : Int), ∃ (ws : List Win), ∃ (ns : List Win), x_0 = .agg [.int .i64 id, .int .i64 fr, .sl _ e_api_Window ws, .sl _ e_api_Need ns] /\ (ws.length < 4611686018427387904) /\ Φ [.int .i64 (ownR fr ws t)]
 | _ => False
theorem OwnerS_mono : MonoS OwnerS := by
 intro ys Φ Ψ h hF
 unfold OwnerS at hF ⊢
 split at hF
 ·obtain ⟨a0, a1, a2, a3, q0, hp, hk⟩ := hF; exact ⟨a0, a1, a2, a3, q0, hp, h _ hk⟩
 ·exact hF.elim
theorem OwnerS_inv {ys : List PV} {Φ : List PV -> Prop} (h : OwnerS ys Φ) : ∃ (id : Int) (fr : Int) (t : Int) (ws : List Win) (ns : List Win), ys = [.agg [.int .i64 id, .int .i64 fr, .sl _ e_api_Window ws, .sl _ e_api_Need ns], .int .i64 t] /\ (ws.length < 4611686018427387904) /\ Φ [.int .i64 (ownR fr ws t)] := by
 unfold OwnerS at h
 split at h
 ·obtain ⟨a0, a1, a2, a3, q0, hz⟩ := h
  subst q0
  exact ⟨a0, a1, _, a2, a3, rfl, hz⟩
 ·exact h.elim
theorem ok_Owner : FunS B 7 OwnerS := by
 refine funS_of (N := 26) (f := ff_Owner) env_CO3 mixed fn_Owner (by kernel_rfl) (by kernel_rfl) (by kernel_rfl) OwnerS_mono ?_
 intro A k ys hA hF
 obtain ⟨id, fr, t, ws, ns, rfl, hl, hk⟩ := OwnerS_inv hF; clear hF
 refine ⟨by kernel_rfl, (hA.nf (nf_Owner A k id fr t ws ns) ?_)⟩
 unfold ownR at hk
 cases h1 : decide (t < 0) with
 | true => rw [h1] at hk; exact hk
 | false =>
 cases h2 : decide (t >= fr) with
 | true => rw [h1, h2] at hk; exact hk
 | false =>
 rw [h1, h2] at hk
 refine ⟨ws, rfl, hl, ?_⟩
 rcases ixW_own t ws 0 with ⟨e1, e2⟩ | ⟨j, w, e1, e2, e3⟩
 ·have e1 : ixW t ws 0 = -1 := e1
  rw [e1]
  have hk : k [.int .i64 (ownI ws t)] [] := hk
  rw [e2] at hk; exact hk
 ·have e1 : ixW t ws 0 = ((0 + j : Nat) : Int) := e1
  rw [Nat.zero_add] at e1
  have hk : k [.int .i64 (ownI ws t)] [] := hk
  rw [e3] at hk
  have hn : decide (ixW t ws 0 < 0) = false := decide_eq_false (by omega)
  rw [hn]
  exact get_at' (i := j) e1 e2 hk
def busy1S : SpecS := fun ys Φ => match ys with
 | [.int .i64 a] => Φ [.bool (a != -1)]
 | _ => False
theorem busy1S_mono : MonoS busy1S := by
 intro ys Φ Ψ h hF
 unfold busy1S at hF ⊢
 split at hF
 ·exact h _ hF
 ·exact hF.elim
theorem busy1S_inv {ys : List PV} {Φ : List PV -> Prop} (h : busy1S ys Φ) : ∃ (a : Int), ys = [.int .i64 a] /\ Φ [.bool (a != -1)] := by
 unfold busy1S at h
 split at h
 ·exact ⟨_, rfl, h⟩
 ·exact h.elim
theorem fn_busy1 : FnOk Tryd.prog 19 Tryd.f19 (bodyOf Tryd.f19) := ⟨by kernel_rfl, by kernel_rfl, by kernel_rfl⟩
noncomputable def ff_busy1 : Fun := ⟨Tryd.f19.ntmps, 0, Tryd.f19.results.toList, fun _ => none, fun _ => false, fun _ => []⟩
theorem nf_busy1 (A : KA Kd) (k : List PV -> Heap Kd -> Prop) (a : Int) : evT B ff_busy1 A k 400 false [.code (bodyOf Tryd.f19)] (startEnv 5 [.int .i64 a]) [] = (k [.bool (a != (-1 : Int))] []) := by kernel_rfl
theorem ok_busy1 : FunS B 19 busy1S := by
 refine funS_of (N := 5) (f := ff_busy1) env0 mixed fn_busy1 (by kernel_rfl) (by kernel_rfl) (by kernel_rfl) busy1S_mono ?_
 intro A k ys hA hF
 obtain ⟨a, rfl, hk⟩ := busy1S_inv hF; clear hF
 exact ⟨by kernel_rfl, (hA.nf (nf_busy1 A k a) hk)⟩
noncomputable def CO4 := base (fun _ => none) (fun g => match g with | 24 => some WordS | 19 => some busy1S | _ => none) (fun _ => none)
theorem env_CO4 : EnvOk CO4 := env_of (by
 intro g F h
 split at h
 ·cases h; exact ok_Word
 ·cases h; exact ok_busy1
 ·cases h) (fun g F h => (by cases h)) (fun g F h => (by cases h))
theorem fn_count : FnOk Tryd.prog 18 Tryd.f18 (bodyOf Tryd.f18) := ⟨by kernel_rfl, by kernel_rfl, by kernel_rfl⟩
noncomputable def ff_count : Fun := ⟨Tryd.f18.ntmps, 0, Tryd.f18.results.toList, fun i => match i with | 3 => some [1, 5, 9, 10, 11] | _ => none, fun _ => false, fun _ => []⟩
theorem nf_count_a (A : KA Kd) (k : List PV -> Heap Kd -> Prop) (id fr : Int) (ws ns : List Win) : evT CO4 ff_count A k 400 false [.code (bodyOf Tryd.f18)] (startEnv 22 [.agg [.int .i64 id, .int .i64 fr, .sl _ e_api_Window ws, .sl _ e_api_Need ns], .fn (.func 19) [] []]) [] = (∃ (id_1 : Int), ∃ (fr_1 : Int), ∃ (n : Nat), ∃ (ws_1 : List Win), ∃ (ns_1 : List Win), PV.agg [PV.int IntKind.i64 id, PV.int IntKind.i64 fr, PV.sl (Int × Int × Int) e_api_Window ws, PV.sl (Int × Int × Int) e_api_Need ns] = PV.agg [PV.int IntKind.i64 id_1, PV.int IntKind.i64 fr_1, PV.sl (Int × Int × Int) e_api_Window ws_1, PV.sl (Int × Int × Int) e_api_Need ns_1] /\ (fr_1 = (↑n : Int) /\ n < 1099511627776 /\ ws_1.length < 4611686018427387904) /\ A (td Tryd.f18 3) (envAt 22 [((1 : Nat), PV.fn (Fn.func (19 : FuncId)) [] []), (5, .int .i64 0), (9, .sl Int e_int (wordW fr_1 ws_1)), (10, .int .i64 (↑(wordW fr_1 ws_1).length : Int)), (11, .int .i64 0)]) []) := by kernel_rfl
theorem nf_count_b (A : KA Kd) (k : List PV -> Heap Kd -> Prop) (l : List Int) (c i : Int) : evT CO4 ff_count A k 400 true (td Tryd.f18 3) (envAt 22 [(1, .fn (.func 19) [] []), (5, .int .i64 c), (9, .sl _ e_int l), (10, .int .i64 l.length), (11, .int .i64 i)]) [] = (bif decide (i < (↑l.length : Int)) then (0 <= i /\ i < (↑l.length : Int)) /\ ∀ (y : Int), l[i.toNat]? = some y -> bif y != (-1 : Int) then A (td Tryd.f18 3) (envAt 22 [((1 : Nat), PV.fn (Fn.func (19 : FuncId)) [] []), (5, .int .i64 (IntKind.i64.wrap (c + 1))), (9, .sl Int e_int l), (10, .int .i64 (↑l.length : Int)), (11, .int .i64 (IntKind.i64.wrap (i + 1)))]) [] else A (td Tryd.f18 3) (envAt 22 [((1 : Nat), PV.fn (Fn.func (19 : FuncId)) [] []), (5, .int .i64 c), (9, .sl Int e_int l), (10, .int .i64 (↑l.length : Int)), (11, .int .i64 (IntKind.i64.wrap (i + 1)))]) []
else k [PV.int IntKind.i64 c] []) := by kernel_rfl
def countS : SpecS := fun ys Φ => match ys with
 | [x_0, .fn (.func 19) [] []] => ∃ (id : Int), ∃ (fr : Int), ∃ (n : Nat), ∃ (ws : List Win), ∃ (ns : List Win), x_0 = .agg [.int .i64 id, .int .i64 fr, .sl _ e_api_Window ws, .sl _ e_api_Need ns] /\ (fr = (n : Int) /\ n < 1099511627776 /\ ws.length < 4611686018427387904) /\ Φ [.int .i64 (busyN (wordW fr ws))]
 | _ => False
theorem countS_mono : MonoS countS := by
 intro ys Φ Ψ h hF
 unfold countS at hF ⊢
 split at hF
 ·obtain ⟨a0, a1, a2, a3, a4, q0, hp, hk⟩ := hF; exact ⟨a0, a1, a2, a3, a4, q0, hp, h _ hk⟩
 ·exact hF.elim
theorem countS_inv {ys : List PV} {Φ : List PV -> Prop} (h : countS ys Φ) : ∃ (id : Int) (fr : Int) (n : Nat) (ws : List Win) (ns : List Win), ys = [.agg [.int .i64 id, .int .i64 fr, .sl _ e_api_Window ws, .sl _ e_api_Need ns], .fn (.func 19) [] []] /\ (fr = (n : Int) /\ n < 1099511627776 /\ ws.length < 4611686018427387904) /\ Φ [.int .i64 (busyN (wordW fr ws))] := by
 unfold countS at h
 split at h
 ·obtain ⟨a0, a1, a2, a3, a4, q0, hz⟩ := h
  subst q0
  exact ⟨a0, a1, a2, a3, a4, rfl, hz⟩
 ·exact h.elim
theorem ok_count : FunS B 18 countS := by
 refine funS_of (N := 22) (f := ff_count) env_CO4 mixed fn_count (by kernel_rfl) (by kernel_rfl) (by kernel_rfl) countS_mono ?_
 intro A k ys hA hF
 obtain ⟨id, fr, n, ws, ns, rfl, ⟨hn, hn2, hl⟩, hk⟩ := countS_inv hF; clear hF
 refine ⟨by kernel_rfl, (hA.nf (nf_count_a A k id fr ws ns) ?_)⟩
 refine ⟨id, fr, n, ws, ns, rfl, ⟨hn, hn2, hl⟩, ?_⟩
 have hlen : (wordW fr ws).length = n := by rw [wordW_len, hn]; simp
 generalize wordW fr ws = l at hk hlen
 refine down_loop l (fun i => ∀ c : Nat, c <= i -> k [.int .i64 ((c : Int) + busyN (l.drop i))] [] -> A (td Tryd.f18 3) (envAt 22 [(1, .fn (.func 19) [] []), (5, .int .i64 (c : Int)), (9, .sl _ e_int l), (10, .int .i64 l.length), (11, .int .i64 (i : Int))]) []) ?_ ?_ 0 (Nat.zero_le _) 0 (Nat.le_refl _) (by rw [List.drop_zero]; simpa using hk)
 ·intro c hc hk
  refine (hA.nf (nf_count_b A k l _ _) ?_)
  rw [ilt_false (Nat.lt_irrefl _)]
  rw [List.drop_length] at hk
  simpa [busyN] using hk
 ·intro i y hy ih c hc hk
  refine (hA.nf (nf_count_b A k l _ _) ?_)
  rw [ilt_true (lt_of_get hy)]
  refine get_at hy ?_
  rw [drop_cons' hy, busyN] at hk
  have hlt := lt_of_get hy
  rw [wrap_succ (i := i) (by omega)]
  cases he : y != -1 with
  | true =>
   rw [he] at hk
   rw [wrap_succ (i := c) (by omega)]
   refine ih (c + 1) (by omega) ?_
   rw [show (((c + 1 : Nat) : Int) + busyN (l.drop (i + 1))) = (c : Int) + ((bif true then 1 else 0) + busyN (l.drop (i + 1))) by simp; omega]; exact hk
  | false =>
   rw [he] at hk
   refine ih c (by omega) ?_
   rw [show ((c : Int) + busyN (l.drop (i + 1))) = (c : Int) + ((bif false then 1 else 0) + busyN (l.drop (i + 1))) by simp]; exact hk
def BusyS : SpecS := fun ys Φ => match ys with
 | [x_0] => ∃ (id : Int), ∃ (fr : Int), ∃ (n : Nat), ∃ (ws : List Win), ∃ (ns : List Win), x_0 = .agg [.int .i64 id, .int .i64 fr, .sl _ e_api_Window ws, .sl _ e_api_Need ns] /\ (fr = (n : Int) /\ n < 1099511627776 /\ ws.length < 4611686018427387904) /\ Φ [.int .i64 (busyN (wordW fr ws))]
 | _ => False
theorem BusyS_mono : MonoS BusyS := by
 intro ys Φ Ψ h hF
 unfold BusyS at hF ⊢
 split at hF
 ·obtain ⟨a0, a1, a2, a3, a4, q0, hp, hk⟩ := hF; exact ⟨a0, a1, a2, a3, a4, q0, hp, h _ hk⟩
 ·exact hF.elim
theorem BusyS_inv {ys : List PV} {Φ : List PV -> Prop} (h : BusyS ys Φ) : ∃ (id : Int) (fr : Int) (n : Nat) (ws : List Win) (ns : List Win), ys = [.agg [.int .i64 id, .int .i64 fr, .sl _ e_api_Window ws, .sl _ e_api_Need ns]] /\ (fr = (n : Int) /\ n < 1099511627776 /\ ws.length < 4611686018427387904) /\ Φ [.int .i64 (busyN (wordW fr ws))] := by
 unfold BusyS at h
 split at h
 ·obtain ⟨a0, a1, a2, a3, a4, q0, hz⟩ := h
  subst q0
  exact ⟨a0, a1, a2, a3, a4, rfl, hz⟩
 ·exact h.elim
noncomputable def CO5 := base (fun _ => none) (fun g => match g with | 19 => some busy1S | 18 => some countS | _ => none) (fun _ => none)
theorem env_CO5 : EnvOk CO5 := env_of (by
 intro g F h
 split at h
 ·cases h; exact ok_busy1
 ·cases h; exact ok_count
 ·cases h) (fun g F h => (by cases h)) (fun g F h => (by cases h))
theorem fn_Busy : FnOk Tryd.prog 9 Tryd.f9 (bodyOf Tryd.f9) := ⟨by kernel_rfl, by kernel_rfl, by kernel_rfl⟩
noncomputable def ff_Busy : Fun := ⟨Tryd.f9.ntmps, 0, Tryd.f9.results.toList, fun _ => none, fun _ => false, fun _ => []⟩
theorem nf_Busy (A : KA Kd) (k : List PV -> Heap Kd -> Prop) (id fr : Int) (ws ns : List Win) : evT CO5 ff_Busy A k 400 false [.code (bodyOf Tryd.f9)] (startEnv 5 [.agg [.int .i64 id, .int .i64 fr, .sl _ e_api_Window ws, .sl _ e_api_Need ns]]) [] = (∃ (id_1 : Int), ∃ (fr_1 : Int), ∃ (n : Nat), ∃ (ws_1 : List Win), ∃ (ns_1 : List Win), PV.agg [PV.int IntKind.i64 id, PV.int IntKind.i64 fr, PV.sl (Int × Int × Int) e_api_Window ws, PV.sl (Int × Int × Int) e_api_Need ns] = PV.agg [PV.int IntKind.i64 id_1, PV.int IntKind.i64 fr_1, PV.sl (Int × Int × Int) e_api_Window ws_1, PV.sl (Int × Int × Int) e_api_Need ns_1] /\ (fr_1 = (↑n : Int) /\ n < 1099511627776 /\ ws_1.length < 4611686018427387904) /\ k [.int .i64 (busyN (wordW fr_1 ws_1))] []) := by kernel_rfl
theorem ok_Busy : FunS B 9 BusyS := by
 refine funS_of (N := 5) (f := ff_Busy) env_CO5 mixed fn_Busy (by kernel_rfl) (by kernel_rfl) (by kernel_rfl) BusyS_mono ?_
 intro A k ys hA hF
 obtain ⟨id, fr, n, ws, ns, rfl, h, hk⟩ := BusyS_inv hF; clear hF
 exact ⟨by kernel_rfl, (hA.nf (nf_Busy A k id fr ws ns) ⟨id, fr, n, ws, ns, rfl, h, hk⟩)⟩
def TouchS : SpecS := fun ys Φ => match ys with
 | [.agg [.int .i64 a, .int .i64 b, .int .i64 c], .agg [.int .i64 d, .int .i64 e, .int .i64 f]] => Φ [.bool (decide (mmI true b e < mmI false (IntKind.i64.wrap (b + c)) (IntKind.i64.wrap (e + f))))]
 | _ => False
theorem TouchS_mono : MonoS TouchS := by
 intro ys Φ Ψ h hF
 unfold TouchS at hF ⊢
 split at hF
 ·exact h _ hF
 ·exact hF.elim
theorem TouchS_inv {ys : List PV} {Φ : List PV -> Prop} (h : TouchS ys Φ) : ∃ (a : Int) (b : Int) (c : Int) (d : Int) (e : Int) (f : Int), ys = [.agg [.int .i64 a, .int .i64 b, .int .i64 c], .agg [.int .i64 d, .int .i64 e, .int .i64 f]] /\ Φ [.bool (decide (mmI true b e < mmI false (IntKind.i64.wrap (b + c)) (IntKind.i64.wrap (e + f))))] := by
 unfold TouchS at h
 split at h
 ·exact ⟨_, _, _, _, _, _, rfl, h⟩
 ·exact h.elim
theorem fn_Touch : FnOk Tryd.prog 8 Tryd.f8 (bodyOf Tryd.f8) := ⟨by kernel_rfl, by kernel_rfl, by kernel_rfl⟩
noncomputable def ff_Touch : Fun := ⟨Tryd.f8.ntmps, 0, Tryd.f8.results.toList, fun _ => none, fun _ => false, fun _ => []⟩
theorem nf_Touch (A : KA Kd) (k : List PV -> Heap Kd -> Prop) (a b c d e f : Int) : evT B ff_Touch A k 400 false [.code (bodyOf Tryd.f8)] (startEnv 22 [.agg [.int .i64 a, .int .i64 b, .int .i64 c], .agg [.int .i64 d, .int .i64 e, .int .i64 f]]) [] = (k [.bool (decide (mmI true b e < mmI false (IntKind.i64.wrap (b + c)) (IntKind.i64.wrap (e + f))))] []) := by kernel_rfl
theorem ok_Touch : FunS B 8 TouchS := by
 refine funS_of (N := 22) (f := ff_Touch) env0 mixed fn_Touch (by kernel_rfl) (by kernel_rfl) (by kernel_rfl) TouchS_mono ?_
 intro A k ys hA hF
 obtain ⟨a, b, c, d, e, f, rfl, hk⟩ := TouchS_inv hF; clear hF
 exact ⟨by kernel_rfl, (hA.nf (nf_Touch A k a b c d e f) hk)⟩
end Go.Ab.T
