import Derived.Test.YtajpmmjpkpgoeaaDoorFault
import Derived.Test.YtajpmmjpkpgoeaaDoorMaB
set_option linter.unusedVariables false
set_option linter.unusedSimpArgs false
set_option linter.unusedSectionVars false
namespace Go.Ab.T
open Go Go.Ab Go.Proofs
variable [DMode]
set_option maxRecDepth 100000
set_option maxHeartbeats 4000000
theorem wrap_succ9 {i : Nat} (h : i < 9223372036854775807) : IntKind.i64.wrap ((i : Int) + 1) = ((i + 1 : Nat) : Int) := by
 rw [wrap_id _ (by omega) (by omega)]; omega
def wiS : SpecS := fun ys Φ => match ys with
 | [.int .i64 v, .int .i64 a, .int .i64 b] => Φ [.bool (wiV v a b)]
 | _ => False
theorem wiS_mono : MonoS wiS := by
 intro ys Φ Ψ h hF
 unfold wiS at hF ⊢
 split at hF
 ·exact h _ hF
 ·exact hF.elim
theorem wiS_inv {ys : List PV} {Φ : List PV -> Prop} (h : wiS ys Φ) : ∃ (v : Int) (a : Int) (b : Int), ys = [.int .i64 v, .int .i64 a, .int .i64 b] /\ Φ [.bool (wiV v a b)] := by
 unfold wiS at h
 split at h
 ·exact ⟨_, _, _, rfl, h⟩
 ·exact h.elim
theorem fn_rin : FnOk Tryd.prog 10 Tryd.f10 (bodyOf Tryd.f10) := ⟨by kernel_rfl, by kernel_rfl, by kernel_rfl⟩
noncomputable def ff_rin : Fun := ⟨Tryd.f10.ntmps, 0, Tryd.f10.results.toList, fun _ => none, fun _ => false, fun _ => []⟩
theorem nf_rin (A : KA Kd) (k : List PV -> Heap Kd -> Prop) (v a b : Int) : evT B ff_rin A k 400 false [.code (bodyOf Tryd.f10)] (startEnv 15 [.int .i64 v, .int .i64 a, .int .i64 b]) [] = (bif decide (v >= a) then k [.bool (decide (v <= b))] [] else k [.bool false] []) := by kernel_rfl
theorem ok_rin : FunS B 10 wiS := by
 refine funS_of (N := 15) (f := ff_rin) env0 mixed fn_rin (by kernel_rfl) (by kernel_rfl) (by kernel_rfl) wiS_mono ?_
 intro A k ys hA hF
 obtain ⟨v, a, b, rfl, hk⟩ := wiS_inv hF; clear hF
 refine ⟨by kernel_rfl, (hA.nf (nf_rin A k v a b) ?_)⟩
 unfold wiV at hk
 cases h1 : decide (v >= a) with
 | true => rw [h1, Bool.true_and] at hk; exact hk
 | false => rw [h1, Bool.false_and] at hk; exact hk
noncomputable def R9 := base (fun _ => none) (fun g => match g with | 10 => some wiS | _ => none) (fun _ => none)
theorem env_R9 : EnvOk R9 := env_of (by
 intro g F h
 split at h
 ·cases h; exact ok_rin
 ·cases h) (fun g F h => (by cases h)) (fun g F h => (by cases h))
def schRS : SpecS := fun ys Φ => match ys with
 | [x_0] => ∃ (id : Int), ∃ (fr : Int), ∃ (ws : List W3), ∃ (ns : List W3), x_0 = .agg [.int .i64 id, .int .i64 fr, .sl _ e_api_Window ws, .sl _ e_api_Need ns] /\ (ws.length < 9223372036854775808 /\ ns.length < 9223372036854775808) /\ Φ [.int .i64 (schR (id, fr, ws, ns))]
 | _ => False
theorem schRS_mono : MonoS schRS := by
 intro ys Φ Ψ h hF
 unfold schRS at hF ⊢
 split at hF
 ·obtain ⟨a0, a1, a2, a3, q0, hp, hk⟩ := hF; exact ⟨a0, a1, a2, a3, q0, hp, h _ hk⟩
 ·exact hF.elim
theorem schRS_inv {ys : List PV} {Φ : List PV -> Prop} (h : schRS ys Φ) : ∃ (id : Int) (fr : Int) (ws : List W3) (ns : List W3), ys = [.agg [.int .i64 id, .int .i64 fr, .sl _ e_api_Window ws, .sl _ e_api_Need ns]] /\ (ws.length < 9223372036854775808 /\ ns.length < 9223372036854775808) /\ Φ [.int .i64 (schR (id, fr, ws, ns))] := by
 unfold schRS at h
 split at h
 ·obtain ⟨a0, a1, a2, a3, q0, hz⟩ := h
  subst q0
  exact ⟨a0, a1, a2, a3, rfl, hz⟩
 ·exact h.elim
theorem fn_rschR : FnOk Tryd.prog 4 Tryd.f4 (bodyOf Tryd.f4) := ⟨by kernel_rfl, by kernel_rfl, by kernel_rfl⟩
noncomputable def ff_rschR : Fun := ⟨Tryd.f4.ntmps, 0, Tryd.f4.results.toList, fun i => match i with | 14 => some [1, 5] | 6 => some [1, 3] | _ => none, fun _ => false, fun _ => []⟩
theorem nf_rschR_a (A : KA Kd) (k : List PV -> Heap Kd -> Prop) (id fr : Int) (ws ns : List W3) : evT R9 ff_rschR A k 400 false [.code (bodyOf Tryd.f4)] (startEnv 81 [.agg [.int .i64 id, .int .i64 fr, .sl _ e_api_Window ws, .sl _ e_api_Need ns]]) [] = (bif !wiV id 0 255 then k [.int .i64 18] []
else bif !wiV fr (1 : Int) (1048576 : Int) then k [PV.int IntKind.i64 (18 : Int)] [] else bif decide ((↑ws.length : Int) > (256 : Int)) then k [PV.int IntKind.i64 (8 : Int)] [] else A (td Tryd.f4 (6 : Nat)) (envAt (81 : Nat) [((1 : Nat), PV.ptr (0 : Nat) (0 : Nat)), ((3 : Nat), PV.int IntKind.i64 (0 : Int))]) [AObj.box [PV.int IntKind.i64 id, PV.int IntKind.i64 fr, PV.sl (Int × Int × Int) e_api_Window ws, PV.sl (Int × Int × Int) e_api_Need ns]]) := by kernel_rfl
theorem nf_rschR_b (A : KA Kd) (k : List PV -> Heap Kd -> Prop) (id fr : Int) (ws ns : List W3) (i : Int) : evT R9 ff_rschR A k 400 true (td Tryd.f4 6) (envAt 81 [(1, .ptr 0 0), (3, .int .i64 i)]) [.box [.int .i64 id, .int .i64 fr, .sl _ e_api_Window ws, .sl _ e_api_Need ns]] = (bif decide (i < (↑ws.length : Int)) then (0 <= i /\ i < (↑ws.length : Int)) /\ ∀ (y : Int × Int × Int), ws[i.toNat]? = some y -> bif !wiV y.fst 0 255 then k [.int .i64 18] [] else bif !wiV y.snd.fst 0 1048576 then k [.int .i64 18] [] else bif !wiV y.snd.snd 0 1048576 then k [.int .i64 18] [] else A (td Tryd.f4 6) (envAt 81 [(1, .ptr 0 0), (3, .int .i64 (IntKind.i64.wrap (i + 1)))]) [.box [.int .i64 id, .int .i64 fr, .sl (Int × Int × Int) e_api_Window ws, .sl (Int × Int × Int) e_api_Need ns]]
else bif decide ((↑ns.length : Int) > (32 : Int)) then k [PV.int IntKind.i64 (8 : Int)] [] else A (td Tryd.f4 (14 : Nat)) (envAt (81 : Nat) [((1 : Nat), PV.ptr (0 : Nat) (0 : Nat)), ((5 : Nat), PV.int IntKind.i64 (0 : Int))]) [AObj.box [PV.int IntKind.i64 id, PV.int IntKind.i64 fr, PV.sl (Int × Int × Int) e_api_Window ws, PV.sl (Int × Int × Int) e_api_Need ns]]) := by kernel_rfl
theorem nf_rschR_c (A : KA Kd) (k : List PV -> Heap Kd -> Prop) (id fr : Int) (ws ns : List W3) (i : Int) : evT R9 ff_rschR A k 400 true (td Tryd.f4 14) (envAt 81 [(1, .ptr 0 0), (5, .int .i64 i)]) [.box [.int .i64 id, .int .i64 fr, .sl _ e_api_Window ws, .sl _ e_api_Need ns]] = (bif decide (i < (↑ns.length : Int)) then (0 <= i /\ i < (↑ns.length : Int)) /\ ∀ (y : Int × Int × Int), ns[i.toNat]? = some y -> bif !wiV y.fst 0 255 then k [.int .i64 18] [] else bif !wiV y.snd.fst 0 1048576 then k [.int .i64 18] [] else bif !wiV y.snd.snd 0 1048576 then k [.int .i64 18] [] else A (td Tryd.f4 14) (envAt 81 [(1, .ptr 0 0), (5, .int .i64 (IntKind.i64.wrap (i + 1)))]) [.box [.int .i64 id, .int .i64 fr, .sl (Int × Int × Int) e_api_Window ws, .sl (Int × Int × Int) e_api_Need ns]]
else k [PV.int IntKind.i64 (0 : Int)] []) := by kernel_rfl
theorem ok_rschR : FunS B 4 schRS := by
 refine funS_of (N := 81) (f := ff_rschR) env_R9 mixed fn_rschR (by kernel_rfl) (by kernel_rfl) (by kernel_rfl) schRS_mono ?_
 intro A k ys hA hF
 obtain ⟨id, fr, ws, ns, rfl, ⟨hw, hn⟩, hk⟩ := schRS_inv hF; clear hF
 refine ⟨by kernel_rfl, (hA.nf (nf_rschR_a A k id fr ws ns) ?_)⟩
 unfold schR at hk
 cases c1 : wiV id 0 255 with
 | false => simp only [c1] at hk; exact hk
 | true =>
 cases c2 : wiV fr 1 1048576 with
 | false => simp only [c1, c2] at hk; exact hk
 | true =>
 cases c3 : decide ((ws.length : Int) > 256) with
 | true => simp only [c1, c2, c3] at hk; exact hk
 | false =>
 simp only [c1, c2, c3, Bool.not_true, cond_false] at hk
 clear c1 c2 c3
 have two : ∀ i, i <= ns.length -> k [.int .i64 (bif !rowsR (ns.drop i) then 18 else 0)] [] -> A (td Tryd.f4 14) (envAt 81 [(1, .ptr 0 0), (5, .int .i64 (i : Int))]) [.box [.int .i64 id, .int .i64 fr, .sl _ e_api_Window ws, .sl _ e_api_Need ns]] := by
  refine down_loop ns _ ?_ ?_
  ·intro hk
   refine (hA.nf (nf_rschR_c A k id fr ws ns _) ?_)
   rw [ilt_false (Nat.lt_irrefl _)]
   rw [List.drop_length] at hk; exact hk
  ·intro i y hy ih hk
   have hlt := lt_of_get hy
   refine (hA.nf (nf_rschR_c A k id fr ws ns _) ?_)
   rw [ilt_true hlt]
   refine get_at hy ?_
   rw [drop_cons' hy] at hk
   simp only [rowsR, List.all_cons, okW] at hk
   cases c1 : wiV y.1 0 255 with
   | false => simp only [c1] at hk; exact hk
   | true =>
   cases c2 : wiV y.2.1 0 1048576 with
   | false => simp only [c1, c2] at hk; exact hk
   | true =>
   cases c3 : wiV y.2.2 0 1048576 with
   | false => simp only [c1, c2, c3] at hk; exact hk
   | true =>
   simp only [c1, c2, c3] at hk
   rw [wrap_succ9 (by omega)]
   exact ih hk
 refine down_loop ws (fun i => k [.int .i64 (bif !rowsR (ws.drop i) then 18 else bif decide ((ns.length : Int) > 32) then 8 else bif !rowsR ns then 18 else 0)] [] -> A (td Tryd.f4 6) (envAt 81 [(1, .ptr 0 0), (3, .int .i64 (i : Int))]) [.box [.int .i64 id, .int .i64 fr, .sl _ e_api_Window ws, .sl _ e_api_Need ns]]) ?_ ?_ 0 (Nat.zero_le _) hk
 ·intro hk
  refine (hA.nf (nf_rschR_b A k id fr ws ns _) ?_)
  rw [ilt_false (Nat.lt_irrefl _)]
  rw [List.drop_length] at hk
  cases c5 : decide ((ns.length : Int) > 32) with
  | true => rw [c5] at hk; exact hk
  | false => rw [c5] at hk; exact two 0 (Nat.zero_le _) hk
 ·intro i y hy ih hk
  have hlt := lt_of_get hy
  refine (hA.nf (nf_rschR_b A k id fr ws ns _) ?_)
  rw [ilt_true hlt]
  refine get_at hy ?_
  rw [drop_cons' hy] at hk
  simp only [rowsR, List.all_cons, okW] at hk
  cases c1 : wiV y.1 0 255 with
  | false => simp only [c1] at hk; exact hk
  | true =>
  cases c2 : wiV y.2.1 0 1048576 with
  | false => simp only [c1, c2] at hk; exact hk
  | true =>
  cases c3 : wiV y.2.2 0 1048576 with
  | false => simp only [c1, c2, c3] at hk; exact hk
  | true =>
  simp only [c1, c2, c3] at hk
  rw [wrap_succ9 (by omega)]
  exact ih hk
end Go.Ab.T
