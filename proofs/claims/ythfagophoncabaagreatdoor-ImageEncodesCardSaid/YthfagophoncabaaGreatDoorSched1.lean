import Derived.Test.YthfagophoncabaaGreatDoorPut2
import Derived.Test.YthfagophoncabaaGreatDoorRef01T
import Derived.Test.YthfagophoncabaaGreatDoorMaB
set_option linter.unusedVariables false
set_option linter.unusedSimpArgs false
set_option linter.unusedSectionVars false
namespace Go.Ab.T
open Go Go.Ab Go.Proofs
variable [DMode]
set_option maxRecDepth 100000
set_option maxHeartbeats 4000000
theorem wrap_succ9 {i : Nat} (h : i < 9223372036854775807) : IntKind.i64.wrap ((i : Int) + 1) = ((i + 1 : Nat) : Int) := by
 rw [wrap_id _ (by omega) (by omega)]; omega
def wiS : SpecS := fun ys Φ => match ys with
 | [.int .i64 v, .int .i64 a, .int .i64 b] => Φ [.bool (wiV v a b)]
 | _ => False
theorem wiS_mono : MonoS wiS := by
 intro ys Φ Ψ h hF
 unfold wiS at hF ⊢
 split at hF
 ·exact h _ hF
 ·exact hF.elim
theorem wiS_inv {ys : List PV} {Φ : List PV -> Prop} (h : wiS ys Φ) : ∃ (v : Int) (a : Int) (b : Int), ys = [.int .i64 v, .int .i64 a, .int .i64 b] /\ Φ [.bool (wiV v a b)] := by
 unfold wiS at h
 split at h
 ·exact ⟨_, _, _, rfl, h⟩
 ·exact h.elim
theorem fn_within : FnOk Tryz.prog 149 Tryz.f149 (bodyOf Tryz.f149) := ⟨by kernel_rfl, by kernel_rfl, by kernel_rfl⟩
noncomputable def ff_within : Fun := ⟨Tryz.f149.ntmps, 0, Tryz.f149.results.toList, fun _ => none, fun _ => false, fun _ => []⟩
theorem nf_within (A : KA Kd) (k : List PV -> Heap Kd -> Prop) (v a b : Int) : evT B ff_within A k 400 false [.code (bodyOf Tryz.f149)] (startEnv 15 [.int .i64 v, .int .i64 a, .int .i64 b]) [] = (bif decide (v >= a) then k [.bool (decide (v <= b))] [] else k [.bool false] []) := by kernel_rfl
theorem ok_within : FunS B 149 wiS := by
 refine funS_of (N := 15) (f := ff_within) env0 mixed fn_within (by kernel_rfl) (by kernel_rfl) (by kernel_rfl) wiS_mono ?_
 intro A k ys hA hF
 obtain ⟨v, a, b, rfl, hk⟩ := wiS_inv hF; clear hF
 refine ⟨by kernel_rfl, (hA.nf (nf_within A k v a b) ?_)⟩
 unfold wiV at hk
 cases h1 : decide (v >= a) with
 | true => rw [h1, Bool.true_and] at hk; exact hk
 | false => rw [h1, Bool.false_and] at hk; exact hk
theorem fn_rin : FnOk Tryz.prog 144 Tryz.f144 (bodyOf Tryz.f144) := ⟨by kernel_rfl, by kernel_rfl, by kernel_rfl⟩
noncomputable def ff_rin : Fun := ⟨Tryz.f144.ntmps, 0, Tryz.f144.results.toList, fun _ => none, fun _ => false, fun _ => []⟩
theorem nf_rin (A : KA Kd) (k : List PV -> Heap Kd -> Prop) (v a b : Int) : evT B ff_rin A k 400 false [.code (bodyOf Tryz.f144)] (startEnv 15 [.int .i64 v, .int .i64 a, .int .i64 b]) [] = (bif decide (v >= a) then k [.bool (decide (v <= b))] [] else k [.bool false] []) := by kernel_rfl
theorem ok_rin : FunS B 144 wiS := by
 refine funS_of (N := 15) (f := ff_rin) env0 mixed fn_rin (by kernel_rfl) (by kernel_rfl) (by kernel_rfl) wiS_mono ?_
 intro A k ys hA hF
 obtain ⟨v, a, b, rfl, hk⟩ := wiS_inv hF; clear hF
 refine ⟨by kernel_rfl, (hA.nf (nf_rin A k v a b) ?_)⟩
 unfold wiV at hk
 cases h1 : decide (v >= a) with
 | true => rw [h1, Bool.true_and] at hk; exact hk
 | false => rw [h1, Bool.false_and] at hk; exact hk
def num3S : SpecS := fun ys Φ => match ys with
 | [.agg [.int .i64 a, .int .i64 b, .int .i64 c]] => Φ [.int .i64 a, .int .i64 b, .int .i64 c]
 | _ => False
theorem num3S_mono : MonoS num3S := by
 intro ys Φ Ψ h hF
 unfold num3S at hF ⊢
 split at hF
 ·exact h _ hF
 ·exact hF.elim
theorem num3S_inv {ys : List PV} {Φ : List PV -> Prop} (h : num3S ys Φ) : ∃ (a : Int) (b : Int) (c : Int), ys = [.agg [.int .i64 a, .int .i64 b, .int .i64 c]] /\ Φ [.int .i64 a, .int .i64 b, .int .i64 c] := by
 unfold num3S at h
 split at h
 ·exact ⟨_, _, _, rfl, h⟩
 ·exact h.elim
theorem fn_numWindow : FnOk Tryz.prog 165 Tryz.f165 (bodyOf Tryz.f165) := ⟨by kernel_rfl, by kernel_rfl, by kernel_rfl⟩
noncomputable def ff_numWindow : Fun := ⟨Tryz.f165.ntmps, 0, Tryz.f165.results.toList, fun _ => none, fun _ => false, fun _ => []⟩
theorem nf_numWindow (A : KA Kd) (k : List PV -> Heap Kd -> Prop) (a b c : Int) : evT B ff_numWindow A k 400 false [.code (bodyOf Tryz.f165)] (startEnv 27 [.agg [.int .i64 a, .int .i64 b, .int .i64 c]]) [] = (k [.int .i64 a, .int .i64 b, .int .i64 c] []) := by kernel_rfl
theorem ok_numWindow : FunS B 165 num3S := by
 refine funS_of (N := 27) (f := ff_numWindow) env0 mixed fn_numWindow (by kernel_rfl) (by kernel_rfl) (by kernel_rfl) num3S_mono ?_
 intro A k ys hA hF
 obtain ⟨a, b, c, rfl, hk⟩ := num3S_inv hF; clear hF
 exact ⟨by kernel_rfl, (hA.nf (nf_numWindow A k a b c) hk)⟩
theorem fn_numNeed : FnOk Tryz.prog 166 Tryz.f166 (bodyOf Tryz.f166) := ⟨by kernel_rfl, by kernel_rfl, by kernel_rfl⟩
noncomputable def ff_numNeed : Fun := ⟨Tryz.f166.ntmps, 0, Tryz.f166.results.toList, fun _ => none, fun _ => false, fun _ => []⟩
theorem nf_numNeed (A : KA Kd) (k : List PV -> Heap Kd -> Prop) (a b c : Int) : evT B ff_numNeed A k 400 false [.code (bodyOf Tryz.f166)] (startEnv 27 [.agg [.int .i64 a, .int .i64 b, .int .i64 c]]) [] = (k [.int .i64 a, .int .i64 b, .int .i64 c] []) := by kernel_rfl
theorem ok_numNeed : FunS B 166 num3S := by
 refine funS_of (N := 27) (f := ff_numNeed) env0 mixed fn_numNeed (by kernel_rfl) (by kernel_rfl) (by kernel_rfl) num3S_mono ?_
 intro A k ys hA hF
 obtain ⟨a, b, c, rfl, hk⟩ := num3S_inv hF; clear hF
 exact ⟨by kernel_rfl, (hA.nf (nf_numNeed A k a b c) hk)⟩
noncomputable def D0 := base (fun g => match g with | 49 => some (eitherOwn (lift 1 putIS) (lift 0 putS)) | _ => none) (fun g => match g with | 31 => some r01TS | 149 => some wiS | 165 => some num3S | 166 => some num3S | _ => none) (fun _ => none)
theorem env_D0 : EnvOk D0 := env_of (by
 intro g F h
 split at h
 ·cases h; exact ok_r01T
 ·cases h; exact ok_within
 ·cases h; exact ok_numWindow
 ·cases h; exact ok_numNeed
 ·cases h) (by
 intro g F h
 split at h
 ·cases h; exact (eitherOwn_ok (lift_ok ok_putI) (lift_ok ok_put))
 ·cases h) (fun g F h => (by cases h))
def rrWindowS : SpecS := fun ys Φ => match ys with
 | [x_0] => ∃ (l : List W3), x_0 = .sl _ e_api_Window l /\ (l.length < 9223372036854775808) /\ Φ [.bool (rowsR l)]
 | _ => False
theorem rrWindowS_mono : MonoS rrWindowS := by
 intro ys Φ Ψ h hF
 unfold rrWindowS at hF ⊢
 split at hF
 ·obtain ⟨a0, q0, hp, hk⟩ := hF; exact ⟨a0, q0, hp, h _ hk⟩
 ·exact hF.elim
theorem rrWindowS_inv {ys : List PV} {Φ : List PV -> Prop} (h : rrWindowS ys Φ) : ∃ (l : List W3), ys = [.sl _ e_api_Window l] /\ (l.length < 9223372036854775808) /\ Φ [.bool (rowsR l)] := by
 unfold rrWindowS at h
 split at h
 ·obtain ⟨a0, q0, hz⟩ := h
  subst q0
  exact ⟨a0, rfl, hz⟩
 ·exact h.elim
theorem fn_rrWindow : FnOk Tryz.prog 163 Tryz.f163 (bodyOf Tryz.f163) := ⟨by kernel_rfl, by kernel_rfl, by kernel_rfl⟩
noncomputable def ff_rrWindow : Fun := ⟨Tryz.f163.ntmps, 0, Tryz.f163.results.toList, fun i => match i with | 2 => some [8, 9, 10] | _ => none, fun _ => false, fun _ => []⟩
theorem nf_rrWindow_a (A : KA Kd) (k : List PV -> Heap Kd -> Prop) (l : List W3) : evT D0 ff_rrWindow A k 400 false [.code (bodyOf Tryz.f163)] (startEnv 34 [.sl _ e_api_Window l]) [] = (A (td Tryz.f163 2) (envAt 34 [(8, .sl (Int × Int × Int) e_api_Window l), (9, .int .i64 (↑l.length : Int)), (10, .int .i64 0)]) []) := by kernel_rfl
theorem nf_rrWindow_b (A : KA Kd) (k : List PV -> Heap Kd -> Prop) (l : List W3) (n i : Int) : evT D0 ff_rrWindow A k 400 true (td Tryz.f163 2) (envAt 34 [(8, .sl _ e_api_Window l), (9, .int .i64 n), (10, .int .i64 i)]) [] = (bif decide (i < n) then (0 <= i /\ i < (↑l.length : Int)) /\ ∀ (y : Int × Int × Int), l[i.toNat]? = some y -> bif !wiV y.fst 0 255 then k [.bool false] [] else bif !wiV y.snd.fst 0 1048576 then k [.bool false] [] else bif !wiV y.snd.snd 0 1048576 then k [.bool false] [] else A (td Tryz.f163 2) (envAt 34 [(8, .sl (Int × Int × Int) e_api_Window l), (9, .int .i64 n), (10, .int .i64 (IntKind.i64.wrap (i + 1)))]) []
else k [PV.bool true] []) := by kernel_rfl
theorem ok_rrWindow : FunS B 163 rrWindowS := by
 refine funS_of (N := 34) (f := ff_rrWindow) env_D0 mixed fn_rrWindow (by kernel_rfl) (by kernel_rfl) (by kernel_rfl) rrWindowS_mono ?_
 intro A k ys hA hF
 obtain ⟨l, rfl, hl, hk⟩ := rrWindowS_inv hF; clear hF
 refine ⟨by kernel_rfl, (hA.nf (nf_rrWindow_a A k l) ?_)⟩
 refine down_loop l (fun i => k [.bool (rowsR (l.drop i))] [] -> A (td Tryz.f163 2) (envAt 34 [(8, .sl _ e_api_Window l), (9, .int .i64 (l.length : Int)), (10, .int .i64 (i : Int))]) []) ?_ ?_ 0 (Nat.zero_le _) hk
 ·intro hk
  refine (hA.nf (nf_rrWindow_b A k l _ _) ?_)
  rw [ilt_false (Nat.lt_irrefl _)]
  rw [List.drop_length] at hk; exact hk
 ·intro i y hy ih hk
  have hlt := lt_of_get hy
  refine (hA.nf (nf_rrWindow_b A k l _ _) ?_)
  rw [ilt_true hlt]
  refine get_at hy ?_
  rw [drop_cons' hy] at hk
  simp only [rowsR, List.all_cons, okW] at hk
  cases c1 : wiV y.1 0 255 with
  | false => rw [c1] at hk; exact hk
  | true =>
  cases c2 : wiV y.2.1 0 1048576 with
  | false => rw [c1, c2] at hk; exact hk
  | true =>
  cases c3 : wiV y.2.2 0 1048576 with
  | false => rw [c1, c2, c3] at hk; exact hk
  | true =>
  rw [c1, c2, c3] at hk
  rw [wrap_succ9 (by omega)]
  exact ih hk
def rrNeedS : SpecS := fun ys Φ => match ys with
 | [x_0] => ∃ (l : List W3), x_0 = .sl _ e_api_Need l /\ (l.length < 9223372036854775808) /\ Φ [.bool (rowsR l)]
 | _ => False
theorem rrNeedS_mono : MonoS rrNeedS := by
 intro ys Φ Ψ h hF
 unfold rrNeedS at hF ⊢
 split at hF
 ·obtain ⟨a0, q0, hp, hk⟩ := hF; exact ⟨a0, q0, hp, h _ hk⟩
 ·exact hF.elim
theorem rrNeedS_inv {ys : List PV} {Φ : List PV -> Prop} (h : rrNeedS ys Φ) : ∃ (l : List W3), ys = [.sl _ e_api_Need l] /\ (l.length < 9223372036854775808) /\ Φ [.bool (rowsR l)] := by
 unfold rrNeedS at h
 split at h
 ·obtain ⟨a0, q0, hz⟩ := h
  subst q0
  exact ⟨a0, rfl, hz⟩
 ·exact h.elim
theorem fn_rrNeed : FnOk Tryz.prog 164 Tryz.f164 (bodyOf Tryz.f164) := ⟨by kernel_rfl, by kernel_rfl, by kernel_rfl⟩
noncomputable def ff_rrNeed : Fun := ⟨Tryz.f164.ntmps, 0, Tryz.f164.results.toList, fun i => match i with | 2 => some [8, 9, 10] | _ => none, fun _ => false, fun _ => []⟩
theorem nf_rrNeed_a (A : KA Kd) (k : List PV -> Heap Kd -> Prop) (l : List W3) : evT D0 ff_rrNeed A k 400 false [.code (bodyOf Tryz.f164)] (startEnv 34 [.sl _ e_api_Need l]) [] = (A (td Tryz.f164 2) (envAt 34 [(8, .sl (Int × Int × Int) e_api_Need l), (9, .int .i64 (↑l.length : Int)), (10, .int .i64 0)]) []) := by kernel_rfl
theorem nf_rrNeed_b (A : KA Kd) (k : List PV -> Heap Kd -> Prop) (l : List W3) (n i : Int) : evT D0 ff_rrNeed A k 400 true (td Tryz.f164 2) (envAt 34 [(8, .sl _ e_api_Need l), (9, .int .i64 n), (10, .int .i64 i)]) [] = (bif decide (i < n) then (0 <= i /\ i < (↑l.length : Int)) /\ ∀ (y : Int × Int × Int), l[i.toNat]? = some y -> bif !wiV y.fst 0 255 then k [.bool false] [] else bif !wiV y.snd.fst 0 1048576 then k [.bool false] [] else bif !wiV y.snd.snd 0 1048576 then k [.bool false] [] else A (td Tryz.f164 2) (envAt 34 [(8, .sl (Int × Int × Int) e_api_Need l), (9, .int .i64 n), (10, .int .i64 (IntKind.i64.wrap (i + 1)))]) []
else k [PV.bool true] []) := by kernel_rfl
theorem ok_rrNeed : FunS B 164 rrNeedS := by
 refine funS_of (N := 34) (f := ff_rrNeed) env_D0 mixed fn_rrNeed (by kernel_rfl) (by kernel_rfl) (by kernel_rfl) rrNeedS_mono ?_
 intro A k ys hA hF
 obtain ⟨l, rfl, hl, hk⟩ := rrNeedS_inv hF; clear hF
 refine ⟨by kernel_rfl, (hA.nf (nf_rrNeed_a A k l) ?_)⟩
 refine down_loop l (fun i => k [.bool (rowsR (l.drop i))] [] -> A (td Tryz.f164 2) (envAt 34 [(8, .sl _ e_api_Need l), (9, .int .i64 (l.length : Int)), (10, .int .i64 (i : Int))]) []) ?_ ?_ 0 (Nat.zero_le _) hk
 ·intro hk
  refine (hA.nf (nf_rrNeed_b A k l _ _) ?_)
  rw [ilt_false (Nat.lt_irrefl _)]
  rw [List.drop_length] at hk; exact hk
 ·intro i y hy ih hk
  have hlt := lt_of_get hy
  refine (hA.nf (nf_rrNeed_b A k l _ _) ?_)
  rw [ilt_true hlt]
  refine get_at hy ?_
  rw [drop_cons' hy] at hk
  simp only [rowsR, List.all_cons, okW] at hk
  cases c1 : wiV y.1 0 255 with
  | false => rw [c1] at hk; exact hk
  | true =>
  cases c2 : wiV y.2.1 0 1048576 with
  | false => rw [c1, c2] at hk; exact hk
  | true =>
  cases c3 : wiV y.2.2 0 1048576 with
  | false => rw [c1, c2, c3] at hk; exact hk
  | true =>
  rw [c1, c2, c3] at hk
  rw [wrap_succ9 (by omega)]
  exact ih hk
theorem fn_num9 : FnOk Tryz.prog 86 Tryz.f86 (bodyOf Tryz.f86) := ⟨by kernel_rfl, by kernel_rfl, by kernel_rfl⟩
noncomputable def ff_num9 : Fun := ⟨Tryz.f86.ntmps, 0, Tryz.f86.results.toList, fun _ => none, fun _ => false, fun _ => []⟩
theorem nf_num9 (A : KA Kd) (k : List PV -> Heap Kd -> Prop) (v n : Int) : evT D0 ff_num9 A k 400 false [.code (bodyOf Tryz.f86)] (startEnv 9 [.int .i64 v, .int .i64 n]) [] = (((0 <= IntKind.u64.wrap v /\ IntKind.u64.wrap v < 18446744073709551616) /\ 0 <= n /\ n <= 100) /\ k [.str (ByteArray.mk (beL n.toNat (IntKind.u64.wrap v).toNat).toArray)] []) := by kernel_rfl
def num9S : SpecS := fun ys Φ => match ys with
 | [.int .i64 v, .int .i64 n] => (0 <= v /\ v < 4611686018427387904 /\ 0 <= n /\ n <= 100) /\ Φ [.str ⟨(beL n.toNat v.toNat).toArray⟩]
 | _ => False
theorem num9S_mono : MonoS num9S := by
 intro ys Φ Ψ h hF
 unfold num9S at hF ⊢
 split at hF
 ·obtain ⟨hp, hk⟩ := hF; exact ⟨hp, h _ hk⟩
 ·exact hF.elim
theorem num9S_inv {ys : List PV} {Φ : List PV -> Prop} (h : num9S ys Φ) : ∃ (v : Int) (n : Int), ys = [.int .i64 v, .int .i64 n] /\ (0 <= v /\ v < 4611686018427387904 /\ 0 <= n /\ n <= 100) /\ Φ [.str ⟨(beL n.toNat v.toNat).toArray⟩] := by
 unfold num9S at h
 split at h
 ·exact ⟨_, _, rfl, h⟩
 ·exact h.elim
theorem ok_num9 : FunS B 86 num9S := by
 refine funS_of (N := 9) (f := ff_num9) env_D0 mixed fn_num9 (by kernel_rfl) (by kernel_rfl) (by kernel_rfl) num9S_mono ?_
 intro A k ys hA hF
 obtain ⟨v, n, rfl, ⟨h0, h1, h2, h3⟩, hk⟩ := num9S_inv hF; clear hF
 refine ⟨by kernel_rfl, (hA.nf (nf_num9 A k v n) ?_)⟩
 rw [u64_id v h0 (by omega)]
 exact ⟨⟨⟨h0, by omega⟩, h2, h3⟩, hk⟩
def sPutS : List PV -> Heap Kd -> (List PV -> Heap Kd -> Prop) -> Prop := fun ys L k => match ys, L with
 | [.own 0, .int .i64 v, .int .i64 n], [.row 5 l] => (sizeOk n = true /\ 0 <= v /\ v < 4611686018427387904 /\ v < ((256 ^ n.toNat : Nat) : Int) /\ l.length < 1099511627776) /\ k [.own 0] [.row 5 (addN l v n)]
 | _, _ => False
theorem sPutS_inv {ys : List PV} {L : Heap Kd} {k : List PV -> Heap Kd -> Prop} (h : sPutS ys L k) : ∃ (l : List UInt8) (v : Int) (n : Int), ys = [.own 0, .int .i64 v, .int .i64 n] /\ L = [.row 5 l] /\ (sizeOk n = true /\ 0 <= v /\ v < 4611686018427387904 /\ v < ((256 ^ n.toNat : Nat) : Int) /\ l.length < 1099511627776) /\ k [.own 0] [.row 5 (addN l v n)] := by
 unfold sPutS at h
 split at h
 ·exact ⟨_, _, _, rfl, rfl, h⟩
 ·exact h.elim
theorem fn_sPut : FnOk Tryz.prog 132 Tryz.f132 (bodyOf Tryz.f132) := ⟨by kernel_rfl, by kernel_rfl, by kernel_rfl⟩
noncomputable def ff_sPut : Fun := ⟨Tryz.f132.ntmps, 1, Tryz.f132.results.toList, fun _ => none, fun _ => false, fun _ => []⟩
theorem nf_sPut (A : KA Kd) (k : List PV -> Heap Kd -> Prop) (l : List UInt8) (v n : Int) : evT D0 ff_sPut A k 400 false [.code (bodyOf Tryz.f132)] (startEnv 16 [.own 0, .int .i64 v, .int .i64 n]) [.row 5 l] = ((0 <= IntKind.u64.wrap v /\ IntKind.u64.wrap v < 18446744073709551616 /\ l.length < 1099511627776) /\ k [.own 0] [.row 5 (putV l (IntKind.u64.wrap v) n)]) := by kernel_rfl
theorem ok_sPut : FunF B 132 1 sPutS := by
 refine funF_of (N := 16) (f := ff_sPut) env_D0 mixed fn_sPut (by kernel_rfl) (by kernel_rfl) ?_
 intro A k ys L hA hF
 obtain ⟨l, v, n, rfl, rfl, ⟨h0, h1, h2, h3, h4⟩, hk⟩ := sPutS_inv hF; clear hF
 refine ⟨by kernel_rfl, (hA.nf (nf_sPut A k l v n) ?_)⟩
 rw [u64_id v h1 (by omega)]
 refine ⟨⟨h1, by omega, h4⟩, ?_⟩
 rw [putV_ok l h0 h3]; exact hk
noncomputable def D1 := base (fun g => match g with | 132 => some (lift 1 sPutS) | _ => none) (fun g => match g with | 149 => some wiS | 144 => some wiS | 165 => some num3S | 166 => some num3S | 163 => some rrWindowS | 164 => some rrNeedS | _ => none) (fun _ => none)
theorem env_D1 : EnvOk D1 := env_of (by
 intro g F h
 split at h
 ·cases h; exact ok_within
 ·cases h; exact ok_rin
 ·cases h; exact ok_numWindow
 ·cases h; exact ok_numNeed
 ·cases h; exact ok_rrWindow
 ·cases h; exact ok_rrNeed
 ·cases h) (by
 intro g F h
 split at h
 ·cases h; exact (lift_ok ok_sPut)
 ·cases h) (fun g F h => (by cases h))
def prWindowS : List PV -> Heap Kd -> (List PV -> Heap Kd -> Prop) -> Prop := fun ys L k => match ys, L with
 | [.own 0, x_1], [.row 5 l] => ∃ (ws : List W3), x_1 = .sl _ e_api_Window ws /\ ((∀ w, w ∈ ws -> okW w = true) /\ l.length + 9 * ws.length < 1099511627776) /\ k [.own 0] [.row 5 (addR l ws)]
 | _, _ => False
theorem prWindowS_inv {ys : List PV} {L : Heap Kd} {k : List PV -> Heap Kd -> Prop} (h : prWindowS ys L k) : ∃ (l : List UInt8) (ws : List W3), ys = [.own 0, .sl _ e_api_Window ws] /\ L = [.row 5 l] /\ ((∀ w, w ∈ ws -> okW w = true) /\ l.length + 9 * ws.length < 1099511627776) /\ k [.own 0] [.row 5 (addR l ws)] := by
 unfold prWindowS at h
 split at h
 ·obtain ⟨a0, q0, hz⟩ := h
  subst q0
  exact ⟨_, a0, rfl, rfl, hz⟩
 ·exact h.elim
theorem fn_prWindow : FnOk Tryz.prog 133 Tryz.f133 (bodyOf Tryz.f133) := ⟨by kernel_rfl, by kernel_rfl, by kernel_rfl⟩
noncomputable def ff_prWindow : Fun := ⟨Tryz.f133.ntmps, 1, Tryz.f133.results.toList, fun i => match i with | 2 => some [0, 10, 11, 12] | _ => none, fun _ => false, fun _ => []⟩
theorem nf_prWindow_a (A : KA Kd) (k : List PV -> Heap Kd -> Prop) (l : List UInt8) (ws : List W3) : evT D1 ff_prWindow A k 400 false [.code (bodyOf Tryz.f133)] (startEnv 31 [.own 0, .sl _ e_api_Window ws]) [.row 5 l] = (A (td Tryz.f133 2) (envAt 31 [(0, .own 0), (10, .sl (Int × Int × Int) e_api_Window ws), (11, .int .i64 (↑ws.length : Int)), (12, .int .i64 0)]) [.row 5 l]) := by kernel_rfl
theorem nf_prWindow_b (A : KA Kd) (k : List PV -> Heap Kd -> Prop) (l : List UInt8) (ws : List W3) (n i : Int) : evT D1 ff_prWindow A k 400 true (td Tryz.f133 2) (envAt 31 [(0, .own 0), (10, .sl _ e_api_Window ws), (11, .int .i64 n), (12, .int .i64 i)]) [.row 5 l] = (bif decide (i < n) then (0 <= i /\ i < (↑ws.length : Int)) /\ ∀ (y : Int × Int × Int), ws[i.toNat]? = some y -> (sizeOk 1 = true /\ 0 <= y.fst /\ y.fst < 4611686018427387904 /\ y.fst < (↑((256 : Nat) ^ Int.toNat (1 : Int)) : Int) /\ l.length < 1099511627776) /\ (sizeOk 4 = true /\ 0 <= y.snd.fst /\ y.snd.fst < 4611686018427387904 /\ y.snd.fst < (↑((256 : Nat) ^ Int.toNat (4 : Int)) : Int) /\ (addN l y.fst (1 : Int)).length < 1099511627776) /\ (sizeOk 4 = true /\ 0 <= y.snd.snd /\ y.snd.snd < 4611686018427387904 /\ y.snd.snd < (↑((256 : Nat) ^ Int.toNat (4 : Int)) : Int) /\ (addN (addN l y.fst (1 : Int)) y.snd.fst (4 : Int)).length < 1099511627776) /\ A (td Tryz.f133 2) (envAt 31 [(0, .own 0), (10, .sl (Int × Int × Int) e_api_Window ws), (11, .int .i64 n), (12, .int .i64 (IntKind.i64.wrap (i + 1)))]) [.row 5 (addN (addN (addN l y.fst (1 : Int)) y.snd.fst (4 : Int)) y.snd.snd (4 : Int))]
else k [PV.own (0 : Nat)] [AObj.row (5 : Nat) l]) := by kernel_rfl
theorem ok_prWindow : FunF B 133 1 prWindowS := by
 refine funF_of (N := 31) (f := ff_prWindow) env_D1 mixed fn_prWindow (by kernel_rfl) (by kernel_rfl) ?_
 intro A k ys L hA hF
 obtain ⟨l, ws, rfl, rfl, ⟨hw, hl⟩, hk⟩ := prWindowS_inv hF; clear hF
 refine ⟨by kernel_rfl, (hA.nf (nf_prWindow_a A k l ws) ?_)⟩
 have hs : ∀ i, i <= ws.length -> ∀ l : List UInt8, l.length + 9 * (ws.length - i) < 1099511627776 -> k [.own 0] [.row 5 (addR l (ws.drop i))] ->
  A (td Tryz.f133 2) (envAt 31 [(0, .own 0), (10, .sl _ e_api_Window ws), (11, .int .i64 (ws.length : Int)), (12, .int .i64 (i : Int))]) [.row 5 l] := by
  refine down_loop ws _ ?_ ?_
  ·intro l _ hk
   refine (hA.nf (nf_prWindow_b A k l ws _ _) ?_)
   rw [ilt_false (Nat.lt_irrefl _)]
   rw [List.drop_length, addR, rowsB, List.append_nil] at hk; exact hk
  ·intro i y hy ih l hl hk
   have hlt := lt_of_get hy
   refine (hA.nf (nf_prWindow_b A k l ws _ _) ?_)
   rw [ilt_true hlt]
   obtain ⟨b1, b2, b3, b4⟩ := okW_b (hw y (List.mem_of_getElem? hy))
   have p1 : ((256 ^ Int.toNat 1 : Nat) : Int) = 256 := by decide
   have p4 : ((256 ^ Int.toNat 4 : Nat) : Int) = 4294967296 := by decide
   have q1 : (addN l y.1 1).length = l.length + 1 := by unfold addN; rw [List.length_append, beL_len]; rfl
   have q2 : (addN (addN l y.1 1) y.2.1 4).length = l.length + 5 := by unfold addN; simp only [List.length_append, beL_len]; rfl
   have q3 : (addN (addN (addN l y.1 1) y.2.1 4) y.2.2 4).length = l.length + 9 := by unfold addN; simp only [List.length_append, beL_len]; rfl
   rw [p1, p4]
   refine get_at hy ⟨⟨rfl, by omega, by omega, by omega, by omega⟩, ⟨rfl, by omega, by omega, by omega, by omega⟩, ⟨rfl, by omega, by omega, by omega, by omega⟩, ?_⟩
   rw [wrap_succ9 (by omega)]
   refine ih _ (by omega) ?_
   have e : addR (addN (addN (addN l y.1 1) y.2.1 4) y.2.2 4) (ws.drop (i + 1)) = addR l (ws.drop i) := by
    rw [drop_cons' hy]; unfold addR addN; rw [rowsB, rowB]
    simp only [List.append_assoc]; rfl
   rw [e]; exact hk
 exact hs 0 (Nat.zero_le _) l (by omega) hk
def prNeedS : List PV -> Heap Kd -> (List PV -> Heap Kd -> Prop) -> Prop := fun ys L k => match ys, L with
 | [.own 0, x_1], [.row 5 l] => ∃ (ws : List W3), x_1 = .sl _ e_api_Need ws /\ ((∀ w, w ∈ ws -> okW w = true) /\ l.length + 9 * ws.length < 1099511627776) /\ k [.own 0] [.row 5 (addR l ws)]
 | _, _ => False
theorem prNeedS_inv {ys : List PV} {L : Heap Kd} {k : List PV -> Heap Kd -> Prop} (h : prNeedS ys L k) : ∃ (l : List UInt8) (ws : List W3), ys = [.own 0, .sl _ e_api_Need ws] /\ L = [.row 5 l] /\ ((∀ w, w ∈ ws -> okW w = true) /\ l.length + 9 * ws.length < 1099511627776) /\ k [.own 0] [.row 5 (addR l ws)] := by
 unfold prNeedS at h
 split at h
 ·obtain ⟨a0, q0, hz⟩ := h
  subst q0
  exact ⟨_, a0, rfl, rfl, hz⟩
 ·exact h.elim
theorem fn_prNeed : FnOk Tryz.prog 134 Tryz.f134 (bodyOf Tryz.f134) := ⟨by kernel_rfl, by kernel_rfl, by kernel_rfl⟩
noncomputable def ff_prNeed : Fun := ⟨Tryz.f134.ntmps, 1, Tryz.f134.results.toList, fun i => match i with | 2 => some [0, 10, 11, 12] | _ => none, fun _ => false, fun _ => []⟩
theorem nf_prNeed_a (A : KA Kd) (k : List PV -> Heap Kd -> Prop) (l : List UInt8) (ws : List W3) : evT D1 ff_prNeed A k 400 false [.code (bodyOf Tryz.f134)] (startEnv 31 [.own 0, .sl _ e_api_Need ws]) [.row 5 l] = (A (td Tryz.f134 2) (envAt 31 [(0, .own 0), (10, .sl (Int × Int × Int) e_api_Need ws), (11, .int .i64 (↑ws.length : Int)), (12, .int .i64 0)]) [.row 5 l]) := by kernel_rfl
theorem nf_prNeed_b (A : KA Kd) (k : List PV -> Heap Kd -> Prop) (l : List UInt8) (ws : List W3) (n i : Int) : evT D1 ff_prNeed A k 400 true (td Tryz.f134 2) (envAt 31 [(0, .own 0), (10, .sl _ e_api_Need ws), (11, .int .i64 n), (12, .int .i64 i)]) [.row 5 l] = (bif decide (i < n) then (0 <= i /\ i < (↑ws.length : Int)) /\ ∀ (y : Int × Int × Int), ws[i.toNat]? = some y -> (sizeOk 1 = true /\ 0 <= y.fst /\ y.fst < 4611686018427387904 /\ y.fst < (↑((256 : Nat) ^ Int.toNat (1 : Int)) : Int) /\ l.length < 1099511627776) /\ (sizeOk 4 = true /\ 0 <= y.snd.fst /\ y.snd.fst < 4611686018427387904 /\ y.snd.fst < (↑((256 : Nat) ^ Int.toNat (4 : Int)) : Int) /\ (addN l y.fst (1 : Int)).length < 1099511627776) /\ (sizeOk 4 = true /\ 0 <= y.snd.snd /\ y.snd.snd < 4611686018427387904 /\ y.snd.snd < (↑((256 : Nat) ^ Int.toNat (4 : Int)) : Int) /\ (addN (addN l y.fst (1 : Int)) y.snd.fst (4 : Int)).length < 1099511627776) /\ A (td Tryz.f134 2) (envAt 31 [(0, .own 0), (10, .sl (Int × Int × Int) e_api_Need ws), (11, .int .i64 n), (12, .int .i64 (IntKind.i64.wrap (i + 1)))]) [.row 5 (addN (addN (addN l y.fst (1 : Int)) y.snd.fst (4 : Int)) y.snd.snd (4 : Int))]
else k [PV.own (0 : Nat)] [AObj.row (5 : Nat) l]) := by kernel_rfl
theorem ok_prNeed : FunF B 134 1 prNeedS := by
 refine funF_of (N := 31) (f := ff_prNeed) env_D1 mixed fn_prNeed (by kernel_rfl) (by kernel_rfl) ?_
 intro A k ys L hA hF
 obtain ⟨l, ws, rfl, rfl, ⟨hw, hl⟩, hk⟩ := prNeedS_inv hF; clear hF
 refine ⟨by kernel_rfl, (hA.nf (nf_prNeed_a A k l ws) ?_)⟩
 have hs : ∀ i, i <= ws.length -> ∀ l : List UInt8, l.length + 9 * (ws.length - i) < 1099511627776 -> k [.own 0] [.row 5 (addR l (ws.drop i))] ->
  A (td Tryz.f134 2) (envAt 31 [(0, .own 0), (10, .sl _ e_api_Need ws), (11, .int .i64 (ws.length : Int)), (12, .int .i64 (i : Int))]) [.row 5 l] := by
  refine down_loop ws _ ?_ ?_
  ·intro l _ hk
   refine (hA.nf (nf_prNeed_b A k l ws _ _) ?_)
   rw [ilt_false (Nat.lt_irrefl _)]
   rw [List.drop_length, addR, rowsB, List.append_nil] at hk; exact hk
  ·intro i y hy ih l hl hk
   have hlt := lt_of_get hy
   refine (hA.nf (nf_prNeed_b A k l ws _ _) ?_)
   rw [ilt_true hlt]
   obtain ⟨b1, b2, b3, b4⟩ := okW_b (hw y (List.mem_of_getElem? hy))
   have p1 : ((256 ^ Int.toNat 1 : Nat) : Int) = 256 := by decide
   have p4 : ((256 ^ Int.toNat 4 : Nat) : Int) = 4294967296 := by decide
   have q1 : (addN l y.1 1).length = l.length + 1 := by unfold addN; rw [List.length_append, beL_len]; rfl
   have q2 : (addN (addN l y.1 1) y.2.1 4).length = l.length + 5 := by unfold addN; simp only [List.length_append, beL_len]; rfl
   have q3 : (addN (addN (addN l y.1 1) y.2.1 4) y.2.2 4).length = l.length + 9 := by unfold addN; simp only [List.length_append, beL_len]; rfl
   rw [p1, p4]
   refine get_at hy ⟨⟨rfl, by omega, by omega, by omega, by omega⟩, ⟨rfl, by omega, by omega, by omega, by omega⟩, ⟨rfl, by omega, by omega, by omega, by omega⟩, ?_⟩
   rw [wrap_succ9 (by omega)]
   refine ih _ (by omega) ?_
   have e : addR (addN (addN (addN l y.1 1) y.2.1 4) y.2.2 4) (ws.drop (i + 1)) = addR l (ws.drop i) := by
    rw [drop_cons' hy]; unfold addR addN; rw [rowsB, rowB]
    simp only [List.append_assoc]; rfl
   rw [e]; exact hk
 exact hs 0 (Nat.zero_le _) l (by omega) hk
def schRS : SpecS := fun ys Φ => match ys with
 | [x_0] => ∃ (id : Int), ∃ (fr : Int), ∃ (ws : List W3), ∃ (ns : List W3), x_0 = .agg [.int .i64 id, .int .i64 fr, .sl _ e_api_Window ws, .sl _ e_api_Need ns] /\ (ws.length < 9223372036854775808 /\ ns.length < 9223372036854775808) /\ Φ [.int .i64 (schR (id, fr, ws, ns))]
 | _ => False
theorem schRS_mono : MonoS schRS := by
 intro ys Φ Ψ h hF
 unfold schRS at hF ⊢
 split at hF
 ·obtain ⟨a0, a1, a2, a3, q0, hp, hk⟩ := hF; exact ⟨a0, a1, a2, a3, q0, hp, h _ hk⟩
 ·exact hF.elim
theorem schRS_inv {ys : List PV} {Φ : List PV -> Prop} (h : schRS ys Φ) : ∃ (id : Int) (fr : Int) (ws : List W3) (ns : List W3), ys = [.agg [.int .i64 id, .int .i64 fr, .sl _ e_api_Window ws, .sl _ e_api_Need ns]] /\ (ws.length < 9223372036854775808 /\ ns.length < 9223372036854775808) /\ Φ [.int .i64 (schR (id, fr, ws, ns))] := by
 unfold schRS at h
 split at h
 ·obtain ⟨a0, a1, a2, a3, q0, hz⟩ := h
  subst q0
  exact ⟨a0, a1, a2, a3, rfl, hz⟩
 ·exact h.elim
theorem fn_schR : FnOk Tryz.prog 131 Tryz.f131 (bodyOf Tryz.f131) := ⟨by kernel_rfl, by kernel_rfl, by kernel_rfl⟩
noncomputable def ff_schR : Fun := ⟨Tryz.f131.ntmps, 0, Tryz.f131.results.toList, fun _ => none, fun _ => false, fun _ => []⟩
theorem nf_schR (A : KA Kd) (k : List PV -> Heap Kd -> Prop) (id fr : Int) (ws ns : List W3) : evT D1 ff_schR A k 400 false [.code (bodyOf Tryz.f131)] (startEnv 34 [.agg [.int .i64 id, .int .i64 fr, .sl _ e_api_Window ws, .sl _ e_api_Need ns]]) [] = (bif !wiV id 0 255 then k [.int .i64 18] []
else bif !wiV fr (1 : Int) (1048576 : Int) then k [PV.int IntKind.i64 (18 : Int)] [] else bif decide ((↑ws.length : Int) > (256 : Int)) then k [PV.int IntKind.i64 (8 : Int)] [] else ∃ (l : List W3), PV.sl (Int × Int × Int) e_api_Window ws = PV.sl (Int × Int × Int) e_api_Window l /\ l.length < (9223372036854775808 : Nat) /\ bif !rowsR l then k [PV.int IntKind.i64 (18 : Int)] [] else bif decide ((↑ns.length : Int) > (32 : Int)) then k [PV.int IntKind.i64 (8 : Int)] [] else ∃ (l : List W3), PV.sl (Int × Int × Int) e_api_Need ns = PV.sl (Int × Int × Int) e_api_Need l /\ l.length < (9223372036854775808 : Nat) /\ bif !rowsR l then k [PV.int IntKind.i64 (18 : Int)] [] else k [PV.int IntKind.i64 (0 : Int)] []) := by kernel_rfl
theorem ok_schR : FunS B 131 schRS := by
 refine funS_of (N := 34) (f := ff_schR) env_D1 mixed fn_schR (by kernel_rfl) (by kernel_rfl) (by kernel_rfl) schRS_mono ?_
 intro A k ys hA hF
 obtain ⟨id, fr, ws, ns, rfl, ⟨hw, hn⟩, hk⟩ := schRS_inv hF; clear hF
 refine ⟨by kernel_rfl, (hA.nf (nf_schR A k id fr ws ns) ?_)⟩
 unfold schR at hk
 cases c1 : wiV id 0 255 with
 | false => simp only [c1] at hk; exact hk
 | true =>
 cases c2 : wiV fr 1 1048576 with
 | false => simp only [c1, c2] at hk; exact hk
 | true =>
 cases c3 : decide ((ws.length : Int) > 256) with
 | true => simp only [c1, c2, c3] at hk; exact hk
 | false =>
 refine ⟨ws, rfl, hw, ?_⟩
 cases c4 : rowsR ws with
 | false => simp only [c1, c2, c3, c4] at hk; exact hk
 | true =>
 cases c5 : decide ((ns.length : Int) > 32) with
 | true => simp only [c1, c2, c3, c4, c5] at hk; exact hk
 | false =>
 refine ⟨ns, rfl, hn, ?_⟩
 cases c6 : rowsR ns with
 | false => simp only [c1, c2, c3, c4, c5, c6] at hk; exact hk
 | true => simp only [c1, c2, c3, c4, c5, c6] at hk; exact hk
theorem fn_rschR : FnOk Tryz.prog 81 Tryz.f81 (bodyOf Tryz.f81) := ⟨by kernel_rfl, by kernel_rfl, by kernel_rfl⟩
noncomputable def ff_rschR : Fun := ⟨Tryz.f81.ntmps, 0, Tryz.f81.results.toList, fun i => match i with | 14 => some [1, 5] | 6 => some [1, 3] | _ => none, fun _ => false, fun _ => []⟩
theorem nf_rschR_a (A : KA Kd) (k : List PV -> Heap Kd -> Prop) (id fr : Int) (ws ns : List W3) : evT D1 ff_rschR A k 400 false [.code (bodyOf Tryz.f81)] (startEnv 81 [.agg [.int .i64 id, .int .i64 fr, .sl _ e_api_Window ws, .sl _ e_api_Need ns]]) [] = (bif !wiV id 0 255 then k [.int .i64 18] []
else bif !wiV fr (1 : Int) (1048576 : Int) then k [PV.int IntKind.i64 (18 : Int)] [] else bif decide ((↑ws.length : Int) > (256 : Int)) then k [PV.int IntKind.i64 (8 : Int)] [] else A (td Tryz.f81 (6 : Nat)) (envAt (81 : Nat) [((1 : Nat), PV.ptr (0 : Nat) (0 : Nat)), ((3 : Nat), PV.int IntKind.i64 (0 : Int))]) [AObj.box [PV.int IntKind.i64 id, PV.int IntKind.i64 fr, PV.sl (Int × Int × Int) e_api_Window ws, PV.sl (Int × Int × Int) e_api_Need ns]]) := by kernel_rfl
theorem nf_rschR_b (A : KA Kd) (k : List PV -> Heap Kd -> Prop) (id fr : Int) (ws ns : List W3) (i : Int) : evT D1 ff_rschR A k 400 true (td Tryz.f81 6) (envAt 81 [(1, .ptr 0 0), (3, .int .i64 i)]) [.box [.int .i64 id, .int .i64 fr, .sl _ e_api_Window ws, .sl _ e_api_Need ns]] = (bif decide (i < (↑ws.length : Int)) then (0 <= i /\ i < (↑ws.length : Int)) /\ ∀ (y : Int × Int × Int), ws[i.toNat]? = some y -> bif !wiV y.fst 0 255 then k [.int .i64 18] [] else bif !wiV y.snd.fst 0 1048576 then k [.int .i64 18] [] else bif !wiV y.snd.snd 0 1048576 then k [.int .i64 18] [] else A (td Tryz.f81 6) (envAt 81 [(1, .ptr 0 0), (3, .int .i64 (IntKind.i64.wrap (i + 1)))]) [.box [.int .i64 id, .int .i64 fr, .sl (Int × Int × Int) e_api_Window ws, .sl (Int × Int × Int) e_api_Need ns]]
else bif decide ((↑ns.length : Int) > (32 : Int)) then k [PV.int IntKind.i64 (8 : Int)] [] else A (td Tryz.f81 (14 : Nat)) (envAt (81 : Nat) [((1 : Nat), PV.ptr (0 : Nat) (0 : Nat)), ((5 : Nat), PV.int IntKind.i64 (0 : Int))]) [AObj.box [PV.int IntKind.i64 id, PV.int IntKind.i64 fr, PV.sl (Int × Int × Int) e_api_Window ws, PV.sl (Int × Int × Int) e_api_Need ns]]) := by kernel_rfl
theorem nf_rschR_c (A : KA Kd) (k : List PV -> Heap Kd -> Prop) (id fr : Int) (ws ns : List W3) (i : Int) : evT D1 ff_rschR A k 400 true (td Tryz.f81 14) (envAt 81 [(1, .ptr 0 0), (5, .int .i64 i)]) [.box [.int .i64 id, .int .i64 fr, .sl _ e_api_Window ws, .sl _ e_api_Need ns]] = (bif decide (i < (↑ns.length : Int)) then (0 <= i /\ i < (↑ns.length : Int)) /\ ∀ (y : Int × Int × Int), ns[i.toNat]? = some y -> bif !wiV y.fst 0 255 then k [.int .i64 18] [] else bif !wiV y.snd.fst 0 1048576 then k [.int .i64 18] [] else bif !wiV y.snd.snd 0 1048576 then k [.int .i64 18] [] else A (td Tryz.f81 14) (envAt 81 [(1, .ptr 0 0), (5, .int .i64 (IntKind.i64.wrap (i + 1)))]) [.box [.int .i64 id, .int .i64 fr, .sl (Int × Int × Int) e_api_Window ws, .sl (Int × Int × Int) e_api_Need ns]]
else k [PV.int IntKind.i64 (0 : Int)] []) := by kernel_rfl
theorem ok_rschR : FunS B 81 schRS := by
 refine funS_of (N := 81) (f := ff_rschR) env_D1 mixed fn_rschR (by kernel_rfl) (by kernel_rfl) (by kernel_rfl) schRS_mono ?_
 intro A k ys hA hF
 obtain ⟨id, fr, ws, ns, rfl, ⟨hw, hn⟩, hk⟩ := schRS_inv hF; clear hF
 refine ⟨by kernel_rfl, (hA.nf (nf_rschR_a A k id fr ws ns) ?_)⟩
 unfold schR at hk
 cases c1 : wiV id 0 255 with
 | false => simp only [c1] at hk; exact hk
 | true =>
 cases c2 : wiV fr 1 1048576 with
 | false => simp only [c1, c2] at hk; exact hk
 | true =>
 cases c3 : decide ((ws.length : Int) > 256) with
 | true => simp only [c1, c2, c3] at hk; exact hk
 | false =>
 simp only [c1, c2, c3, Bool.not_true, cond_false] at hk
 clear c1 c2 c3
 have two : ∀ i, i <= ns.length -> k [.int .i64 (bif !rowsR (ns.drop i) then 18 else 0)] [] -> A (td Tryz.f81 14) (envAt 81 [(1, .ptr 0 0), (5, .int .i64 (i : Int))]) [.box [.int .i64 id, .int .i64 fr, .sl _ e_api_Window ws, .sl _ e_api_Need ns]] := by
  refine down_loop ns _ ?_ ?_
  ·intro hk
   refine (hA.nf (nf_rschR_c A k id fr ws ns _) ?_)
   rw [ilt_false (Nat.lt_irrefl _)]
   rw [List.drop_length] at hk; exact hk
  ·intro i y hy ih hk
   have hlt := lt_of_get hy
   refine (hA.nf (nf_rschR_c A k id fr ws ns _) ?_)
   rw [ilt_true hlt]
   refine get_at hy ?_
   rw [drop_cons' hy] at hk
   simp only [rowsR, List.all_cons, okW] at hk
   cases c1 : wiV y.1 0 255 with
   | false => simp only [c1] at hk; exact hk
   | true =>
   cases c2 : wiV y.2.1 0 1048576 with
   | false => simp only [c1, c2] at hk; exact hk
   | true =>
   cases c3 : wiV y.2.2 0 1048576 with
   | false => simp only [c1, c2, c3] at hk; exact hk
   | true =>
   simp only [c1, c2, c3] at hk
   rw [wrap_succ9 (by omega)]
   exact ih hk
 refine down_loop ws (fun i => k [.int .i64 (bif !rowsR (ws.drop i) then 18 else bif decide ((ns.length : Int) > 32) then 8 else bif !rowsR ns then 18 else 0)] [] -> A (td Tryz.f81 6) (envAt 81 [(1, .ptr 0 0), (3, .int .i64 (i : Int))]) [.box [.int .i64 id, .int .i64 fr, .sl _ e_api_Window ws, .sl _ e_api_Need ns]]) ?_ ?_ 0 (Nat.zero_le _) hk
 ·intro hk
  refine (hA.nf (nf_rschR_b A k id fr ws ns _) ?_)
  rw [ilt_false (Nat.lt_irrefl _)]
  rw [List.drop_length] at hk
  cases c5 : decide ((ns.length : Int) > 32) with
  | true => rw [c5] at hk; exact hk
  | false => rw [c5] at hk; exact two 0 (Nat.zero_le _) hk
 ·intro i y hy ih hk
  have hlt := lt_of_get hy
  refine (hA.nf (nf_rschR_b A k id fr ws ns _) ?_)
  rw [ilt_true hlt]
  refine get_at hy ?_
  rw [drop_cons' hy] at hk
  simp only [rowsR, List.all_cons, okW] at hk
  cases c1 : wiV y.1 0 255 with
  | false => simp only [c1] at hk; exact hk
  | true =>
  cases c2 : wiV y.2.1 0 1048576 with
  | false => simp only [c1, c2] at hk; exact hk
  | true =>
  cases c3 : wiV y.2.2 0 1048576 with
  | false => simp only [c1, c2, c3] at hk; exact hk
  | true =>
  simp only [c1, c2, c3] at hk
  rw [wrap_succ9 (by omega)]
  exact ih hk
end Go.Ab.T
