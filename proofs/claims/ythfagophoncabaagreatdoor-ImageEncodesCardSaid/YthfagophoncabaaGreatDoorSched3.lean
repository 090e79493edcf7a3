import Derived.Test.YthfagophoncabaaGreatDoorSched2
import Derived.Test.YthfagophoncabaaGreatDoorReader
import Derived.Test.YthfagophoncabaaGreatDoorMaB
import Derived.Test.YthfagophoncabaaGreatDoorAbC
set_option linter.unusedVariables false
set_option linter.unusedSimpArgs false
set_option linter.unusedSectionVars false
namespace Go.Ab.T
open Go Go.Ab Go.Proofs
variable [DMode]
set_option maxRecDepth 100000
set_option maxHeartbeats 4000000
noncomputable def F0 := base (fun g => match g with | 89 => some (lift 1 NeedS) | 91 => some (lift 1 U32S) | _ => none) (fun g => match g with | 149 => some wiS | 43 => some PlaceS | _ => none) (fun _ => none)
theorem env_F0 : EnvOk F0 := env_of (by
 intro g F h
 split at h
 ·cases h; exact ok_within
 ·cases h; exact ok_Place
 ·cases h) (by
 intro g F h
 split at h
 ·cases h; exact (lift_ok ok_Need)
 ·cases h; exact (lift_ok ok_U32)
 ·cases h) (fun g F h => (by cases h))
def tkS : List PV -> Heap Kd -> (List PV -> Heap Kd -> Prop) -> Prop := fun ys L k => match ys, L with
 | [.ptr 0 0, .int .i64 n], [.box [.str s, .int .i64 a, .int .i64 sec, .err e]] => (0 <= a /\ a <= (s.size : Int) /\ s.size < 4611686018427387904) /\ k [.int .i64 (tkV s sec n (a, e))] [.box [.str s, .int .i64 (tk s sec n (a, e)).1, .int .i64 sec, .err (tk s sec n (a, e)).2]]
 | _, _ => False
theorem tkS_inv {ys : List PV} {L : Heap Kd} {k : List PV -> Heap Kd -> Prop} (h : tkS ys L k) : ∃ (s : ByteArray) (a : Int) (sec : Int) (n : Int) (e : Err), ys = [.ptr 0 0, .int .i64 n] /\ L = [.box [.str s, .int .i64 a, .int .i64 sec, .err e]] /\ (0 <= a /\ a <= (s.size : Int) /\ s.size < 4611686018427387904) /\ k [.int .i64 (tkV s sec n (a, e))] [.box [.str s, .int .i64 (tk s sec n (a, e)).1, .int .i64 sec, .err (tk s sec n (a, e)).2]] := by
 unfold tkS at h
 split at h
 ·exact ⟨_, _, _, _, _, rfl, rfl, h⟩
 ·exact h.elim
theorem fn_tk : FnOk Tryz.prog 101 Tryz.f101 (bodyOf Tryz.f101) := ⟨by kernel_rfl, by kernel_rfl, by kernel_rfl⟩
noncomputable def ff_tk : Fun := ⟨Tryz.f101.ntmps, 1, Tryz.f101.results.toList, fun _ => none, fun _ => false, fun _ => []⟩
theorem nf_tk (A : KA Kd) (k : List PV -> Heap Kd -> Prop) (s : ByteArray) (a sec n : Int) (e : Err) : evT F0 ff_tk A k 400 false [.code (bodyOf Tryz.f101)] (startEnv 20 [.ptr 0 0, .int .i64 n]) [.box [.str s, .int .i64 a, .int .i64 sec, .err e]] = ((0 <= a /\ a <= (↑s.size : Int) /\ s.size < 4611686018427387904) /\ bif !(needE (rdE s a 4 sec e) (wiV (IntKind.i64.wrap (rdV s a 4 e)) n 1048576) sec 18 a).isNil then k [.int .i64 0] [.box [.str s, .int .i64 (rdAt s a 4 e), .int .i64 sec, .err (needE (rdE s a 4 sec e) (wiV (IntKind.i64.wrap (rdV s a 4 e)) n 1048576) sec 18 a)]] else k [.int .i64 (IntKind.i64.wrap (rdV s a 4 e))] [.box [.str s, .int .i64 (rdAt s a 4 e), .int .i64 sec, .err (needE (rdE s a 4 sec e) (wiV (IntKind.i64.wrap (rdV s a 4 e)) n 1048576) sec 18 a)]]) := by kernel_rfl
theorem ok_tk : FunF B 101 1 tkS := by
 refine funF_of (N := 20) (f := ff_tk) env_F0 mixed fn_tk (by kernel_rfl) (by kernel_rfl) ?_
 intro A k ys L hA hF
 obtain ⟨s, a, sec, n, e, rfl, rfl, ⟨h0, h1, h2⟩, hk⟩ := tkS_inv hF; clear hF
 refine ⟨by kernel_rfl, (hA.nf (nf_tk A k s a sec n e) ?_)⟩
 obtain ⟨v0, v1⟩ := rdV_lt s a 4 e
 have v0 : 0 <= rdV s a (4 : Int) e := v0
 have v1 : rdV s a (4 : Int) e < 4294967296 := v1
 rw [wrap_id _ (by omega) (by omega)]
 refine ⟨⟨h0, h1, h2⟩, ?_⟩
 unfold tkV tk tkE at hk
 cases c : (needE (rdE s a 4 sec e) (wiV (rdV s a 4 e) n 1048576) sec 18 a).isNil with
 | false => simp only [c] at hk; exact hk
 | true => simp only [c] at hk; exact hk
def mk3S : SpecS := fun ys Φ => match ys with
 | [.int .i64 a, .int .i64 b, .int .i64 c] => Φ [.agg [.int .i64 a, .int .i64 b, .int .i64 c]]
 | _ => False
theorem mk3S_mono : MonoS mk3S := by
 intro ys Φ Ψ h hF
 unfold mk3S at hF ⊢
 split at hF
 ·exact h _ hF
 ·exact hF.elim
theorem mk3S_inv {ys : List PV} {Φ : List PV -> Prop} (h : mk3S ys Φ) : ∃ (a : Int) (b : Int) (c : Int), ys = [.int .i64 a, .int .i64 b, .int .i64 c] /\ Φ [.agg [.int .i64 a, .int .i64 b, .int .i64 c]] := by
 unfold mk3S at h
 split at h
 ·exact ⟨_, _, _, rfl, h⟩
 ·exact h.elim
theorem fn_mkW : FnOk Tryz.prog 103 Tryz.f103 (bodyOf Tryz.f103) := ⟨by kernel_rfl, by kernel_rfl, by kernel_rfl⟩
noncomputable def ff_mkW : Fun := ⟨Tryz.f103.ntmps, 0, Tryz.f103.results.toList, fun _ => none, fun _ => false, fun _ => []⟩
theorem nf_mkW (A : KA Kd) (k : List PV -> Heap Kd -> Prop) (a b c : Int) : evT F0 ff_mkW A k 400 false [.code (bodyOf Tryz.f103)] (startEnv 11 [.int .i64 a, .int .i64 b, .int .i64 c]) [] = (k [.agg [.int .i64 a, .int .i64 b, .int .i64 c]] []) := by kernel_rfl
theorem ok_mkW : FunS B 103 mk3S := by
 refine funS_of (N := 11) (f := ff_mkW) env_F0 mixed fn_mkW (by kernel_rfl) (by kernel_rfl) (by kernel_rfl) mk3S_mono ?_
 intro A k ys hA hF
 obtain ⟨a, b, c, rfl, hk⟩ := mk3S_inv hF; clear hF
 exact ⟨by kernel_rfl, (hA.nf (nf_mkW A k a b c) hk)⟩
theorem fn_mkN : FnOk Tryz.prog 105 Tryz.f105 (bodyOf Tryz.f105) := ⟨by kernel_rfl, by kernel_rfl, by kernel_rfl⟩
noncomputable def ff_mkN : Fun := ⟨Tryz.f105.ntmps, 0, Tryz.f105.results.toList, fun _ => none, fun _ => false, fun _ => []⟩
theorem nf_mkN (A : KA Kd) (k : List PV -> Heap Kd -> Prop) (a b c : Int) : evT F0 ff_mkN A k 400 false [.code (bodyOf Tryz.f105)] (startEnv 11 [.int .i64 a, .int .i64 b, .int .i64 c]) [] = (k [.agg [.int .i64 a, .int .i64 b, .int .i64 c]] []) := by kernel_rfl
theorem ok_mkN : FunS B 105 mk3S := by
 refine funS_of (N := 11) (f := ff_mkN) env_F0 mixed fn_mkN (by kernel_rfl) (by kernel_rfl) (by kernel_rfl) mk3S_mono ?_
 intro A k ys hA hF
 obtain ⟨a, b, c, rfl, hk⟩ := mk3S_inv hF; clear hF
 exact ⟨by kernel_rfl, (hA.nf (nf_mkN A k a b c) hk)⟩
noncomputable def F1 := base (fun g => match g with | 89 => some (lift 1 NeedS) | 96 => some (lift 1 ErrS) | 90 => some (lift 1 U8S) | 93 => some (lift 1 U16S) | 101 => some (lift 1 tkS) | _ => none) (fun g => match g with | 43 => some PlaceS | 103 => some mk3S | 105 => some mk3S | _ => none) (fun _ => none)
theorem env_F1 : EnvOk F1 := env_of (by
 intro g F h
 split at h
 ·cases h; exact ok_Place
 ·cases h; exact ok_mkW
 ·cases h; exact ok_mkN
 ·cases h) (by
 intro g F h
 split at h
 ·cases h; exact (lift_ok ok_Need)
 ·cases h; exact (lift_ok ok_rErr)
 ·cases h; exact (lift_ok ok_U8)
 ·cases h; exact (lift_ok ok_U16)
 ·cases h; exact (lift_ok ok_tk)
 ·cases h) (fun g F h => (by cases h))
def rowsWS : List PV -> Heap Kd -> (List PV -> Heap Kd -> Prop) -> Prop := fun ys L k => match ys, L with
 | [.ptr 0 0, .fn (.func 93) [.ptr 0 0] [], .int .i64 256, .fn (.func 103) [] []], [.box [.str s, .int .i64 a, .int .i64 sec, .err e]] => (0 <= a /\ a <= (s.size : Int) /\ s.size < 4611686018427387904) /\ k [.own 1] [.box [.str s, .int .i64 (manyX s sec 2 256 (a, e)).1, .int .i64 sec, .err (manyX s sec 2 256 (a, e)).2], .row 157 (manyV s sec 2 256 (a, e))]
 | _, _ => False
theorem rowsWS_inv {ys : List PV} {L : Heap Kd} {k : List PV -> Heap Kd -> Prop} (h : rowsWS ys L k) : ∃ (s : ByteArray) (a : Int) (sec : Int) (e : Err), ys = [.ptr 0 0, .fn (.func 93) [.ptr 0 0] [], .int .i64 256, .fn (.func 103) [] []] /\ L = [.box [.str s, .int .i64 a, .int .i64 sec, .err e]] /\ (0 <= a /\ a <= (s.size : Int) /\ s.size < 4611686018427387904) /\ k [.own 1] [.box [.str s, .int .i64 (manyX s sec 2 256 (a, e)).1, .int .i64 sec, .err (manyX s sec 2 256 (a, e)).2], .row 157 (manyV s sec 2 256 (a, e))] := by
 unfold rowsWS at h
 split at h
 ·exact ⟨_, _, _, _, rfl, rfl, h⟩
 ·exact h.elim
theorem fn_rowsW : FnOk Tryz.prog 102 Tryz.f102 (bodyOf Tryz.f102) := ⟨by kernel_rfl, by kernel_rfl, by kernel_rfl⟩
noncomputable def ff_rowsW : Fun := ⟨Tryz.f102.ntmps, 1, Tryz.f102.results.toList, fun i => match i with | 7 => some [0, 3, 10, 11, 12] | _ => none, fun _ => false, fun _ => []⟩
theorem nf_rowsW_a (A : KA Kd) (k : List PV -> Heap Kd -> Prop) (s : ByteArray) (a sec : Int) (e : Err) : evT F1 ff_rowsW A k 400 false [.code (bodyOf Tryz.f102)] (startEnv 50 [.ptr 0 0, .fn (.func 93) [.ptr 0 0] [], .int .i64 256, .fn (.func 103) [] []]) [.box [.str s, .int .i64 a, .int .i64 sec, .err e]] = ((0 <= a /\ a <= (↑s.size : Int) /\ s.size < 4611686018427387904) /\ bif !(needE (rdE s a 2 sec e) (decide (rdV s a 2 e <= 256)) sec 8 a).isNil then k [.own 1] [.box [.str s, .int .i64 (rdAt s a 2 e), .int .i64 sec, .err (needE (rdE s a 2 sec e) (decide (rdV s a 2 e <= 256)) sec 8 a)], .row 157 []] else A (td Tryz.f102 7) (envAt 50 [(0, .ptr 0 0), ((3 : Nat), PV.fn (Fn.func (103 : FuncId)) [] []), (10, .int .i64 (rdV s a 2 e)), (11, .own 1), (12, .int .i64 0)]) [.box [.str s, .int .i64 (rdAt s a 2 e), .int .i64 sec, .err (needE (rdE s a 2 sec e) (decide (rdV s a 2 e <= 256)) sec 8 a)], .row 157 []]) := by kernel_rfl
theorem nf_rowsW_b (A : KA Kd) (k : List PV -> Heap Kd -> Prop) (s : ByteArray) (a sec n i : Int) (e : Err) (l : List W3) : evT F1 ff_rowsW A k 400 true (td Tryz.f102 7) (envAt 50 [(0, .ptr 0 0), (3, .fn (.func 103) [] []), (10, .int .i64 n), (11, .own 1), (12, .int .i64 i)]) [.box [.str s, .int .i64 a, .int .i64 sec, .err e], .row 157 l] = (bif decide (i < n) then bif e.isNil then (0 <= a /\ a <= (↑s.size : Int) /\ s.size < 4611686018427387904) /\ (0 <= rdAt s a 1 e /\ rdAt s a 1 e <= (↑s.size : Int) /\ s.size < 4611686018427387904) /\ (0 <= (tk s sec 0 (rdAt s a 1 e, rdE s a 1 sec e)).fst /\ (tk s sec 0 (rdAt s a 1 e, rdE s a 1 sec e)).fst <= (↑s.size : Int) /\ s.size < 4611686018427387904) /\ ∃ (zs : List (Int × Int × Int)), List.map e_api_Window zs = [PV.agg [PV.int IntKind.i64 (rdV s a 1 e), PV.int IntKind.i64 (tkV s sec 0 (rdAt s a 1 e, rdE s a 1 sec e)), PV.int IntKind.i64 (tkV s sec 0 ((tk s sec 0 (rdAt s a 1 e, rdE s a 1 sec e)).fst, (tk s sec 0 (rdAt s a 1 e, rdE s a 1 sec e)).snd))]] /\ (l.length + (zs).length) * (TInfo.mk (TD.struct [((0 : Nat), (3 : TypeId)), ((1 : Nat), (3 : TypeId)), ((2 : Nat), (3 : TypeId))]) (3 : Nat) (24 : Nat) [PV.int IntKind.i64 0, PV.int IntKind.i64 0, PV.int IntKind.i64 0] true []).bytes <= 140737488355328 /\ A (td Tryz.f102 7) (envAt 50 [(0, .ptr 0 0), ((3 : Nat), PV.fn (Fn.func (103 : FuncId)) [] []), (10, .int .i64 n), (11, .own 1), (12, .int .i64 (IntKind.i64.wrap (i + 1)))]) [.box [.str s, .int .i64 (tk s sec 0 ((tk s sec 0 (rdAt s a 1 e, rdE s a 1 sec e)).fst, (tk s sec 0 (rdAt s a 1 e, rdE s a 1 sec e)).snd)).fst, .int .i64 sec, .err (tk s sec 0 ((tk s sec 0 (rdAt s a 1 e, rdE s a 1 sec e)).fst, (tk s sec 0 (rdAt s a 1 e, rdE s a 1 sec e)).snd)).snd], .row 157 (l ++ zs)] else k [.own 1] [.box [.str s, .int .i64 a, .int .i64 sec, .err e], .row 157 l]
else k [PV.own (1 : Nat)] [AObj.box [PV.str s, PV.int IntKind.i64 a, PV.int IntKind.i64 sec, PV.err e], AObj.row (157 : Nat) l]) := by kernel_rfl
theorem rowsW_loop (A : KA Kd) (k : List PV -> Heap Kd -> Prop) (hA : Closed F1 ff_rowsW k A) (s : ByteArray) (hs : s.size < 4611686018427387904) (sec : Int) (N : Nat) (hN : N <= 65536) :
 ∀ (m i : Nat), i + m = N -> ∀ (l : List W3) (x : RS), l.length <= i -> hIn s x -> k [.own 1] [.box [.str s, .int .i64 (rowsX s sec m x).1, .int .i64 sec, .err (rowsX s sec m x).2], .row 157 (addW l (rowsV s sec m x))] ->
  A (td Tryz.f102 7) (envAt 50 [(0, .ptr 0 0), (3, .fn (.func 103) [] []), (10, .int .i64 (N : Int)), (11, .own 1), (12, .int .i64 (i : Int))]) [.box [.str s, .int .i64 x.1, .int .i64 sec, .err x.2], .row 157 l] := by
 intro m
 induction m with
 | zero =>
  intro i hi l x _ _ hk
  refine (hA.nf (nf_rowsW_b A k s _ sec _ _ _ l) ?_)
  rw [ilt_false (by omega), cond_false]
  have e : addW l (rowsV s sec 0 x) = l := List.append_nil l
  rw [e] at hk; exact hk
 | succ m ih =>
  intro i hi l x hl hx hk
  refine (hA.nf (nf_rowsW_b A k s _ sec _ _ _ l) ?_)
  rw [ilt_true (by omega), cond_true]
  unfold rowsX rowsV at hk
  cases c : x.2.isNil with
  | false =>
   rw [c] at hk
   have e : addW l [] = l := List.append_nil l
   simp only [cond_false, e] at hk; exact hk
  | true =>
   rw [c] at hk
   simp only [cond_true] at hk
   have x1 := hx.r1 (n := 1) sec (by omega)
   have x2 := x1.tk sec 0
   refine ⟨⟨hx.1, hx.2, hs⟩, ⟨x1.1, x1.2, hs⟩, ⟨x2.1, x2.2, hs⟩, [rowV s sec x], rfl, by show (l.length + 1) * 24 <= _; omega, ?_⟩
   rw [wrap_succ (by omega)]
   refine ih (i + 1) (by omega) (l ++ [rowV s sec x]) (rowX s sec x) (by rw [List.length_append, List.length_singleton]; omega) (hx.rowX sec) ?_
   have e : addW (l ++ [rowV s sec x]) (rowsV s sec m (rowX s sec x)) = addW l (rowV s sec x :: rowsV s sec m (rowX s sec x)) := by unfold addW; rw [List.append_assoc]; rfl
   rw [e]; exact hk
theorem ok_rowsW : FunF B 102 1 rowsWS := by
 refine funF_of (N := 50) (f := ff_rowsW) env_F1 mixed fn_rowsW (by kernel_rfl) (by kernel_rfl) ?_
 intro A k ys L hA hF
 obtain ⟨s, a, sec, e, rfl, rfl, ⟨h0, h1, h2⟩, hk⟩ := rowsWS_inv hF; clear hF
 refine ⟨by kernel_rfl, (hA.nf (nf_rowsW_a A k s a sec e) ?_)⟩
 refine ⟨⟨h0, h1, h2⟩, ?_⟩
 have hx : hIn s (cntX s sec 2 256 (a, e)) := hIn.cnt (x := (a, e)) sec 256 (by omega) ⟨h0, h1⟩
 have hE : (cntX s sec 2 256 (a, e)).2 = needE (rdE s a 2 sec e) (decide (rdV s a 2 e <= 256)) sec 8 a := rfl
 unfold manyV manyX at hk
 rw [<- hE]
 cases c : (cntX s sec 2 256 (a, e)).2.isNil with
 | false => simp only [c] at hk; exact hk
 | true =>
  simp only [c, cond_true] at hk
  obtain ⟨v0, v1⟩ := rdV_lt s a 2 e
  have v0 : 0 <= rdV s a (2 : Int) e := v0
  have v1 : rdV s a (2 : Int) e < 65536 := v1
  have hv : rdV s a 2 e = (((rdV s a 2 e).toNat : Nat) : Int) := by omega
  rw [hv]
  exact rowsW_loop A k hA s h2 sec _ (by omega) _ 0 (by omega) [] (cntX s sec 2 256 (a, e)) (Nat.le_refl _) hx hk
def rowsNS : List PV -> Heap Kd -> (List PV -> Heap Kd -> Prop) -> Prop := fun ys L k => match ys, L with
 | [.ptr 0 0, .fn (.func 90) [.ptr 0 0] [], .int .i64 32, .fn (.func 105) [] []], [.box [.str s, .int .i64 a, .int .i64 sec, .err e]] => (0 <= a /\ a <= (s.size : Int) /\ s.size < 4611686018427387904) /\ k [.own 1] [.box [.str s, .int .i64 (manyX s sec 1 32 (a, e)).1, .int .i64 sec, .err (manyX s sec 1 32 (a, e)).2], .row 159 (manyV s sec 1 32 (a, e))]
 | _, _ => False
theorem rowsNS_inv {ys : List PV} {L : Heap Kd} {k : List PV -> Heap Kd -> Prop} (h : rowsNS ys L k) : ∃ (s : ByteArray) (a : Int) (sec : Int) (e : Err), ys = [.ptr 0 0, .fn (.func 90) [.ptr 0 0] [], .int .i64 32, .fn (.func 105) [] []] /\ L = [.box [.str s, .int .i64 a, .int .i64 sec, .err e]] /\ (0 <= a /\ a <= (s.size : Int) /\ s.size < 4611686018427387904) /\ k [.own 1] [.box [.str s, .int .i64 (manyX s sec 1 32 (a, e)).1, .int .i64 sec, .err (manyX s sec 1 32 (a, e)).2], .row 159 (manyV s sec 1 32 (a, e))] := by
 unfold rowsNS at h
 split at h
 ·exact ⟨_, _, _, _, rfl, rfl, h⟩
 ·exact h.elim
theorem fn_rowsN : FnOk Tryz.prog 104 Tryz.f104 (bodyOf Tryz.f104) := ⟨by kernel_rfl, by kernel_rfl, by kernel_rfl⟩
noncomputable def ff_rowsN : Fun := ⟨Tryz.f104.ntmps, 1, Tryz.f104.results.toList, fun i => match i with | 7 => some [0, 3, 10, 11, 12] | _ => none, fun _ => false, fun _ => []⟩
theorem nf_rowsN_a (A : KA Kd) (k : List PV -> Heap Kd -> Prop) (s : ByteArray) (a sec : Int) (e : Err) : evT F1 ff_rowsN A k 400 false [.code (bodyOf Tryz.f104)] (startEnv 50 [.ptr 0 0, .fn (.func 90) [.ptr 0 0] [], .int .i64 32, .fn (.func 105) [] []]) [.box [.str s, .int .i64 a, .int .i64 sec, .err e]] = ((0 <= a /\ a <= (↑s.size : Int) /\ s.size < 4611686018427387904) /\ bif !(needE (rdE s a 1 sec e) (decide (rdV s a 1 e <= 32)) sec 8 a).isNil then k [.own 1] [.box [.str s, .int .i64 (rdAt s a 1 e), .int .i64 sec, .err (needE (rdE s a 1 sec e) (decide (rdV s a 1 e <= 32)) sec 8 a)], .row 159 []] else A (td Tryz.f104 7) (envAt 50 [(0, .ptr 0 0), ((3 : Nat), PV.fn (Fn.func (105 : FuncId)) [] []), (10, .int .i64 (rdV s a 1 e)), (11, .own 1), (12, .int .i64 0)]) [.box [.str s, .int .i64 (rdAt s a 1 e), .int .i64 sec, .err (needE (rdE s a 1 sec e) (decide (rdV s a 1 e <= 32)) sec 8 a)], .row 159 []]) := by kernel_rfl
theorem nf_rowsN_b (A : KA Kd) (k : List PV -> Heap Kd -> Prop) (s : ByteArray) (a sec n i : Int) (e : Err) (l : List W3) : evT F1 ff_rowsN A k 400 true (td Tryz.f104 7) (envAt 50 [(0, .ptr 0 0), (3, .fn (.func 105) [] []), (10, .int .i64 n), (11, .own 1), (12, .int .i64 i)]) [.box [.str s, .int .i64 a, .int .i64 sec, .err e], .row 159 l] = (bif decide (i < n) then bif e.isNil then (0 <= a /\ a <= (↑s.size : Int) /\ s.size < 4611686018427387904) /\ (0 <= rdAt s a 1 e /\ rdAt s a 1 e <= (↑s.size : Int) /\ s.size < 4611686018427387904) /\ (0 <= (tk s sec 0 (rdAt s a 1 e, rdE s a 1 sec e)).fst /\ (tk s sec 0 (rdAt s a 1 e, rdE s a 1 sec e)).fst <= (↑s.size : Int) /\ s.size < 4611686018427387904) /\ ∃ (zs : List (Int × Int × Int)), List.map e_api_Need zs = [PV.agg [PV.int IntKind.i64 (rdV s a 1 e), PV.int IntKind.i64 (tkV s sec 0 (rdAt s a 1 e, rdE s a 1 sec e)), PV.int IntKind.i64 (tkV s sec 0 ((tk s sec 0 (rdAt s a 1 e, rdE s a 1 sec e)).fst, (tk s sec 0 (rdAt s a 1 e, rdE s a 1 sec e)).snd))]] /\ (l.length + (zs).length) * (TInfo.mk (TD.struct [((0 : Nat), (3 : TypeId)), ((1 : Nat), (3 : TypeId)), ((2 : Nat), (3 : TypeId))]) (3 : Nat) (24 : Nat) [PV.int IntKind.i64 0, PV.int IntKind.i64 0, PV.int IntKind.i64 0] true []).bytes <= 140737488355328 /\ A (td Tryz.f104 7) (envAt 50 [(0, .ptr 0 0), ((3 : Nat), PV.fn (Fn.func (105 : FuncId)) [] []), (10, .int .i64 n), (11, .own 1), (12, .int .i64 (IntKind.i64.wrap (i + 1)))]) [.box [.str s, .int .i64 (tk s sec 0 ((tk s sec 0 (rdAt s a 1 e, rdE s a 1 sec e)).fst, (tk s sec 0 (rdAt s a 1 e, rdE s a 1 sec e)).snd)).fst, .int .i64 sec, .err (tk s sec 0 ((tk s sec 0 (rdAt s a 1 e, rdE s a 1 sec e)).fst, (tk s sec 0 (rdAt s a 1 e, rdE s a 1 sec e)).snd)).snd], .row 159 (l ++ zs)] else k [.own 1] [.box [.str s, .int .i64 a, .int .i64 sec, .err e], .row 159 l]
else k [PV.own (1 : Nat)] [AObj.box [PV.str s, PV.int IntKind.i64 a, PV.int IntKind.i64 sec, PV.err e], AObj.row (159 : Nat) l]) := by kernel_rfl
theorem rowsN_loop (A : KA Kd) (k : List PV -> Heap Kd -> Prop) (hA : Closed F1 ff_rowsN k A) (s : ByteArray) (hs : s.size < 4611686018427387904) (sec : Int) (N : Nat) (hN : N <= 65536) :
 ∀ (m i : Nat), i + m = N -> ∀ (l : List W3) (x : RS), l.length <= i -> hIn s x -> k [.own 1] [.box [.str s, .int .i64 (rowsX s sec m x).1, .int .i64 sec, .err (rowsX s sec m x).2], .row 159 (addW l (rowsV s sec m x))] ->
  A (td Tryz.f104 7) (envAt 50 [(0, .ptr 0 0), (3, .fn (.func 105) [] []), (10, .int .i64 (N : Int)), (11, .own 1), (12, .int .i64 (i : Int))]) [.box [.str s, .int .i64 x.1, .int .i64 sec, .err x.2], .row 159 l] := by
 intro m
 induction m with
 | zero =>
  intro i hi l x _ _ hk
  refine (hA.nf (nf_rowsN_b A k s _ sec _ _ _ l) ?_)
  rw [ilt_false (by omega), cond_false]
  have e : addW l (rowsV s sec 0 x) = l := List.append_nil l
  rw [e] at hk; exact hk
 | succ m ih =>
  intro i hi l x hl hx hk
  refine (hA.nf (nf_rowsN_b A k s _ sec _ _ _ l) ?_)
  rw [ilt_true (by omega), cond_true]
  unfold rowsX rowsV at hk
  cases c : x.2.isNil with
  | false =>
   rw [c] at hk
   have e : addW l [] = l := List.append_nil l
   simp only [cond_false, e] at hk; exact hk
  | true =>
   rw [c] at hk
   simp only [cond_true] at hk
   have x1 := hx.r1 (n := 1) sec (by omega)
   have x2 := x1.tk sec 0
   refine ⟨⟨hx.1, hx.2, hs⟩, ⟨x1.1, x1.2, hs⟩, ⟨x2.1, x2.2, hs⟩, [rowV s sec x], rfl, by show (l.length + 1) * 24 <= _; omega, ?_⟩
   rw [wrap_succ (by omega)]
   refine ih (i + 1) (by omega) (l ++ [rowV s sec x]) (rowX s sec x) (by rw [List.length_append, List.length_singleton]; omega) (hx.rowX sec) ?_
   have e : addW (l ++ [rowV s sec x]) (rowsV s sec m (rowX s sec x)) = addW l (rowV s sec x :: rowsV s sec m (rowX s sec x)) := by unfold addW; rw [List.append_assoc]; rfl
   rw [e]; exact hk
theorem ok_rowsN : FunF B 104 1 rowsNS := by
 refine funF_of (N := 50) (f := ff_rowsN) env_F1 mixed fn_rowsN (by kernel_rfl) (by kernel_rfl) ?_
 intro A k ys L hA hF
 obtain ⟨s, a, sec, e, rfl, rfl, ⟨h0, h1, h2⟩, hk⟩ := rowsNS_inv hF; clear hF
 refine ⟨by kernel_rfl, (hA.nf (nf_rowsN_a A k s a sec e) ?_)⟩
 refine ⟨⟨h0, h1, h2⟩, ?_⟩
 have hx : hIn s (cntX s sec 1 32 (a, e)) := hIn.cnt (x := (a, e)) sec 32 (by omega) ⟨h0, h1⟩
 have hE : (cntX s sec 1 32 (a, e)).2 = needE (rdE s a 1 sec e) (decide (rdV s a 1 e <= 32)) sec 8 a := rfl
 unfold manyV manyX at hk
 rw [<- hE]
 cases c : (cntX s sec 1 32 (a, e)).2.isNil with
 | false => simp only [c] at hk; exact hk
 | true =>
  simp only [c, cond_true] at hk
  obtain ⟨v0, v1⟩ := rdV_lt s a 1 e
  have v0 : 0 <= rdV s a (1 : Int) e := v0
  have v1 : rdV s a (1 : Int) e < 256 := v1
  have hv : rdV s a 1 e = (((rdV s a 1 e).toNat : Nat) : Int) := by omega
  rw [hv]
  exact rowsN_loop A k hA s h2 sec _ (by omega) _ 0 (by omega) [] (cntX s sec 1 32 (a, e)) (Nat.le_refl _) hx hk
noncomputable def F2 := base (fun g => match g with | 88 => some (lift 1 EnterS) | 89 => some (lift 1 NeedS) | 96 => some (lift 1 ErrS) | 90 => some (lift 1 U8S) | 93 => some (lift 1 U16S) | 101 => some (lift 1 tkS) | 102 => some (lift 1 rowsWS) | 104 => some (lift 1 rowsNS) | _ => none) (fun g => match g with | 43 => some PlaceS | 103 => some mk3S | 105 => some mk3S | _ => none) (fun _ => none)
theorem env_F2 : EnvOk F2 := env_of (by
 intro g F h
 split at h
 ·cases h; exact ok_Place
 ·cases h; exact ok_mkW
 ·cases h; exact ok_mkN
 ·cases h) (by
 intro g F h
 split at h
 ·cases h; exact (lift_ok ok_Enter)
 ·cases h; exact (lift_ok ok_Need)
 ·cases h; exact (lift_ok ok_rErr)
 ·cases h; exact (lift_ok ok_U8)
 ·cases h; exact (lift_ok ok_U16)
 ·cases h; exact (lift_ok ok_tk)
 ·cases h; exact (lift_ok ok_rowsW)
 ·cases h; exact (lift_ok ok_rowsN)
 ·cases h) (fun g F h => (by cases h))
theorem fn_sRead : FnOk Tryz.prog 38 Tryz.f38 (bodyOf Tryz.f38) := ⟨by kernel_rfl, by kernel_rfl, by kernel_rfl⟩
noncomputable def ff_sRead : Fun := ⟨Tryz.f38.ntmps, 1, Tryz.f38.results.toList, fun i => match i with | 5 => some [0, 1, 6, 7, 8] | _ => none, fun _ => false, fun _ => []⟩
theorem nf_sRead_a (A : KA Kd) (k : List PV -> Heap Kd -> Prop) (s : ByteArray) (a sec n : Int) (e : Err) : evT F2 ff_sRead A k 400 false [.code (bodyOf Tryz.f38)] (startEnv 61 [.ptr 0 0, .int .i64 n]) [.box [.str s, .int .i64 a, .int .i64 sec, .err e]] = (A (td Tryz.f38 5) (envAt 61 [(0, .ptr 0 0), (1, .int .i64 n), (6, .own 1), (7, .int .i64 (-1 : Int)), (8, .int .i64 0)]) [.box [.str s, .int .i64 a, .int .i64 3, .err e], .row 59 []]) := by kernel_rfl
theorem nf_sRead_b (A : KA Kd) (k : List PV -> Heap Kd -> Prop) (s : ByteArray) (a n last i : Int) (e : Err) (l : List Sch) : evT F2 ff_sRead A k 400 true (td Tryz.f38 5) (envAt 61 [(0, .ptr 0 0), (1, .int .i64 n), (6, .own 1), (7, .int .i64 last), (8, .int .i64 i)]) [.box [.str s, .int .i64 a, .int .i64 3, .err e], .row 59 l] = (bif decide (i < n) then bif e.isNil then (0 <= a /\ a <= (↑s.size : Int) /\ s.size < 4611686018427387904) /\ (0 <= rdAt s a 1 e /\ rdAt s a 1 e <= (↑s.size : Int) /\ s.size < 4611686018427387904) /\ (0 <= (tk s 3 1 (rdAt s a 1 e, needE (rdE s a 1 3 e) (decide (rdV s a 1 e > last)) 3 9 a)).fst /\ (tk s 3 1 (rdAt s a 1 e, needE (rdE s a 1 3 e) (decide (rdV s a 1 e > last)) 3 9 a)).fst <= (↑s.size : Int) /\ s.size < 4611686018427387904) /\ (0 <= (manyX s 3 2 256 ((tk s 3 1 (rdAt s a 1 e, needE (rdE s a 1 3 e) (decide (rdV s a 1 e > last)) 3 9 a)).fst, (tk s 3 1 (rdAt s a 1 e, needE (rdE s a 1 3 e) (decide (rdV s a 1 e > last)) 3 9 a)).snd)).fst /\ (manyX s 3 2 256 ((tk s 3 1 (rdAt s a 1 e, needE (rdE s a 1 3 e) (decide (rdV s a 1 e > last)) 3 9 a)).fst, (tk s 3 1 (rdAt s a 1 e, needE (rdE s a 1 3 e) (decide (rdV s a 1 e > last)) 3 9 a)).snd)).fst <= (↑s.size : Int) /\ s.size < 4611686018427387904) /\ ∃ (zs : List (Int × Int × (List (Int × Int × Int)) × (List (Int × Int × Int)))), List.map e_api_Schedule zs = [PV.agg [PV.int IntKind.i64 (rdV s a 1 e), PV.int IntKind.i64 (tkV s 3 1 (rdAt s a 1 e, needE (rdE s a 1 3 e) (decide (rdV s a 1 e > last)) 3 9 a)), PV.sl (Int × Int × Int) e_api_Window (Bool.rec ((fun (_ : Unit) => []) ()) ((fun (_ : Unit) => rowsV s (3 : Int) (rdV s ((tk s 3 1 (rdAt s a 1 e, needE (rdE s a 1 3 e) (decide (rdV s a 1 e > last)) 3 9 a)).fst, (tk s 3 1 (rdAt s a 1 e, needE (rdE s a 1 3 e) (decide (rdV s a 1 e > last)) 3 9 a)).snd).fst (2 : Int) ((tk s 3 1 (rdAt s a 1 e, needE (rdE s a 1 3 e) (decide (rdV s a 1 e > last)) 3 9 a)).fst, (tk s 3 1 (rdAt s a 1 e, needE (rdE s a 1 3 e) (decide (rdV s a 1 e > last)) 3 9 a)).snd).snd).toNat (cntX s 3 2 256 ((tk s 3 1 (rdAt s a 1 e, needE (rdE s a 1 3 e) (decide (rdV s a 1 e > last)) 3 9 a)).fst, (tk s 3 1 (rdAt s a 1 e, needE (rdE s a 1 3 e) (decide (rdV s a 1 e > last)) 3 9 a)).snd))) ()) (cntX s 3 2 256 ((tk s 3 1 (rdAt s a 1 e, needE (rdE s a 1 3 e) (decide (rdV s a 1 e > last)) 3 9 a)).fst, (tk s 3 1 (rdAt s a 1 e, needE (rdE s a 1 3 e) (decide (rdV s a 1 e > last)) 3 9 a)).snd)).snd.isNil), PV.sl (Int × Int × Int) e_api_Need (Bool.rec ((fun (_ : Unit) => []) ()) ((fun (_ : Unit) => rowsV s (3 : Int) (rdV s ((manyX s 3 2 256 ((tk s 3 1 (rdAt s a 1 e, needE (rdE s a 1 3 e) (decide (rdV s a 1 e > last)) 3 9 a)).fst, (tk s 3 1 (rdAt s a 1 e, needE (rdE s a 1 3 e) (decide (rdV s a 1 e > last)) 3 9 a)).snd)).fst, (manyX s 3 2 256 ((tk s 3 1 (rdAt s a 1 e, needE (rdE s a 1 3 e) (decide (rdV s a 1 e > last)) 3 9 a)).fst, (tk s 3 1 (rdAt s a 1 e, needE (rdE s a 1 3 e) (decide (rdV s a 1 e > last)) 3 9 a)).snd)).snd).fst (1 : Int) ((manyX s 3 2 256 ((tk s 3 1 (rdAt s a 1 e, needE (rdE s a 1 3 e) (decide (rdV s a 1 e > last)) 3 9 a)).fst, (tk s 3 1 (rdAt s a 1 e, needE (rdE s a 1 3 e) (decide (rdV s a 1 e > last)) 3 9 a)).snd)).fst, (manyX s 3 2 256 ((tk s 3 1 (rdAt s a 1 e, needE (rdE s a 1 3 e) (decide (rdV s a 1 e > last)) 3 9 a)).fst, (tk s 3 1 (rdAt s a 1 e, needE (rdE s a 1 3 e) (decide (rdV s a 1 e > last)) 3 9 a)).snd)).snd).snd).toNat (cntX s 3 1 32 ((manyX s 3 2 256 ((tk s 3 1 (rdAt s a 1 e, needE (rdE s a 1 3 e) (decide (rdV s a 1 e > last)) 3 9 a)).fst, (tk s 3 1 (rdAt s a 1 e, needE (rdE s a 1 3 e) (decide (rdV s a 1 e > last)) 3 9 a)).snd)).fst, (manyX s 3 2 256 ((tk s 3 1 (rdAt s a 1 e, needE (rdE s a 1 3 e) (decide (rdV s a 1 e > last)) 3 9 a)).fst, (tk s 3 1 (rdAt s a 1 e, needE (rdE s a 1 3 e) (decide (rdV s a 1 e > last)) 3 9 a)).snd)).snd))) ()) (cntX s 3 1 32 ((manyX s 3 2 256 ((tk s 3 1 (rdAt s a 1 e, needE (rdE s a 1 3 e) (decide (rdV s a 1 e > last)) 3 9 a)).fst, (tk s 3 1 (rdAt s a 1 e, needE (rdE s a 1 3 e) (decide (rdV s a 1 e > last)) 3 9 a)).snd)).fst, (manyX s 3 2 256 ((tk s 3 1 (rdAt s a 1 e, needE (rdE s a 1 3 e) (decide (rdV s a 1 e > last)) 3 9 a)).fst, (tk s 3 1 (rdAt s a 1 e, needE (rdE s a 1 3 e) (decide (rdV s a 1 e > last)) 3 9 a)).snd)).snd)).snd.isNil)]] /\ (l.length + (zs).length) * (TInfo.mk (TD.struct [((0 : Nat), (3 : TypeId)), ((1 : Nat), (3 : TypeId)), ((2 : Nat), (56 : TypeId)), ((3 : Nat), (57 : TypeId))]) (4 : Nat) (64 : Nat) [PV.int IntKind.i64 0, PV.int IntKind.i64 0, PV.raw nilSlice, PV.raw nilSlice] true [((2 : Nat), (157 : TypeId)), ((3 : Nat), (159 : TypeId))]).bytes <= 140737488355328 /\ A (td Tryz.f38 5) (envAt 61 [(0, .ptr 0 0), (1, .int .i64 n), (6, .own 1), (7, .int .i64 (rdV s a 1 e)), (8, .int .i64 (IntKind.i64.wrap (i + 1)))]) [.box [.str s, .int .i64 (manyX s 3 1 32 ((manyX s 3 2 256 ((tk s 3 1 (rdAt s a 1 e, needE (rdE s a 1 3 e) (decide (rdV s a 1 e > last)) 3 9 a)).fst, (tk s 3 1 (rdAt s a 1 e, needE (rdE s a 1 3 e) (decide (rdV s a 1 e > last)) 3 9 a)).snd)).fst, (manyX s 3 2 256 ((tk s 3 1 (rdAt s a 1 e, needE (rdE s a 1 3 e) (decide (rdV s a 1 e > last)) 3 9 a)).fst, (tk s 3 1 (rdAt s a 1 e, needE (rdE s a 1 3 e) (decide (rdV s a 1 e > last)) 3 9 a)).snd)).snd)).fst, .int .i64 3, .err (manyX s 3 1 32 ((manyX s 3 2 256 ((tk s 3 1 (rdAt s a 1 e, needE (rdE s a 1 3 e) (decide (rdV s a 1 e > last)) 3 9 a)).fst, (tk s 3 1 (rdAt s a 1 e, needE (rdE s a 1 3 e) (decide (rdV s a 1 e > last)) 3 9 a)).snd)).fst, (manyX s 3 2 256 ((tk s 3 1 (rdAt s a 1 e, needE (rdE s a 1 3 e) (decide (rdV s a 1 e > last)) 3 9 a)).fst, (tk s 3 1 (rdAt s a 1 e, needE (rdE s a 1 3 e) (decide (rdV s a 1 e > last)) 3 9 a)).snd)).snd)).snd], .row 59 (l ++ zs)] else bif !e.isNil then k [.own 1, .err e] [.box [.str s, .int .i64 a, .int .i64 3, .err e], .row 59 []] else k [.own 1, .err Err.nil] [.box [.str s, .int .i64 a, .int .i64 3, .err e], .row 59 l]
else bif !e.isNil then k [PV.own (1 : Nat), PV.err e] [AObj.box [PV.str s, PV.int IntKind.i64 a, PV.int IntKind.i64 (3 : Int), PV.err e], AObj.row (59 : Nat) []] else k [PV.own (1 : Nat), PV.err Err.nil] [AObj.box [PV.str s, PV.int IntKind.i64 a, PV.int IntKind.i64 (3 : Int), PV.err e], AObj.row (59 : Nat) l]) := by kernel_rfl
def sReadS : List PV -> Heap Kd -> (List PV -> Heap Kd -> Prop) -> Prop := fun ys L k => match ys, L with
 | [.ptr 0 0, .int .i64 n], [.box [.str s, .int .i64 a, .int .i64 sec, .err e]] => (0 <= a /\ a <= (s.size : Int) /\ s.size < 1099511627776 /\ n <= 9223372036854775807) /\ k [.own 1, .err (schsX s n.toNat (-1) (a, e)).2] [.box [.str s, .int .i64 (schsX s n.toNat (-1) (a, e)).1, .int .i64 3, .err (schsX s n.toNat (-1) (a, e)).2], .row 59 (resS s n.toNat (a, e))]
 | _, _ => False
theorem sReadS_inv {ys : List PV} {L : Heap Kd} {k : List PV -> Heap Kd -> Prop} (h : sReadS ys L k) : ∃ (s : ByteArray) (a : Int) (sec : Int) (n : Int) (e : Err), ys = [.ptr 0 0, .int .i64 n] /\ L = [.box [.str s, .int .i64 a, .int .i64 sec, .err e]] /\ (0 <= a /\ a <= (s.size : Int) /\ s.size < 1099511627776 /\ n <= 9223372036854775807) /\ k [.own 1, .err (schsX s n.toNat (-1) (a, e)).2] [.box [.str s, .int .i64 (schsX s n.toNat (-1) (a, e)).1, .int .i64 3, .err (schsX s n.toNat (-1) (a, e)).2], .row 59 (resS s n.toNat (a, e))] := by
 unfold sReadS at h
 split at h
 ·exact ⟨_, _, _, _, _, rfl, rfl, h⟩
 ·exact h.elim
theorem sRead_end (A : KA Kd) (k : List PV -> Heap Kd -> Prop) (l m : List Sch) (s : ByteArray) (x : RS) (hm : m = bif x.2.isNil then l else [])
 (hk : k [.own 1, .err x.2] [.box [.str s, .int .i64 x.1, .int .i64 3, .err x.2], .row 59 m]) :
 bif !x.2.isNil then k [.own 1, .err x.2] [.box [.str s, .int .i64 x.1, .int .i64 3, .err x.2], .row 59 ([] : List Sch)] else k [.own 1, .err .nil] [.box [.str s, .int .i64 x.1, .int .i64 3, .err x.2], .row 59 l] := by
 subst hm
 cases c : x.2.isNil with
 | false => rw [c] at hk; exact hk
 | true => rw [c] at hk; rw [isNil_eq c] at hk ⊢; exact hk
theorem sRead_loop (A : KA Kd) (k : List PV -> Heap Kd -> Prop) (hA : Closed F2 ff_sRead k A) (s : ByteArray) (hs : s.size < 1099511627776) (n : Int) (hn : n <= 9223372036854775807) :
 ∀ (m i : Nat), i + m = n.toNat -> ∀ (l : List Sch) (last : Int) (x : RS), (x.2.isNil = true -> l.length <= i /\ (i : Int) <= x.1) -> hIn s x -> (∀ r : List Sch, (r = bif (schsX s m last x).2.isNil then addS l (schsV s m last x) else []) -> k [.own 1, .err (schsX s m last x).2] [.box [.str s, .int .i64 (schsX s m last x).1, .int .i64 3, .err (schsX s m last x).2], .row 59 r]) ->
  A (td Tryz.f38 5) (envAt 61 [(0, .ptr 0 0), (1, .int .i64 n), (6, .own 1), (7, .int .i64 last), (8, .int .i64 (i : Int))]) [.box [.str s, .int .i64 x.1, .int .i64 3, .err x.2], .row 59 l] := by
 intro m
 induction m with
 | zero =>
  intro i hi l last x _ _ hk
  refine (hA.nf (nf_sRead_b A k s _ n last _ _ l) ?_)
  have d : decide ((i : Int) < n) = false := decide_eq_false (by omega)
  rw [d, cond_false]
  refine sRead_end A k l _ s x rfl (hk _ ?_)
  have e : addS l (schsV s 0 last x) = l := List.append_nil l
  rw [e]; rfl
 | succ m ih =>
  intro i hi l last x hl hx hk
  refine (hA.nf (nf_sRead_b A k s _ n last _ _ l) ?_)
  have d : decide ((i : Int) < n) = true := decide_eq_true (by omega)
  rw [d, cond_true]
  cases c : x.2.isNil with
  | false =>
   have e1 : schsX s (m + 1) last x = x := by unfold schsX; rw [c]; rfl
   have h := hk [] (by rw [e1, c]; rfl)
   rw [e1] at h
   exact h
  | true =>
   have e1 : schsX s (m + 1) last x = schsX s m (schV s last x).1 (schX s last x) := by show (bif x.2.isNil then _ else _) = _; rw [c]; rfl
   have e2 : schsV s (m + 1) last x = schV s last x :: schsV s m (schV s last x).1 (schX s last x) := by show (bif x.2.isNil then _ else _) = _; rw [c]; rfl
   rw [e1, e2] at hk
   obtain ⟨l1, l2⟩ := hl c
   have x1 := hx.id last
   have x2 := hx.s1 last
   have x3 := hx.s2 last
   have hs2 : s.size < 4611686018427387904 := by omega
   have hx2 := hx.2
   refine ⟨⟨hx.1, hx.2, hs2⟩, ⟨x1.1, x1.2, hs2⟩, ⟨x2.1, x2.2, hs2⟩, ⟨x3.1, x3.2, hs2⟩, [schV s last x], by kernel_rfl, by show (l.length + 1) * 64 <= _; omega, ?_⟩
   rw [wrap_id _ (by omega) (by omega)]
   refine ih (i + 1) (by omega) (l ++ [schV s last x]) _ (schX s last x) (fun hc => ?_) (hx.sch last) ?_
   ·have := schX_adv hc
    rw [List.length_append, List.length_singleton]; omega
   ·intro r hr
    have e : addS (l ++ [schV s last x]) (schsV s m (schV s last x).1 (schX s last x)) = addS l (schV s last x :: schsV s m (schV s last x).1 (schX s last x)) := by unfold addS; rw [List.append_assoc]; rfl
    have hr : r = bif (schsX s m (schV s last x).1 (schX s last x)).2.isNil then addS (l ++ [schV s last x]) (schsV s m (schV s last x).1 (schX s last x)) else [] := hr
    rw [e] at hr
    exact hk r hr
theorem ok_sRead : FunF B 38 1 sReadS := by
 refine funF_of (N := 61) (f := ff_sRead) env_F2 mixed fn_sRead (by kernel_rfl) (by kernel_rfl) ?_
 intro A k ys L hA hF
 obtain ⟨s, a, sec, n, e, rfl, rfl, ⟨h0, h1, h2, h3⟩, hk⟩ := sReadS_inv hF; clear hF
 refine ⟨by kernel_rfl, (hA.nf (nf_sRead_a A k s a sec n e) ?_)⟩
 refine sRead_loop A k hA s h2 n h3 n.toNat 0 (by omega) [] (-1) (a, e) (fun _ => ⟨Nat.le_refl _, h0⟩) ⟨h0, h1⟩ ?_
 rintro r rfl
 exact hk
end Go.Ab.T
