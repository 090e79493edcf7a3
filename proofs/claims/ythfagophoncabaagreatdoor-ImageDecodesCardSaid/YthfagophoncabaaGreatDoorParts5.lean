import Derived.Test.YthfagophoncabaaGreatDoorParts4
import Derived.Test.YthfagophoncabaaGreatDoorNameGetR
set_option linter.unusedVariables false
set_option linter.unusedSimpArgs false
set_option linter.unusedSectionVars false
namespace Go.Ab.T
open Go Go.Ab Go.Proofs
variable [DMode]
set_option maxRecDepth 100000
set_option maxHeartbeats 4000000
noncomputable def PG8 := base (fun _ => none) (fun g => match g with | 57 => some rFailS | 122 => some rNumS | _ => none) (fun _ => none)
theorem env_PG8 : EnvOk PG8 := env_of (by
 intro g F h
 split at h
 ·cases h; exact ok_rFail
 ·cases h; exact ok_rNum
 ·cases h) (fun g F h => (by cases h)) (fun g F h => (by cases h))
theorem fn_by8 : FnOk Tryz.prog 157 Tryz.f157 (bodyOf Tryz.f157) := ⟨by kernel_rfl, by kernel_rfl, by kernel_rfl⟩
noncomputable def ff_by8 : Fun := ⟨Tryz.f157.ntmps, 0, Tryz.f157.results.toList, fun _ => none, fun _ => false, fun _ => []⟩
theorem nf_by8 (A : KA Kd) (k : List PV -> Heap Kd -> Prop) (s : ByteArray) (a sec f1 f2 f3 : Int) : evT PG8 ff_by8 A k 400 false [.code (bodyOf Tryz.f157)] (startEnv 26 [.agg [.str s, .int .i64 a, .int .i64 sec, .int .i64 f1, .int .i64 f2, .int .i64 f3]]) [] = (s.size < 4611686018427387904 /\ bif (nF s a 1 sec (f1, f2, f3)).fst == 0 then bif decide (nV s a 1 (f1, f2, f3) > 1) then k [.agg [.str s, .int .i64 (nAt s a 1 (f1, f2, f3)), .int .i64 sec, .int .i64 (rFail (nF s a 1 sec (f1, f2, f3)) sec 6 a).fst, .int .i64 (rFail (nF s a 1 sec (f1, f2, f3)) sec 6 a).snd.fst, .int .i64 (rFail (nF s a 1 sec (f1, f2, f3)) sec 6 a).snd.snd], .bool false] [] else k [.agg [.str s, .int .i64 (nAt s a 1 (f1, f2, f3)), .int .i64 sec, .int .i64 (nF s a 1 sec (f1, f2, f3)).fst, .int .i64 (nF s a 1 sec (f1, f2, f3)).snd.fst, .int .i64 (nF s a 1 sec (f1, f2, f3)).snd.snd], .bool (nV s a 1 (f1, f2, f3) == 1)] [] else k [.agg [.str s, .int .i64 (nAt s a 1 (f1, f2, f3)), .int .i64 sec, .int .i64 (nF s a 1 sec (f1, f2, f3)).fst, .int .i64 (nF s a 1 sec (f1, f2, f3)).snd.fst, .int .i64 (nF s a 1 sec (f1, f2, f3)).snd.snd], .bool (nV s a 1 (f1, f2, f3) == 1)] []) := by kernel_rfl
def by8S : SpecS := fun ys Φ => match ys with
 | [.agg [.str s, .int .i64 a, .int .i64 sec, .int .i64 f1, .int .i64 f2, .int .i64 f3]] => ((0 <= a /\ a <= (s.size : Int) /\ s.size < 4611686018427387904) /\ GoodF (f1, f2, f3)) /\ Φ [.agg [.str s, .int .i64 (trX s sec (a, toE (f1, f2, f3))).1, .int .i64 sec, .int .i64 (ofE (trX s sec (a, toE (f1, f2, f3))).2).1, .int .i64 (ofE (trX s sec (a, toE (f1, f2, f3))).2).2.1, .int .i64 (ofE (trX s sec (a, toE (f1, f2, f3))).2).2.2], .bool (trV s sec (a, toE (f1, f2, f3)))]
 | _ => False
theorem by8S_mono : MonoS by8S := by
 intro ys Φ Ψ h hF
 unfold by8S at hF ⊢
 split at hF
 ·obtain ⟨hp, hk⟩ := hF; exact ⟨hp, h _ hk⟩
 ·exact hF.elim
theorem by8S_inv {ys : List PV} {Φ : List PV -> Prop} (h : by8S ys Φ) : ∃ (s : ByteArray) (a : Int) (sec : Int) (f1 : Int) (f2 : Int) (f3 : Int), ys = [.agg [.str s, .int .i64 a, .int .i64 sec, .int .i64 f1, .int .i64 f2, .int .i64 f3]] /\ ((0 <= a /\ a <= (s.size : Int) /\ s.size < 4611686018427387904) /\ GoodF (f1, f2, f3)) /\ Φ [.agg [.str s, .int .i64 (trX s sec (a, toE (f1, f2, f3))).1, .int .i64 sec, .int .i64 (ofE (trX s sec (a, toE (f1, f2, f3))).2).1, .int .i64 (ofE (trX s sec (a, toE (f1, f2, f3))).2).2.1, .int .i64 (ofE (trX s sec (a, toE (f1, f2, f3))).2).2.2], .bool (trV s sec (a, toE (f1, f2, f3)))] := by
 unfold by8S at h
 split at h
 ·exact ⟨_, _, _, _, _, _, rfl, h⟩
 ·exact h.elim
theorem ok_by8 : FunS B 157 by8S := by
 refine funS_of (N := 26) (f := ff_by8) env_PG8 mixed fn_by8 (by kernel_rfl) (by kernel_rfl) (by kernel_rfl) by8S_mono ?_
 intro A k ys hA hF
 obtain ⟨s, a, sec, f1, f2, f3, rfl, ⟨⟨h0, h1, hs⟩, hgf⟩, hk⟩ := by8S_inv hF; clear hF
 refine ⟨by kernel_rfl, (hA.nf (nf_by8 A k s a sec f1 f2 f3) ?_)⟩
 obtain ⟨e, hg, hf⟩ := hgf.ex
 rw [hf, hg.toE] at hk
 obtain ⟨rfl, rfl, rfl⟩ : f1 = (ofE e).1 /\ f2 = (ofE e).2.1 /\ f3 = (ofE e).2.2 := ⟨congrArg (·.1) hf, congrArg (·.2.1) hf, congrArg (·.2.2) hf⟩
 have q1 := hg.nF (s := s) (a := a) (n := 1) sec h0 h1 rfl
 have q2 := hg.nAt (s := s) (a := a) (n := 1) h0 h1 rfl
 have q3 := hg.nV (s := s) (a := a) (n := 1) h0 h1 rfl
 simp only [F3_eta, q1, q2, q3]
 have hg1 := hg.rd s a 1 sec
 obtain ⟨v0, v1⟩ := rdV_lt s a 1 e
 rw [hg1.nil_iff]
 refine ⟨hs, ?_⟩
 have hX : trX s sec (a, e) = (rdAt s a 1 e, needE (rdE s a 1 sec e) (decide (rdV s a 1 e <= 1)) sec 6 a) := rfl
 unfold trV at hk
 rw [hX] at hk
 simp only at hk
 cases c : (rdE s a 1 sec e).isNil with
 | false =>
  rw [needE_bad c, c] at hk
  have hv : rdV s a 1 e = 0 := by rw [rdE_nil] at c; unfold rdV; rw [c]; rfl
  rw [hv]; exact hk
 | true =>
  rw [cond_true]
  cases c2 : decide (rdV s a 1 e > 1) with
  | true =>
   rw [decide_eq_true_eq] at c2
   have c3 : decide (rdV s a 1 e <= 1) = false := decide_eq_false (by omega)
   rw [c3] at hk
   have hf0 : needE (rdE s a 1 sec e) false sec 6 a = failR (rdE s a 1 sec e) sec 6 a := rfl
   have hf1 : (failR (rdE s a 1 sec e) sec 6 a).isNil = false := failR_not _ _ _ rfl
   rw [hf0, hf1] at hk
   have e7 : rFail (ofE (rdE s a 1 sec e)) sec 6 a = ofE (failR (rdE s a 1 sec e) sec 6 a) := (hg1.ofE_fail sec 6 a).symm
   rw [cond_true, e7]; exact hk
  | false =>
   rw [decide_eq_false_iff_not] at c2
   have c3 : decide (rdV s a 1 e <= 1) = true := decide_eq_true (by omega)
   rw [c3] at hk
   have hf0 : needE (rdE s a 1 sec e) true sec 6 a = rdE s a 1 sec e := rfl
   rw [hf0, c] at hk
   rw [cond_false]; exact hk
noncomputable def PG9 := base (fun _ => none) (fun g => match g with | 57 => some rFailS | 122 => some rNumS | 158 => some rGetNS | 157 => some by8S | _ => none) (fun _ => none)
theorem env_PG9 : EnvOk PG9 := env_of (by
 intro g F h
 split at h
 ·cases h; exact ok_rFail
 ·cases h; exact ok_rNum
 ·cases h; exact ok_rGetN
 ·cases h; exact ok_by8
 ·cases h) (fun g F h => (by cases h)) (fun g F h => (by cases h))
theorem fn_one8 : FnOk Tryz.prog 124 Tryz.f124 (bodyOf Tryz.f124) := ⟨by kernel_rfl, by kernel_rfl, by kernel_rfl⟩
noncomputable def ff_one8 : Fun := ⟨Tryz.f124.ntmps, 0, Tryz.f124.results.toList, fun i => match i with | 12 => some [4, 5, 6, 9, 10, 11] | 6 => some [4, 5, 6, 7] | 9 => some [4, 5, 6, 7, 9, 10] | _ => none, fun i => match i with | 6 => true | 9 => true | _ => false, fun i => match i with | 10 => [0,1,9999] | 18 => [0,1,9999] | _ => []⟩
theorem nf_one8_a (A : KA Kd) (k : List PV -> Heap Kd -> Prop) (s : ByteArray) (a f1 f2 f3 last : Int) : evT PG9 ff_one8 A k 400 false [.code (bodyOf Tryz.f124)] (startEnv 97 [.agg [.str s, .int .i64 a, .int .i64 2, .int .i64 f1, .int .i64 f2, .int .i64 f3], .int .i64 last]) [] = (s.size < 4611686018427387904 /\ bif (nF s a 1 2 (f1, f2, f3)).fst == 0 then bif decide (IntKind.i64.wrap (nV s a 1 (f1, f2, f3)) <= last) then A (tdr Tryz.f124 6) (envAt 97 [(4, .ptr 0 0), (5, .ptr 1 0), (6, .ptr 2 0), (7, .ptr 3 0)]) [.box [.str ⟨#[]⟩, .int .i64 0, .int .i64 0, .int .i64 0, .int .i64 0, .int .i64 0], .box [.int .i64 0, .str ⟨#[]⟩, .bool false, .own 4], .box [.int .i64 (IntKind.i64.wrap (nV s a 1 (f1, f2, f3))), .str ⟨#[]⟩, .bool false, .own 5], .box [.str s, .int .i64 (nAt s a 1 (f1, f2, f3)), .int .i64 2, .int .i64 (rFail (nF s a 1 2 (f1, f2, f3)) 2 9 a).fst, .int .i64 (rFail (nF s a 1 2 (f1, f2, f3)) 2 9 a).snd.fst, .int .i64 (rFail (nF s a 1 2 (f1, f2, f3)) 2 9 a).snd.snd], .row 154 [], .row 154 []] else A (tdr Tryz.f124 6) (envAt 97 [(4, .ptr 0 0), (5, .ptr 1 0), (6, .ptr 2 0), (7, .ptr 3 0)]) [.box [.str ⟨#[]⟩, .int .i64 0, .int .i64 0, .int .i64 0, .int .i64 0, .int .i64 0], .box [.int .i64 0, .str ⟨#[]⟩, .bool false, .own 4], .box [.int .i64 (IntKind.i64.wrap (nV s a 1 (f1, f2, f3))), .str ⟨#[]⟩, .bool false, .own 5], .box [.str s, .int .i64 (nAt s a 1 (f1, f2, f3)), .int .i64 2, .int .i64 (nF s a 1 2 (f1, f2, f3)).fst, .int .i64 (nF s a 1 2 (f1, f2, f3)).snd.fst, .int .i64 (nF s a 1 2 (f1, f2, f3)).snd.snd], .row 154 [], .row 154 []] else A (tdr Tryz.f124 6) (envAt 97 [(4, .ptr 0 0), (5, .ptr 1 0), (6, .ptr 2 0), (7, .ptr 3 0)]) [.box [.str ⟨#[]⟩, .int .i64 0, .int .i64 0, .int .i64 0, .int .i64 0, .int .i64 0], .box [.int .i64 0, .str ⟨#[]⟩, .bool false, .own 4], .box [.int .i64 (IntKind.i64.wrap (nV s a 1 (f1, f2, f3))), .str ⟨#[]⟩, .bool false, .own 5], .box [.str s, .int .i64 (nAt s a 1 (f1, f2, f3)), .int .i64 2, .int .i64 (nF s a 1 2 (f1, f2, f3)).fst, .int .i64 (nF s a 1 2 (f1, f2, f3)).snd.fst, .int .i64 (nF s a 1 2 (f1, f2, f3)).snd.snd], .row 154 [], .row 154 []]) := by kernel_rfl
theorem nf_one8_6 (A : KA Kd) (k : List PV -> Heap Kd -> Prop) (s : ByteArray) (a1 g1 g2 g3 id : Int) : evT PG9 ff_one8 A k 400 true (tdr Tryz.f124 6) (envAt 97 [(4, .ptr 0 0), (5, .ptr 1 0), (6, .ptr 2 0), (7, .ptr 3 0)]) [.box [.str ⟨#[]⟩, .int .i64 0, .int .i64 0, .int .i64 0, .int .i64 0, .int .i64 0], .box [.int .i64 0, .str ⟨#[]⟩, .bool false, .own 4], .box [.int .i64 id, .str ⟨#[]⟩, .bool false, .own 5], .box [.str s, .int .i64 a1, .int .i64 2, .int .i64 g1, .int .i64 g2, .int .i64 g3], .row 154 ([] : List Cl), .row 154 ([] : List Cl)] = (((0 <= a1 /\ a1 <= (↑s.size : Int) /\ s.size < 4611686018427387904) /\ GoodF (g1, g2, g3)) /\ ((0 <= (trX s 2 (a1, toE (g1, g2, g3))).fst /\ (trX s 2 (a1, toE (g1, g2, g3))).fst <= (↑s.size : Int) /\ s.size < 4611686018427387904) /\ GoodF (ofE (trX s 2 (a1, toE (g1, g2, g3))).snd)) /\ s.size < 4611686018427387904 /\ A (tdr Tryz.f124 9) (envAt 97 [(4, .ptr 0 0), (5, .ptr 1 0), (6, .ptr 2 0), (7, .ptr 3 0), (9, .ptr 4 0), (10, .int .u64 (nV s (nmAt s (trX s 2 (a1, toE (g1, g2, g3))).fst (2 : Int) (toE (ofE (trX s 2 (a1, toE (g1, g2, g3))).snd))) 1 (ofE (nmE s (trX s 2 (a1, toE (g1, g2, g3))).fst (2 : Int) (toE (ofE (trX s 2 (a1, toE (g1, g2, g3))).snd))))))]) [.box [.str ⟨#[]⟩, .int .i64 0, .int .i64 0, .int .i64 0, .int .i64 0, .int .i64 0], .box [.int .i64 0, .str ⟨#[]⟩, .bool false, .own 5], .box [.int .i64 id, .str (nmT s (trX s 2 (a1, toE (g1, g2, g3))).fst (2 : Int) (toE (ofE (trX s 2 (a1, toE (g1, g2, g3))).snd))), .bool (trV s 2 (a1, toE (g1, g2, g3))), .own 6], .box [.str s, .int .i64 (nmAt s (trX s 2 (a1, toE (g1, g2, g3))).fst (2 : Int) (toE (ofE (trX s 2 (a1, toE (g1, g2, g3))).snd))), .int .i64 2, .int .i64 (ofE (nmE s (trX s 2 (a1, toE (g1, g2, g3))).fst (2 : Int) (toE (ofE (trX s 2 (a1, toE (g1, g2, g3))).snd)))).fst, .int .i64 (ofE (nmE s (trX s 2 (a1, toE (g1, g2, g3))).fst (2 : Int) (toE (ofE (trX s 2 (a1, toE (g1, g2, g3))).snd)))).snd.fst, .int .i64 (ofE (nmE s (trX s 2 (a1, toE (g1, g2, g3))).fst (2 : Int) (toE (ofE (trX s 2 (a1, toE (g1, g2, g3))).snd)))).snd.snd], .box [.str s, .int .i64 (nAt s (nmAt s (trX s 2 (a1, toE (g1, g2, g3))).fst (2 : Int) (toE (ofE (trX s 2 (a1, toE (g1, g2, g3))).snd))) 1 (ofE (nmE s (trX s 2 (a1, toE (g1, g2, g3))).fst (2 : Int) (toE (ofE (trX s 2 (a1, toE (g1, g2, g3))).snd))))), .int .i64 2, .int .i64 (nF s (nmAt s (trX s 2 (a1, toE (g1, g2, g3))).fst (2 : Int) (toE (ofE (trX s 2 (a1, toE (g1, g2, g3))).snd))) 1 2 (ofE (nmE s (trX s 2 (a1, toE (g1, g2, g3))).fst (2 : Int) (toE (ofE (trX s 2 (a1, toE (g1, g2, g3))).snd))))).fst, .int .i64 (nF s (nmAt s (trX s 2 (a1, toE (g1, g2, g3))).fst (2 : Int) (toE (ofE (trX s 2 (a1, toE (g1, g2, g3))).snd))) 1 2 (ofE (nmE s (trX s 2 (a1, toE (g1, g2, g3))).fst (2 : Int) (toE (ofE (trX s 2 (a1, toE (g1, g2, g3))).snd))))).snd.fst, .int .i64 (nF s (nmAt s (trX s 2 (a1, toE (g1, g2, g3))).fst (2 : Int) (toE (ofE (trX s 2 (a1, toE (g1, g2, g3))).snd))) 1 2 (ofE (nmE s (trX s 2 (a1, toE (g1, g2, g3))).fst (2 : Int) (toE (ofE (trX s 2 (a1, toE (g1, g2, g3))).snd))))).snd.snd], .row 154 [], .row 154 []]) := by kernel_rfl
theorem nf_one8_9 (A : KA Kd) (k : List PV -> Heap Kd -> Prop) (s : ByteArray) (a1 g1 g2 g3 a2 f1 f2 f3 id n : Int) (nm : ByteArray) (may : Bool) : evT PG9 ff_one8 A k 400 true (tdr Tryz.f124 9) (envAt 97 [(4, .ptr 0 0), (5, .ptr 1 0), (6, .ptr 2 0), (7, .ptr 3 0), (9, .ptr 4 0), (10, .int .u64 n)]) [.box [.str ⟨#[]⟩, .int .i64 0, .int .i64 0, .int .i64 0, .int .i64 0, .int .i64 0], .box [.int .i64 0, .str ⟨#[]⟩, .bool false, .own 5], .box [.int .i64 id, .str nm, .bool may, .own 6], .box [.str s, .int .i64 a1, .int .i64 2, .int .i64 g1, .int .i64 g2, .int .i64 g3], .box [.str s, .int .i64 a2, .int .i64 2, .int .i64 f1, .int .i64 f2, .int .i64 f3], .row 154 ([] : List Cl), .row 154 ([] : List Cl)] = (bif f1 == 0 then bif decide (n > 16) then k [.agg [.str s, .int .i64 a2, .int .i64 2, .int .i64 (rFail (f1, f2, f3) 2 8 a1).fst, .int .i64 (rFail (f1, f2, f3) 2 8 a1).snd.fst, .int .i64 (rFail (f1, f2, f3) 2 8 a1).snd.snd], .agg [.int .i64 id, .str nm, .bool may, .own 0]] [.row 154 []] else A (td Tryz.f124 12) (envAt 97 [(4, .ptr 0 0), (5, .ptr 1 0), (6, .ptr 2 0), (9, .ptr 3 0), (10, .int .u64 n), (11, .int .i64 0)]) [.box [.str ⟨#[]⟩, .int .i64 0, .int .i64 0, .int .i64 0, .int .i64 0, .int .i64 0], .box [.int .i64 0, .str ⟨#[]⟩, .bool false, .own 4], .box [.int .i64 id, .str nm, .bool may, .own 5], .box [.str s, .int .i64 a2, .int .i64 2, .int .i64 f1, .int .i64 f2, .int .i64 f3], .row 154 [], .row 154 []]
else A (td Tryz.f124 (12 : Nat)) (envAt (97 : Nat) [((4 : Nat), PV.ptr (0 : Nat) (0 : Nat)), ((5 : Nat), PV.ptr (1 : Nat) (0 : Nat)), ((6 : Nat), PV.ptr (2 : Nat) (0 : Nat)), ((9 : Nat), PV.ptr (3 : Nat) (0 : Nat)), ((10 : Nat), PV.int IntKind.u64 n), ((11 : Nat), PV.int IntKind.i64 (0 : Int))]) [AObj.box [PV.str (ByteArray.mk #[]), PV.int IntKind.i64 (0 : Int), PV.int IntKind.i64 (0 : Int), PV.int IntKind.i64 (0 : Int), PV.int IntKind.i64 (0 : Int), PV.int IntKind.i64 (0 : Int)], AObj.box [PV.int IntKind.i64 (0 : Int), PV.str (ByteArray.mk #[]), PV.bool false, PV.own (4 : Nat)], AObj.box [PV.int IntKind.i64 id, PV.str nm, PV.bool may, PV.own (5 : Nat)], AObj.box [PV.str s, PV.int IntKind.i64 a2, PV.int IntKind.i64 (2 : Int), PV.int IntKind.i64 f1, PV.int IntKind.i64 f2, PV.int IntKind.i64 f3], AObj.row (154 : Nat) [], AObj.row (154 : Nat) []]) := by kernel_rfl
theorem nf_one8_12 (A : KA Kd) (k : List PV -> Heap Kd -> Prop) (s : ByteArray) (a2 f1 f2 f3 id n i : Int) (nm : ByteArray) (may : Bool) (l : List Cl) : evT PG9 ff_one8 A k 400 true (td Tryz.f124 12) (envAt 97 [(4, .ptr 0 0), (5, .ptr 1 0), (6, .ptr 2 0), (9, .ptr 3 0), (10, .int .u64 n), (11, .int .i64 i)]) [.box [.str ⟨#[]⟩, .int .i64 0, .int .i64 0, .int .i64 0, .int .i64 0, .int .i64 0], .box [.int .i64 0, .str ⟨#[]⟩, .bool false, .own 4], .box [.int .i64 id, .str nm, .bool may, .own 5], .box [.str s, .int .i64 a2, .int .i64 2, .int .i64 f1, .int .i64 f2, .int .i64 f3], .row 154 ([] : List Cl), .row 154 l] = (bif decide (i < IntKind.i64.wrap n) then ((0 <= a2 /\ a2 <= (↑s.size : Int) /\ s.size < 4611686018427387904) /\ GoodF (f1, f2, f3)) /\ s.size < 4611686018427387904 /\ ∃ (zs : List (Int × Bool)), List.map e_api_Cell zs = [PV.agg [PV.int IntKind.u32 (IntKind.u32.wrap (nV s (trX s 2 (a2, toE (f1, f2, f3))).fst (4 : Int) (ofE (trX s 2 (a2, toE (f1, f2, f3))).snd))), PV.bool (trV s 2 (a2, toE (f1, f2, f3)))]] /\ (l.length + (zs).length) * (TInfo.mk (TD.struct [((0 : Nat), (61 : TypeId)), ((1 : Nat), (4 : TypeId))]) (2 : Nat) (8 : Nat) [PV.int IntKind.u32 0, PV.bool false] true []).bytes <= 140737488355328 /\ A (td Tryz.f124 12) (envAt 97 [(4, .ptr 0 0), (5, .ptr 1 0), (6, .ptr 2 0), (9, .ptr 3 0), (10, .int .u64 n), (11, .int .i64 (IntKind.i64.wrap (i + 1)))]) [.box [.str ⟨#[]⟩, .int .i64 0, .int .i64 0, .int .i64 0, .int .i64 0, .int .i64 0], .box [.int .i64 0, .str ⟨#[]⟩, .bool false, .own 4], .box [.int .i64 id, .str nm, .bool may, .own 5], .box [.str s, .int .i64 (nAt s (trX s 2 (a2, toE (f1, f2, f3))).fst (4 : Int) (ofE (trX s 2 (a2, toE (f1, f2, f3))).snd)), .int .i64 2, .int .i64 (nF s (trX s 2 (a2, toE (f1, f2, f3))).fst (4 : Int) (2 : Int) (ofE (trX s 2 (a2, toE (f1, f2, f3))).snd)).fst, .int .i64 (nF s (trX s 2 (a2, toE (f1, f2, f3))).fst (4 : Int) (2 : Int) (ofE (trX s 2 (a2, toE (f1, f2, f3))).snd)).snd.fst, .int .i64 (nF s (trX s 2 (a2, toE (f1, f2, f3))).fst (4 : Int) (2 : Int) (ofE (trX s 2 (a2, toE (f1, f2, f3))).snd)).snd.snd], .row 154 [], .row 154 (l ++ zs)]
else k [PV.agg [PV.str s, PV.int IntKind.i64 a2, PV.int IntKind.i64 (2 : Int), PV.int IntKind.i64 f1, PV.int IntKind.i64 f2, PV.int IntKind.i64 f3], PV.agg [PV.int IntKind.i64 id, PV.str nm, PV.bool may, PV.own (0 : Nat)]] [AObj.row (154 : Nat) l]) := by kernel_rfl
def one8S : List PV -> Heap Kd -> (List PV -> Heap Kd -> Prop) -> Prop := fun ys L k => match ys, L with
 | [.agg [.str s, .int .i64 a, .int .i64 sec, .int .i64 f1, .int .i64 f2, .int .i64 f3], .int .i64 last], [] => (((0 <= a /\ a <= (s.size : Int) /\ s.size < 4611686018427387904) /\ GoodF (f1, f2, f3)) /\ sec = 2) /\ ∀ l : List Cl, ((ptX s last (a, toE (f1, f2, f3))).2.isNil = true -> l = clV s 2 (ptN s last (a, toE (f1, f2, f3)))) -> k [.agg [.str s, .int .i64 ((ptX s last (a, toE (f1, f2, f3))).1), .int .i64 2, .int .i64 (ofE ((ptX s last (a, toE (f1, f2, f3))).2)).1, .int .i64 (ofE ((ptX s last (a, toE (f1, f2, f3))).2)).2.1, .int .i64 (ofE ((ptX s last (a, toE (f1, f2, f3))).2)).2.2], .agg [.int .i64 (rdV s a 1 (toE (f1, f2, f3))), .str (nmT s (ptM s last (a, toE (f1, f2, f3))).1 2 (ptM s last (a, toE (f1, f2, f3))).2), .bool (trV s 2 (ptI s last (a, toE (f1, f2, f3)))), .own 0]] [.row 154  l]
 | _, _ => False
theorem one8S_inv {ys : List PV} {L : Heap Kd} {k : List PV -> Heap Kd -> Prop} (h : one8S ys L k) : ∃ (s : ByteArray) (a sec f1 f2 f3 last : Int), ys = [.agg [.str s, .int .i64 a, .int .i64 sec, .int .i64 f1, .int .i64 f2, .int .i64 f3], .int .i64 last] /\ L = [] /\ (((0 <= a /\ a <= (s.size : Int) /\ s.size < 4611686018427387904) /\ GoodF (f1, f2, f3)) /\ sec = 2) /\ ∀ l : List Cl, ((ptX s last (a, toE (f1, f2, f3))).2.isNil = true -> l = clV s 2 (ptN s last (a, toE (f1, f2, f3)))) -> k [.agg [.str s, .int .i64 ((ptX s last (a, toE (f1, f2, f3))).1), .int .i64 2, .int .i64 (ofE ((ptX s last (a, toE (f1, f2, f3))).2)).1, .int .i64 (ofE ((ptX s last (a, toE (f1, f2, f3))).2)).2.1, .int .i64 (ofE ((ptX s last (a, toE (f1, f2, f3))).2)).2.2], .agg [.int .i64 (rdV s a 1 (toE (f1, f2, f3))), .str (nmT s (ptM s last (a, toE (f1, f2, f3))).1 2 (ptM s last (a, toE (f1, f2, f3))).2), .bool (trV s 2 (ptI s last (a, toE (f1, f2, f3)))), .own 0]] [.row 154  l] := by
 unfold one8S at h
 split at h
 ·exact ⟨_, _, _, _, _, _, _, rfl, rfl, h⟩
 ·exact h.elim
theorem trX_bad {s : ByteArray} {sec : Int} {x : RS} (h : x.2.isNil = false) : trX s sec x = x := by
 obtain ⟨_, b2, _, b4⟩ := rd_bad s x.1 1 sec h
 unfold trX; rw [b2, b4, needE_bad h]
theorem cl1_bad {s : ByteArray} {sec : Int} {x : RS} (h : x.2.isNil = false) : cl1 s sec x = x := by
 have e := trX_bad (s := s) (sec := sec) h
 unfold cl1; rw [e]
 obtain ⟨_, b2, _, b4⟩ := rd_bad s x.1 4 sec h
 unfold r1; rw [b2, b4]
theorem clsX_bad {s : ByteArray} {sec : Int} {x : RS} (h : x.2.isNil = false) : ∀ n : Nat, clsX s sec n x = x
 | 0 => rfl
 | n + 1 => by show (bif x.2.isNil then _ else x) = x; rw [h]; rfl
theorem trX_good {s : ByteArray} {sec : Int} {x : RS} (h : GoodE x.2) : GoodE (trX s sec x).2 := (h.rd s x.1 1 sec).need _ _ _ _
theorem one8_loop (A : KA Kd) (k : List PV -> Heap Kd -> Prop) (hA : Closed PG9 ff_one8 k A) (s : ByteArray) (hs : s.size < 4611686018427387904) (id : Int) (nm : ByteArray) (may : Bool) (N : Nat) (hN : N <= 16) :
 ∀ (m i : Nat), i + m = N -> ∀ (acc : List Cl) (x : RS), acc.length <= i -> hIn s x -> GoodE x.2 ->
  (∀ l : List Cl, ((clsX s 2 m x).2.isNil = true -> l = addCl acc (clsV s 2 m x)) -> k [.agg [.str s, .int .i64 ((clsX s 2 m x).1), .int .i64 2, .int .i64 (ofE ((clsX s 2 m x).2)).1, .int .i64 (ofE ((clsX s 2 m x).2)).2.1, .int .i64 (ofE ((clsX s 2 m x).2)).2.2], .agg [.int .i64 id, .str nm, .bool may, .own 0]] [.row 154  l]) ->
  A (td Tryz.f124 12) (envAt 97 [(4, .ptr 0 0), (5, .ptr 1 0), (6, .ptr 2 0), (9, .ptr 3 0), (10, .int .u64 (N : Int)), (11, .int .i64 (i : Int))]) [.box [.str ⟨#[]⟩, .int .i64 0, .int .i64 0, .int .i64 0, .int .i64 0, .int .i64 0], .box [.int .i64 0, .str ⟨#[]⟩, .bool false, .own 4], .box [.int .i64 id, .str nm, .bool may, .own 5], .box [.str s, .int .i64 (x.1), .int .i64 2, .int .i64 (ofE (x.2)).1, .int .i64 (ofE (x.2)).2.1, .int .i64 (ofE (x.2)).2.2], .row 154  ([] : List Cl), .row 154  acc] := by
 intro m
 induction m with
 | zero =>
  intro i hi acc x _ _ _ hk
  refine (hA.nf (nf_one8_12 A k s _ _ _ _ id _ _ nm may acc) ?_)
  have hi : i = N := hi
  have wN : IntKind.i64.wrap (N : Int) = N := wrap_id _ (by omega) (by omega)
  rw [wN, ilt_false (by omega), cond_false]
  exact hk acc (fun _ => (List.append_nil acc).symm)
 | succ m ih =>
  intro i hi acc x hacc hx hg hk
  refine (hA.nf (nf_one8_12 A k s _ _ _ _ id _ _ nm may acc) ?_)
  have wN : IntKind.i64.wrap (N : Int) = N := wrap_id _ (by omega) (by omega)
  rw [wN, ilt_true (by omega), cond_true]
  have hx1 := hx.tr 2
  have hx0 := hx
  obtain ⟨h0, h1⟩ := hx
  have hgt : GoodE (trX s 2 x).2 := trX_good hg
  have hg1 : GoodE (cl1 s 2 x).2 := hgt.rd s (trX s 2 x).1 4 2
  have tE : trX s 2 (x.1, x.2) = trX s 2 x := rfl
  have tV : trV s 2 (x.1, x.2) = trV s 2 x := rfl
  have q1 := hgt.nF (s := s) (a := (trX s 2 x).1) (n := 4) 2 hx1.1 hx1.2 rfl
  have q2 := hgt.nAt (s := s) (a := (trX s 2 x).1) (n := 4) hx1.1 hx1.2 rfl
  have q3 := hgt.nV (s := s) (a := (trX s 2 x).1) (n := 4) hx1.1 hx1.2 rfl
  have t1 : rdAt s (trX s 2 x).1 4 (trX s 2 x).2 = (cl1 s 2 x).1 := rfl
  have t2 : rdE s (trX s 2 x).1 4 2 (trX s 2 x).2 = (cl1 s 2 x).2 := rfl
  simp only [F3_eta, hg.toE, tE, tV, q1, q2, q3, t1, t2]
  obtain ⟨v0, v1⟩ := rdV_lt s (trX s 2 x).1 4 (trX s 2 x).2
  have v1 : rdV s (trX s 2 x).1 (4 : Int) (trX s 2 x).2 < ((256 ^ 4 : Nat) : Int) := v1
  rw [q256_4] at v1
  have v0 : 0 <= rdV s (trX s 2 x).1 (4 : Int) (trX s 2 x).2 := v0
  rw [u32_id _ v0 v1]
  refine ⟨⟨⟨h0, h1, hs⟩, .mk hg⟩, hs, [clV1 s 2 x], rfl, by show (acc.length + 1) * 8 <= _; omega, ?_⟩
  rw [wrap_succ (by omega)]
  refine ih (i + 1) (by omega) (acc ++ [clV1 s 2 x]) (cl1 s 2 x) (by rw [List.length_append, List.length_singleton]; omega) (hx0.cl1 2) hg1 fun l hl => ?_
  cases c : x.2.isNil with
  | false =>
   have e1 : clsX s 2 m (cl1 s 2 x) = clsX s 2 (m + 1) x := by rw [cl1_bad c, clsX_bad c, clsX_bad c]
   rw [e1] at hl ⊢
   refine hk l fun h => ?_
   rw [clsX_bad c, c] at h; cases h
  | true =>
   have e1 : clsX s 2 (m + 1) x = clsX s 2 m (cl1 s 2 x) := by show (bif x.2.isNil then _ else _) = _; rw [c]; rfl
   have e2 : clsV s 2 (m + 1) x = clV1 s 2 x :: clsV s 2 m (cl1 s 2 x) := by show (bif x.2.isNil then _ else _) = _; rw [c]; rfl
   rw [e1, e2] at hk
   refine hk l fun h => ?_
   rw [hl h]; unfold addCl; rw [List.append_assoc]; rfl
theorem ok_one8 : FunF B 124 0 one8S := by
 refine funF_of (N := 97) (f := ff_one8) env_PG9 mixed fn_one8 (by kernel_rfl) (by kernel_rfl) ?_
 intro A k ys L hA hF
 obtain ⟨s, a, sec, f1, f2, f3, last, rfl, rfl, ⟨⟨⟨h0, h1, hs⟩, hgf⟩, rfl⟩, hk⟩ := one8S_inv hF; clear hF
 refine ⟨by kernel_rfl, (hA.nf (nf_one8_a A k s a f1 f2 f3 last) ?_)⟩
 obtain ⟨e, hg, hf⟩ := hgf.ex
 rw [hf, hg.toE] at hk
 obtain ⟨rfl, rfl, rfl⟩ : f1 = (ofE e).1 /\ f2 = (ofE e).2.1 /\ f3 = (ofE e).2.2 := ⟨congrArg (·.1) hf, congrArg (·.2.1) hf, congrArg (·.2.2) hf⟩
 have hx : hIn s (a, e) := ⟨h0, h1⟩
 have xI := hx.ptI last
 have xM := hx.ptM last
 have xN := hx.ptN last
 have gR : GoodE (rdE s a 1 2 e) := hg.rd s a 1 2
 have gI : GoodE (ptI s last (a, e)).2 := gR.need _ _ _ _
 have gM : GoodE (ptM s last (a, e)).2 := trX_good gI
 have gN : GoodE (ptN s last (a, e)).2 := nmE_good gM s _ 2
 have gC : GoodE (rdE s (ptN s last (a, e)).1 1 2 (ptN s last (a, e)).2) := gN.rd s _ 1 2
 obtain ⟨v0, v1⟩ := rdV_lt s a 1 e
 have v1 : rdV s a (1 : Int) e < 256 := v1
 have v0 : 0 <= rdV s a (1 : Int) e := v0
 have h6 : A (tdr Tryz.f124 6) (envAt 97 [(4, .ptr 0 0), (5, .ptr 1 0), (6, .ptr 2 0), (7, .ptr 3 0)]) [.box [.str ⟨#[]⟩, .int .i64 0, .int .i64 0, .int .i64 0, .int .i64 0, .int .i64 0], .box [.int .i64 0, .str ⟨#[]⟩, .bool false, .own 4], .box [.int .i64 (rdV s a 1 e), .str ⟨#[]⟩, .bool false, .own 5], .box [.str s, .int .i64 (rdAt s a 1 e), .int .i64 2, .int .i64 (ofE ((ptI s last (a, e)).2)).1, .int .i64 (ofE ((ptI s last (a, e)).2)).2.1, .int .i64 (ofE ((ptI s last (a, e)).2)).2.2], .row 154  ([] : List Cl), .row 154  ([] : List Cl)] := by
  refine (hA.nf (nf_one8_6 A k s _ _ _ _ _) ?_)
  have tI : (rdAt s a 1 e, (ptI s last (a, e)).2) = ptI s last (a, e) := rfl
  have tM : trX s 2 (ptI s last (a, e)) = ptM s last (a, e) := rfl
  have tN1 : nmAt s (ptM s last (a, e)).1 2 (ptM s last (a, e)).2 = (ptN s last (a, e)).1 := rfl
  have tN2 : nmE s (ptM s last (a, e)).1 2 (ptM s last (a, e)).2 = (ptN s last (a, e)).2 := rfl
  have q1 := gN.nF (s := s) (a := (ptN s last (a, e)).1) (n := 1) 2 xN.1 xN.2 rfl
  have q2 := gN.nAt (s := s) (a := (ptN s last (a, e)).1) (n := 1) xN.1 xN.2 rfl
  have q3 := gN.nV (s := s) (a := (ptN s last (a, e)).1) (n := 1) xN.1 xN.2 rfl
  simp only [F3_eta, gI.toE, tI, tM, gM.toE, tN1, tN2, q1, q2, q3]
  refine ⟨⟨⟨xI.1, xI.2, hs⟩, .mk gI⟩, ⟨⟨xM.1, xM.2, hs⟩, .mk gM⟩, hs, ?_⟩
  refine (hA.nf (nf_one8_9 A k s _ _ _ _ _ _ _ _ _ _ _ _) ?_)
  rw [gC.nil_iff]
  have hcn : cnX s 2 (ptN s last (a, e)) = (rdAt s (ptN s last (a, e)).1 1 (ptN s last (a, e)).2, needE (rdE s (ptN s last (a, e)).1 1 2 (ptN s last (a, e)).2) (decide (rdV s (ptN s last (a, e)).1 1 (ptN s last (a, e)).2 <= 16)) 2 8 (ptN s last (a, e)).1) := rfl
  have hX : ptX s last (a, e) = bif (cnX s 2 (ptN s last (a, e))).2.isNil then clsX s 2 (cnN s (ptN s last (a, e))) (cnX s 2 (ptN s last (a, e))) else cnX s 2 (ptN s last (a, e)) := rfl
  have hV : clV s 2 (ptN s last (a, e)) = clsV s 2 (cnN s (ptN s last (a, e))) (cnX s 2 (ptN s last (a, e))) := rfl
  obtain ⟨w0, w1⟩ := rdV_lt s (ptN s last (a, e)).1 1 (ptN s last (a, e)).2
  have w0 : 0 <= rdV s (ptN s last (a, e)).1 (1 : Int) (ptN s last (a, e)).2 := w0
  have hn : rdV s (ptN s last (a, e)).1 1 (ptN s last (a, e)).2 = ((cnN s (ptN s last (a, e)) : Nat) : Int) := (Int.toNat_of_nonneg w0).symm
  have hc := xN.cn 2
  cases c : (rdE s (ptN s last (a, e)).1 1 2 (ptN s last (a, e)).2).isNil with
  | false =>
   have hcn2 := hcn
   rw [needE_bad c] at hcn2
   have hz : rdV s (ptN s last (a, e)).1 1 (ptN s last (a, e)).2 = 0 := by
    rw [rdE_nil] at c; unfold rdV; rw [c]; rfl
   have hX2 : ptX s last (a, e) = (rdAt s (ptN s last (a, e)).1 1 (ptN s last (a, e)).2, rdE s (ptN s last (a, e)).1 1 2 (ptN s last (a, e)).2) := by rw [hX, hcn2]; simp only; rw [c]; rfl
   rw [hX2] at hk
   rw [cond_false, hz]
   refine one8_loop A k hA s hs _ _ _ 0 (by omega) 0 0 rfl [] (rdAt s (ptN s last (a, e)).1 1 (ptN s last (a, e)).2, rdE s (ptN s last (a, e)).1 1 2 (ptN s last (a, e)).2) (Nat.le_refl _) hc gC fun l hl => ?_
   refine hk l fun h => ?_
   simp only at h; rw [c] at h; cases h
  | true =>
   rw [cond_true]
   cases c2 : decide (rdV s (ptN s last (a, e)).1 1 (ptN s last (a, e)).2 > 16) with
   | true =>
    rw [decide_eq_true_eq] at c2
    rw [cond_true]
    have hcn2 := hcn
    rw [decide_eq_false (by omega)] at hcn2
    have hnd : needE (rdE s (ptN s last (a, e)).1 1 2 (ptN s last (a, e)).2) false 2 8 (ptN s last (a, e)).1 = failR (rdE s (ptN s last (a, e)).1 1 2 (ptN s last (a, e)).2) 2 8 (ptN s last (a, e)).1 := rfl
    rw [hnd] at hcn2
    have hf : (failR (rdE s (ptN s last (a, e)).1 1 2 (ptN s last (a, e)).2) 2 8 (ptN s last (a, e)).1).isNil = false := failR_not _ _ _ rfl
    have hX2 : ptX s last (a, e) = (rdAt s (ptN s last (a, e)).1 1 (ptN s last (a, e)).2, failR (rdE s (ptN s last (a, e)).1 1 2 (ptN s last (a, e)).2) 2 8 (ptN s last (a, e)).1) := by rw [hX, hcn2]; simp only; rw [hf]; rfl
    rw [hX2] at hk
    have e7 := (gC.ofE_fail 2 8 (ptN s last (a, e)).1).symm
    rw [e7]
    refine hk [] fun h => ?_
    simp only at h; rw [hf] at h; cases h
   | false =>
    rw [decide_eq_false_iff_not] at c2
    rw [cond_false]
    have hcn2 := hcn
    rw [decide_eq_true (by omega)] at hcn2
    have hnd : needE (rdE s (ptN s last (a, e)).1 1 2 (ptN s last (a, e)).2) true 2 8 (ptN s last (a, e)).1 = rdE s (ptN s last (a, e)).1 1 2 (ptN s last (a, e)).2 := rfl
    rw [hnd] at hcn2
    have hX2 : ptX s last (a, e) = clsX s 2 (cnN s (ptN s last (a, e))) (rdAt s (ptN s last (a, e)).1 1 (ptN s last (a, e)).2, rdE s (ptN s last (a, e)).1 1 2 (ptN s last (a, e)).2) := by rw [hX, hcn2]; simp only; rw [c]; rfl
    rw [hX2] at hk
    rw [hV, hcn2] at hk
    rw [hn]
    exact one8_loop A k hA s hs _ _ _ (cnN s (ptN s last (a, e))) (by omega) (cnN s (ptN s last (a, e))) 0 (by omega) [] (rdAt s (ptN s last (a, e)).1 1 (ptN s last (a, e)).2, rdE s (ptN s last (a, e)).1 1 2 (ptN s last (a, e)).2) (Nat.le_refl _) hc gC hk
 have q1 := hg.nF (s := s) (a := a) (n := 1) 2 h0 h1 rfl
 have q2 := hg.nAt (s := s) (a := a) (n := 1) h0 h1 rfl
 have q3 := hg.nV (s := s) (a := a) (n := 1) h0 h1 rfl
 simp only [F3_eta, q1, q2, q3]
 rw [wrap_id _ (by omega) (by omega), gR.nil_iff]
 refine ⟨hs, ?_⟩
 have hI : (ptI s last (a, e)).2 = needE (rdE s a 1 2 e) (decide (rdV s a 1 e > last)) 2 9 a := rfl
 cases c : (rdE s a 1 2 e).isNil with
 | false =>
  rw [hI, needE_bad c] at h6
  exact h6
 | true =>
  rw [cond_true]
  cases c2 : decide (rdV s a 1 e <= last) with
  | true =>
   rw [decide_eq_true_eq] at c2
   rw [decide_eq_false (by omega)] at hI
   have hI : (ptI s last (a, e)).2 = failR (rdE s a 1 2 e) 2 9 a := hI
   rw [hI] at h6
   rw [cond_true]
   have e7 := (gR.ofE_fail 2 9 a).symm
   rw [e7]
   exact h6
  | false =>
   rw [decide_eq_false_iff_not] at c2
   rw [decide_eq_true (by omega)] at hI
   have hI : (ptI s last (a, e)).2 = rdE s a 1 2 e := hI
   rw [hI] at h6
   exact h6
noncomputable def PH0 := base (fun g => match g with | 124 => some (lift 0 one8S) | _ => none) (fun _ => none) (fun _ => none)
theorem env_PH0 : EnvOk PH0 := env_of (fun g F h => (by cases h)) (by
 intro g F h
 split at h
 ·cases h; exact (lift_ok ok_one8)
 ·cases h) (fun g F h => (by cases h))
theorem fn_rGet8 : FnOk Tryz.prog 53 Tryz.f53 (bodyOf Tryz.f53) := ⟨by kernel_rfl, by kernel_rfl, by kernel_rfl⟩
noncomputable def ff_rGet8 : Fun := ⟨Tryz.f53.ntmps, 0, Tryz.f53.results.toList, fun i => match i with | 5 => some [1, 2, 4, 6, 7, 8] | _ => none, fun _ => false, fun _ => []⟩
theorem nf_rGet8_a (A : KA Kd) (k : List PV -> Heap Kd -> Prop) (s : ByteArray) (a sec f1 f2 f3 n : Int) : evT PH0 ff_rGet8 A k 400 false [.code (bodyOf Tryz.f53)] (startEnv 44 [.agg [.str s, .int .i64 a, .int .i64 sec, .int .i64 f1, .int .i64 f2, .int .i64 f3], .int .i64 n]) [] = (∃ (zs : List (Int × ByteArray × Bool × (List (Int × Bool)))), List.map e_api_Partition zs = [] /\ A (td Tryz.f53 5) (envAt 44 [(1, .int .i64 n), (2, .ptr 0 0), (4, .ptr 1 0), (6, .own 2), (7, .int .i64 (-1 : Int)), (8, .int .i64 0)]) [.box [.str s, .int .i64 a, .int .i64 2, .int .i64 f1, .int .i64 f2, .int .i64 f3], .box [.str ⟨#[]⟩, .int .i64 0, .int .i64 0, .int .i64 0, .int .i64 0, .int .i64 0], .row 55 zs]) := by kernel_rfl
theorem nf_rGet8_b (A : KA Kd) (k : List PV -> Heap Kd -> Prop) (s : ByteArray) (a f1 f2 f3 n last i : Int) (l : List Prt) : evT PH0 ff_rGet8 A k 400 true (td Tryz.f53 5) (envAt 44 [(1, .int .i64 n), (2, .ptr 0 0), (4, .ptr 1 0), (6, .own 2), (7, .int .i64 last), (8, .int .i64 i)]) [.box [.str s, .int .i64 a, .int .i64 2, .int .i64 f1, .int .i64 f2, .int .i64 f3], .box [.str ⟨#[]⟩, .int .i64 0, .int .i64 0, .int .i64 0, .int .i64 0, .int .i64 0], .row 55 l] = (bif decide (i < n) then bif f1 == 0 then (((0 <= a /\ a <= (↑s.size : Int) /\ s.size < 4611686018427387904) /\ GoodF (f1, f2, f3)) /\ (2 : Int) = (2 : Int)) /\ ∀ (l_1 : List Cl), ((ptX s last (a, toE (f1, f2, f3))).snd.isNil = true -> l_1 = clV s 2 (ptN s last (a, toE (f1, f2, f3)))) -> ∃ (zs : List (Int × ByteArray × Bool × (List (Int × Bool)))), List.map e_api_Partition zs = [PV.agg [PV.int IntKind.i64 (rdV s a 1 (toE (f1, f2, f3))), PV.str (nmT s (ptM s last (a, toE (f1, f2, f3))).fst (2 : Int) (ptM s last (a, toE (f1, f2, f3))).snd), PV.bool (trV s 2 (ptI s last (a, toE (f1, f2, f3)))), PV.sl (Int × Bool) e_api_Cell l_1]] /\ (l.length + (zs).length) * (TInfo.mk (TD.struct [((0 : Nat), (3 : TypeId)), ((1 : Nat), (9 : TypeId)), ((2 : Nat), (4 : TypeId)), ((3 : Nat), (53 : TypeId))]) (4 : Nat) (56 : Nat) [PV.int IntKind.i64 0, PV.str (ByteArray.mk #[]), PV.bool false, PV.raw nilSlice] true [((3 : Nat), (154 : TypeId))]).bytes <= 140737488355328 /\ A (td Tryz.f53 5) (envAt 44 [(1, .int .i64 n), (2, .ptr 0 0), (4, .ptr 1 0), (6, .own 2), (7, .int .i64 (rdV s a 1 (toE (f1, f2, f3)))), (8, .int .i64 (IntKind.i64.wrap (i + 1)))]) [.box [.str s, .int .i64 (ptX s last (a, toE (f1, f2, f3))).fst, .int .i64 2, .int .i64 (ofE (ptX s last (a, toE (f1, f2, f3))).snd).fst, .int .i64 (ofE (ptX s last (a, toE (f1, f2, f3))).snd).snd.fst, .int .i64 (ofE (ptX s last (a, toE (f1, f2, f3))).snd).snd.snd], .box [.str ⟨#[]⟩, .int .i64 0, .int .i64 0, .int .i64 0, .int .i64 0, .int .i64 0], .row 55 (l ++ zs)] else bif f1 != 0 then k [.agg [.str s, .int .i64 a, .int .i64 2, .int .i64 f1, .int .i64 f2, .int .i64 f3], .own 0] [.row 55 []] else k [.agg [.str s, .int .i64 a, .int .i64 2, .int .i64 f1, .int .i64 f2, .int .i64 f3], .own 0] [.row 55 l]
else bif f1 != (0 : Int) then k [PV.agg [PV.str s, PV.int IntKind.i64 a, PV.int IntKind.i64 (2 : Int), PV.int IntKind.i64 f1, PV.int IntKind.i64 f2, PV.int IntKind.i64 f3], PV.own (0 : Nat)] [AObj.row (55 : Nat) []] else k [PV.agg [PV.str s, PV.int IntKind.i64 a, PV.int IntKind.i64 (2 : Int), PV.int IntKind.i64 f1, PV.int IntKind.i64 f2, PV.int IntKind.i64 f3], PV.own (0 : Nat)] [AObj.row (55 : Nat) l]) := by kernel_rfl
def rGet8S : List PV -> Heap Kd -> (List PV -> Heap Kd -> Prop) -> Prop := fun ys L k => match ys, L with
 | [.agg [.str s, .int .i64 a, .int .i64 sec, .int .i64 f1, .int .i64 f2, .int .i64 f3], .int .i64 n], [] => (((0 <= a /\ a <= (s.size : Int) /\ s.size < 1099511627776) /\ GoodF (f1, f2, f3)) /\ n <= 9223372036854775807) /\ k [.agg [.str s, .int .i64 (ptsX s n.toNat (-1) (a, toE (f1, f2, f3))).1, .int .i64 2, .int .i64 (ofE (ptsX s n.toNat (-1) (a, toE (f1, f2, f3))).2).1, .int .i64 (ofE (ptsX s n.toNat (-1) (a, toE (f1, f2, f3))).2).2.1, .int .i64 (ofE (ptsX s n.toNat (-1) (a, toE (f1, f2, f3))).2).2.2], .own 0] [.row 55 (resPt s n.toNat (a, toE (f1, f2, f3)))]
 | _, _ => False
theorem rGet8S_inv {ys : List PV} {L : Heap Kd} {k : List PV -> Heap Kd -> Prop} (h : rGet8S ys L k) : ∃ (s : ByteArray) (a : Int) (sec : Int) (f1 : Int) (f2 : Int) (f3 : Int) (n : Int), ys = [.agg [.str s, .int .i64 a, .int .i64 sec, .int .i64 f1, .int .i64 f2, .int .i64 f3], .int .i64 n] /\ L = [] /\ (((0 <= a /\ a <= (s.size : Int) /\ s.size < 1099511627776) /\ GoodF (f1, f2, f3)) /\ n <= 9223372036854775807) /\ k [.agg [.str s, .int .i64 (ptsX s n.toNat (-1) (a, toE (f1, f2, f3))).1, .int .i64 2, .int .i64 (ofE (ptsX s n.toNat (-1) (a, toE (f1, f2, f3))).2).1, .int .i64 (ofE (ptsX s n.toNat (-1) (a, toE (f1, f2, f3))).2).2.1, .int .i64 (ofE (ptsX s n.toNat (-1) (a, toE (f1, f2, f3))).2).2.2], .own 0] [.row 55 (resPt s n.toNat (a, toE (f1, f2, f3)))] := by
 unfold rGet8S at h
 split at h
 ·exact ⟨_, _, _, _, _, _, _, rfl, rfl, h⟩
 ·exact h.elim
theorem clsX_good {s : ByteArray} {sec : Int} : ∀ (n : Nat) {x : RS}, GoodE x.2 -> GoodE (clsX s sec n x).2
 | 0, _, h => h
 | n + 1, x, h => by
  unfold clsX
  cases x.2.isNil with
  | false => exact h
  | true => exact clsX_good n ((trX_good h).rd s _ 4 sec)
theorem ptX_good {s : ByteArray} {last : Int} {x : RS} (h : GoodE x.2) : GoodE (ptX s last x).2 := by
 have h1 : GoodE (ptI s last x).2 := (h.rd s x.1 1 2).need _ _ _ _
 have h3 : GoodE (ptN s last x).2 := nmE_good (trX_good h1) s _ 2
 have h4 : GoodE (cnX s 2 (ptN s last x)).2 := (h3.rd s _ 1 2).need _ _ _ _
 unfold ptX clX
 cases (cnX s 2 (ptN s last x)).2.isNil with
 | false => exact h4
 | true => exact clsX_good _ h4
theorem rGet8_loop (A : KA Kd) (k : List PV -> Heap Kd -> Prop) (hA : Closed PH0 ff_rGet8 k A) (s : ByteArray) (hs : s.size < 1099511627776) (n : Int) (hn : n <= 9223372036854775807) :
 ∀ (m i : Nat), (m : Int) + (i : Int) = n \/ (m = 0 /\ n <= (i : Int)) -> ∀ (acc : List Prt) (last : Int) (x : RS), acc.length = i -> (x.2.isNil = true -> (i : Int) <= x.1) -> hIn s x -> GoodE x.2 ->
  (∀ r, r = (bif (ptsX s m last x).2.isNil then addPr acc (ptsV s m last x) else []) -> k [.agg [.str s, .int .i64 (ptsX s m last x).1, .int .i64 2, .int .i64 (ofE (ptsX s m last x).2).1, .int .i64 (ofE (ptsX s m last x).2).2.1, .int .i64 (ofE (ptsX s m last x).2).2.2], .own 0] [.row 55 r]) ->
  A (td Tryz.f53 5) (envAt 44 [(1, .int .i64 n), (2, .ptr 0 0), (4, .ptr 1 0), (6, .own 2), (7, .int .i64 last), (8, .int .i64 (i : Int))]) [.box [.str s, .int .i64 (x).1, .int .i64 2, .int .i64 (ofE (x).2).1, .int .i64 (ofE (x).2).2.1, .int .i64 (ofE (x).2).2.2], .box [.str ⟨#[]⟩, .int .i64 0, .int .i64 0, .int .i64 0, .int .i64 0, .int .i64 0], .row 55 acc] := by
 have bne : ∀ v : Int, (v != 0) = !(v == 0) := fun _ => rfl
 intro m
 have hend : ∀ (l m : List Prt) (x : RS), GoodE x.2 -> (m = bif x.2.isNil then l else []) -> k [.agg [.str s, .int .i64 (x).1, .int .i64 2, .int .i64 (ofE (x).2).1, .int .i64 (ofE (x).2).2.1, .int .i64 (ofE (x).2).2.2], .own 0] [.row 55 m] ->
  bif (ofE x.2).1 != 0 then k [.agg [.str s, .int .i64 (x).1, .int .i64 2, .int .i64 (ofE (x).2).1, .int .i64 (ofE (x).2).2.1, .int .i64 (ofE (x).2).2.2], .own 0] [.row 55 ([] : List Prt)] else k [.agg [.str s, .int .i64 (x).1, .int .i64 2, .int .i64 (ofE (x).2).1, .int .i64 (ofE (x).2).2.1, .int .i64 (ofE (x).2).2.2], .own 0] [.row 55 l] := by
  intro l m x hg hm hk
  subst hm
  rw [bne, hg.nil_iff]
  cases c : x.2.isNil with
  | false => rw [c] at hk; exact hk
  | true => rw [c] at hk; exact hk
 induction m with
 | zero =>
  intro i hi acc last x hacc hix hx hg hk
  refine (hA.nf (nf_rGet8_b A k s _ _ _ _ n _ _ acc) ?_)
  have d : decide ((i : Int) < n) = false := decide_eq_false (by omega)
  rw [d, cond_false]
  refine hend acc _ x hg rfl (hk _ ?_)
  have e : addPr acc (ptsV s 0 last x) = acc := List.append_nil acc
  rw [e]; rfl
 | succ m ih =>
  intro i hi acc last x hacc hix hx hg hk
  refine (hA.nf (nf_rGet8_b A k s _ _ _ _ n _ _ acc) ?_)
  have d : decide ((i : Int) < n) = true := decide_eq_true (by omega)
  rw [d, cond_true]
  have x4 := hx.pt last
  obtain ⟨h0, h1⟩ := hx
  have hx : hIn s x := ⟨h0, h1⟩
  rw [hg.nil_iff]
  cases c : x.2.isNil with
  | false =>
   have e1 : ptsX s (m + 1) last x = x := ptsX_err c _ _
   rw [cond_false]
   refine hend acc _ x hg rfl ?_
   rw [e1] at hk
   exact hk _ (by rw [c]; rfl)
  | true =>
   have e1 : ptsX s (m + 1) last x = ptsX s m (rdV s x.1 1 x.2) (ptX s last x) := by show (bif x.2.isNil then _ else _) = _; rw [c]; rfl
   have e2 : ptsV s (m + 1) last x = ptV s last x :: ptsV s m (rdV s x.1 1 x.2) (ptX s last x) := by show (bif x.2.isNil then _ else _) = _; rw [c]; rfl
   rw [e1, e2] at hk
   have hi2 := hix c
   have hlen : (acc.length + 1) * 56 <= 140737488355328 := by omega
   have tx : (x.1, x.2) = x := rfl
   simp only [F3_eta, hg.toE, tx]
   rw [cond_true]
   refine ⟨⟨⟨⟨h0, h1, by omega⟩, .mk hg⟩, trivial⟩, fun l hl => ?_⟩
   refine ⟨[(rdV s x.1 1 x.2, nmT s (ptM s last x).1 2 (ptM s last x).2, trV s 2 (ptI s last x), l)], rfl, hlen, ?_⟩
   rw [wrap_succ' (by omega)]
   refine ih (i + 1) (by omega) _ _ (ptX s last x) (by rw [List.length_append, List.length_singleton, hacc]) (fun h => ?_) x4 (ptX_good hg) ?_
   ·have := ptX_adv h; omega
   ·intro r hr
    refine hk r ?_
    rw [hr]
    cases c2 : (ptX s last x).2.isNil with
    | false => rw [ptsX_err c2, c2]; rfl
    | true =>
     rw [show l = clV s 2 (ptN s last x) from hl c2]
     unfold addPr; rw [List.append_assoc]; rfl
theorem ok_rGet8 : FunF B 53 0 rGet8S := by
 refine funF_of (N := 44) (f := ff_rGet8) env_PH0 mixed fn_rGet8 (by kernel_rfl) (by kernel_rfl) ?_
 intro A k ys L hA hF
 obtain ⟨s, a, sec, f1, f2, f3, n, rfl, rfl, ⟨⟨⟨h0, h1, hs⟩, hgf⟩, hn⟩, hk⟩ := rGet8S_inv hF; clear hF
 refine ⟨by kernel_rfl, (hA.nf (nf_rGet8_a A k s a sec f1 f2 f3 n) ?_)⟩
 obtain ⟨e, hg, hf⟩ := hgf.ex
 rw [hf, hg.toE] at hk
 obtain ⟨rfl, rfl, rfl⟩ : f1 = (ofE e).1 /\ f2 = (ofE e).2.1 /\ f3 = (ofE e).2.2 := ⟨congrArg (·.1) hf, congrArg (·.2.1) hf, congrArg (·.2.2) hf⟩
 refine ⟨[], rfl, ?_⟩
 refine rGet8_loop A k hA s hs n hn n.toNat 0 (by omega) [] (-1) (a, e) rfl (fun _ => h0) ⟨h0, h1⟩ hg ?_
 rintro r rfl
 exact hk
end Go.Ab.T
