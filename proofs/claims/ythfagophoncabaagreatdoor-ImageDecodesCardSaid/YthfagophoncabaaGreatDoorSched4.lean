import Derived.Test.YthfagophoncabaaGreatDoorSched3
import Derived.Test.YthfagophoncabaaGreatDoorRef05
set_option linter.unusedVariables false
set_option linter.unusedSimpArgs false
set_option linter.unusedSectionVars false
namespace Go.Ab.T
open Go Go.Ab Go.Proofs
variable [DMode]
set_option maxRecDepth 100000
set_option maxHeartbeats 4000000
noncomputable def V0 := base (fun _ => none) (fun g => match g with | 144 => some wiS | 57 => some rFailS | 122 => some rNumS | _ => none) (fun _ => none)
theorem env_V0 : EnvOk V0 := env_of (by
 intro g F h
 split at h
 ·cases h; exact ok_rin
 ·cases h; exact ok_rFail
 ·cases h; exact ok_rNum
 ·cases h) (fun g F h => (by cases h)) (fun g F h => (by cases h))
def rTk9S : SpecS := fun ys Φ => match ys with
 | [.agg [.str s, .int .i64 a, .int .i64 sec, .int .i64 f1, .int .i64 f2, .int .i64 f3], .int .i64 n] => ((0 <= a /\ a <= (s.size : Int) /\ s.size < 4611686018427387904) /\ GoodF (f1, f2, f3)) /\ Φ [.agg [.str s, .int .i64 (tk s sec n (a, toE (f1, f2, f3))).1, .int .i64 sec, .int .i64 (ofE (tk s sec n (a, toE (f1, f2, f3))).2).1, .int .i64 (ofE (tk s sec n (a, toE (f1, f2, f3))).2).2.1, .int .i64 (ofE (tk s sec n (a, toE (f1, f2, f3))).2).2.2], .int .i64 (tkV s sec n (a, toE (f1, f2, f3)))]
 | _ => False
theorem rTk9S_mono : MonoS rTk9S := by
 intro ys Φ Ψ h hF
 unfold rTk9S at hF ⊢
 split at hF
 ·obtain ⟨hp, hk⟩ := hF; exact ⟨hp, h _ hk⟩
 ·exact hF.elim
theorem rTk9S_inv {ys : List PV} {Φ : List PV -> Prop} (h : rTk9S ys Φ) : ∃ (s : ByteArray) (a : Int) (sec : Int) (f1 : Int) (f2 : Int) (f3 : Int) (n : Int), ys = [.agg [.str s, .int .i64 a, .int .i64 sec, .int .i64 f1, .int .i64 f2, .int .i64 f3], .int .i64 n] /\ ((0 <= a /\ a <= (s.size : Int) /\ s.size < 4611686018427387904) /\ GoodF (f1, f2, f3)) /\ Φ [.agg [.str s, .int .i64 (tk s sec n (a, toE (f1, f2, f3))).1, .int .i64 sec, .int .i64 (ofE (tk s sec n (a, toE (f1, f2, f3))).2).1, .int .i64 (ofE (tk s sec n (a, toE (f1, f2, f3))).2).2.1, .int .i64 (ofE (tk s sec n (a, toE (f1, f2, f3))).2).2.2], .int .i64 (tkV s sec n (a, toE (f1, f2, f3)))] := by
 unfold rTk9S at h
 split at h
 ·exact ⟨_, _, _, _, _, _, _, rfl, h⟩
 ·exact h.elim
theorem fn_rTk9 : FnOk Tryz.prog 125 Tryz.f125 (bodyOf Tryz.f125) := ⟨by kernel_rfl, by kernel_rfl, by kernel_rfl⟩
noncomputable def ff_rTk9 : Fun := ⟨Tryz.f125.ntmps, 0, Tryz.f125.results.toList, fun _ => none, fun _ => false, fun _ => []⟩
theorem nf_rTk9 (A : KA Kd) (k : List PV -> Heap Kd -> Prop) (s : ByteArray) (a sec f1 f2 f3 n : Int) : evT V0 ff_rTk9 A k 400 false [.code (bodyOf Tryz.f125)] (startEnv 31 [.agg [.str s, .int .i64 a, .int .i64 sec, .int .i64 f1, .int .i64 f2, .int .i64 f3], .int .i64 n]) [] = (s.size < 4611686018427387904 /\ bif (nF s a 4 sec (f1, f2, f3)).fst == 0 then bif !wiV (IntKind.i64.wrap (nV s a 4 (f1, f2, f3))) n 1048576 then k [.agg [.str s, .int .i64 (nAt s a 4 (f1, f2, f3)), .int .i64 sec, .int .i64 (rFail (nF s a 4 sec (f1, f2, f3)) sec 18 a).fst, .int .i64 (rFail (nF s a 4 sec (f1, f2, f3)) sec 18 a).snd.fst, .int .i64 (rFail (nF s a 4 sec (f1, f2, f3)) sec 18 a).snd.snd], .int .i64 0] [] else k [.agg [.str s, .int .i64 (nAt s a 4 (f1, f2, f3)), .int .i64 sec, .int .i64 (nF s a 4 sec (f1, f2, f3)).fst, .int .i64 (nF s a 4 sec (f1, f2, f3)).snd.fst, .int .i64 (nF s a 4 sec (f1, f2, f3)).snd.snd], .int .i64 (IntKind.i64.wrap (nV s a 4 (f1, f2, f3)))] [] else k [.agg [.str s, .int .i64 (nAt s a 4 (f1, f2, f3)), .int .i64 sec, .int .i64 (nF s a 4 sec (f1, f2, f3)).fst, .int .i64 (nF s a 4 sec (f1, f2, f3)).snd.fst, .int .i64 (nF s a 4 sec (f1, f2, f3)).snd.snd], .int .i64 (IntKind.i64.wrap (nV s a 4 (f1, f2, f3)))] []) := by kernel_rfl
theorem ok_rTk9 : FunS B 125 rTk9S := by
 refine funS_of (N := 31) (f := ff_rTk9) env_V0 mixed fn_rTk9 (by kernel_rfl) (by kernel_rfl) (by kernel_rfl) rTk9S_mono ?_
 intro A k ys hA hF
 obtain ⟨s, a, sec, f1, f2, f3, n, rfl, ⟨⟨h0, h1, hs⟩, hgf⟩, hk⟩ := rTk9S_inv hF; clear hF
 refine ⟨by kernel_rfl, (hA.nf (nf_rTk9 A k s a sec f1 f2 f3 n) ?_)⟩
 obtain ⟨e, hg, hf⟩ := hgf.ex
 rw [hf, hg.toE] at hk
 rw [hf]
 have z4 : sizeOk 4 = true := rfl
 rw [hg.nF sec h0 h1 z4, hg.nV h0 h1 z4, hg.nAt h0 h1 z4]
 try simp only [F3_eta]
 have hg1 : GoodE (rdE s a 4 sec e) := hg.rd s a 4 sec
 obtain ⟨v0, v1⟩ := rdV_lt s a 4 e
 have v0 : 0 <= rdV s a (4 : Int) e := v0
 have v1 : rdV s a (4 : Int) e < 4294967296 := v1
 have hv0 : (rdE s a 4 sec e).isNil = false -> rdV s a 4 e = 0 := fun h => by
  rw [rdE_nil] at h; unfold rdV; rw [h]; rfl
 unfold tkV tk tkE at hk
 simp only at hk
 refine ⟨hs, ?_⟩
 generalize rdE s a 4 sec e = e1 at *
 generalize rdV s a 4 e = v at *
 rw [hg1.nil_iff, wrap_id v (by omega) (by omega)]
 cases c1 : e1.isNil with
 | false =>
  rw [needE_bad c1, c1] at hk
  rw [hv0 c1]
  exact hk
 | true =>
  cases c2 : wiV v n 1048576 with
  | true =>
   have e2 : needE e1 true sec 18 a = e1 := rfl
   rw [c2, e2, c1] at hk; exact hk
  | false =>
   have e2 : needE e1 false sec 18 a = failR e1 sec 18 a := rfl
   rw [c2, e2, failR_not e1 sec a (k := 18) rfl, hg1.ofE_fail] at hk
   exact hk
noncomputable def V1 := base (fun _ => none) (fun g => match g with | 122 => some rNumS | 125 => some rTk9S | _ => none) (fun _ => none)
theorem env_V1 : EnvOk V1 := env_of (by
 intro g F h
 split at h
 ·cases h; exact ok_rNum
 ·cases h; exact ok_rTk9
 ·cases h) (fun g F h => (by cases h)) (fun g F h => (by cases h))
def rRow9S : SpecS := fun ys Φ => match ys with
 | [.agg [.str s, .int .i64 a, .int .i64 sec, .int .i64 f1, .int .i64 f2, .int .i64 f3]] => ((0 <= a /\ a <= (s.size : Int) /\ s.size < 4611686018427387904) /\ GoodF (f1, f2, f3)) /\ Φ [.agg [.str s, .int .i64 (rowX s sec (a, toE (f1, f2, f3))).1, .int .i64 sec, .int .i64 (ofE (rowX s sec (a, toE (f1, f2, f3))).2).1, .int .i64 (ofE (rowX s sec (a, toE (f1, f2, f3))).2).2.1, .int .i64 (ofE (rowX s sec (a, toE (f1, f2, f3))).2).2.2], .agg [.int .i64 (rowV s sec (a, toE (f1, f2, f3))).1, .int .i64 (rowV s sec (a, toE (f1, f2, f3))).2.1, .int .i64 (rowV s sec (a, toE (f1, f2, f3))).2.2]]
 | _ => False
theorem rRow9S_mono : MonoS rRow9S := by
 intro ys Φ Ψ h hF
 unfold rRow9S at hF ⊢
 split at hF
 ·obtain ⟨hp, hk⟩ := hF; exact ⟨hp, h _ hk⟩
 ·exact hF.elim
theorem rRow9S_inv {ys : List PV} {Φ : List PV -> Prop} (h : rRow9S ys Φ) : ∃ (s : ByteArray) (a : Int) (sec : Int) (f1 : Int) (f2 : Int) (f3 : Int), ys = [.agg [.str s, .int .i64 a, .int .i64 sec, .int .i64 f1, .int .i64 f2, .int .i64 f3]] /\ ((0 <= a /\ a <= (s.size : Int) /\ s.size < 4611686018427387904) /\ GoodF (f1, f2, f3)) /\ Φ [.agg [.str s, .int .i64 (rowX s sec (a, toE (f1, f2, f3))).1, .int .i64 sec, .int .i64 (ofE (rowX s sec (a, toE (f1, f2, f3))).2).1, .int .i64 (ofE (rowX s sec (a, toE (f1, f2, f3))).2).2.1, .int .i64 (ofE (rowX s sec (a, toE (f1, f2, f3))).2).2.2], .agg [.int .i64 (rowV s sec (a, toE (f1, f2, f3))).1, .int .i64 (rowV s sec (a, toE (f1, f2, f3))).2.1, .int .i64 (rowV s sec (a, toE (f1, f2, f3))).2.2]] := by
 unfold rRow9S at h
 split at h
 ·exact ⟨_, _, _, _, _, _, rfl, h⟩
 ·exact h.elim
theorem fn_rRow9 : FnOk Tryz.prog 159 Tryz.f159 (bodyOf Tryz.f159) := ⟨by kernel_rfl, by kernel_rfl, by kernel_rfl⟩
noncomputable def ff_rRow9 : Fun := ⟨Tryz.f159.ntmps, 0, Tryz.f159.results.toList, fun _ => none, fun _ => false, fun _ => []⟩
theorem nf_rRow9 (A : KA Kd) (k : List PV -> Heap Kd -> Prop) (s : ByteArray) (a sec f1 f2 f3 : Int) : evT V1 ff_rRow9 A k 400 false [.code (bodyOf Tryz.f159)] (startEnv 28 [.agg [.str s, .int .i64 a, .int .i64 sec, .int .i64 f1, .int .i64 f2, .int .i64 f3]]) [] = (s.size < 4611686018427387904 /\ ((0 <= nAt s a 1 (f1, f2, f3) /\ nAt s a 1 (f1, f2, f3) <= (↑s.size : Int) /\ s.size < 4611686018427387904) /\ GoodF (nF s a 1 sec (f1, f2, f3))) /\ ((0 <= (tk s sec 0 (nAt s a 1 (f1, f2, f3), toE (nF s a 1 sec (f1, f2, f3)))).fst /\ (tk s sec 0 (nAt s a 1 (f1, f2, f3), toE (nF s a 1 sec (f1, f2, f3)))).fst <= (↑s.size : Int) /\ s.size < 4611686018427387904) /\ GoodF (ofE (tk s sec 0 (nAt s a 1 (f1, f2, f3), toE (nF s a 1 sec (f1, f2, f3)))).snd)) /\ k [.agg [.str s, .int .i64 (tk s sec 0 ((tk s sec 0 (nAt s a 1 (f1, f2, f3), toE (nF s a 1 sec (f1, f2, f3)))).fst, toE (ofE (tk s sec 0 (nAt s a 1 (f1, f2, f3), toE (nF s a 1 sec (f1, f2, f3)))).snd))).fst, .int .i64 sec, .int .i64 (ofE (tk s sec 0 ((tk s sec 0 (nAt s a 1 (f1, f2, f3), toE (nF s a 1 sec (f1, f2, f3)))).fst, toE (ofE (tk s sec 0 (nAt s a 1 (f1, f2, f3), toE (nF s a 1 sec (f1, f2, f3)))).snd))).snd).fst, .int .i64 (ofE (tk s sec 0 ((tk s sec 0 (nAt s a 1 (f1, f2, f3), toE (nF s a 1 sec (f1, f2, f3)))).fst, toE (ofE (tk s sec 0 (nAt s a 1 (f1, f2, f3), toE (nF s a 1 sec (f1, f2, f3)))).snd))).snd).snd.fst, .int .i64 (ofE (tk s sec 0 ((tk s sec 0 (nAt s a 1 (f1, f2, f3), toE (nF s a 1 sec (f1, f2, f3)))).fst, toE (ofE (tk s sec 0 (nAt s a 1 (f1, f2, f3), toE (nF s a 1 sec (f1, f2, f3)))).snd))).snd).snd.snd], .agg [.int .i64 (IntKind.i64.wrap (nV s a 1 (f1, f2, f3))), .int .i64 (tkV s sec 0 (nAt s a 1 (f1, f2, f3), toE (nF s a 1 sec (f1, f2, f3)))), .int .i64 (tkV s sec 0 ((tk s sec 0 (nAt s a 1 (f1, f2, f3), toE (nF s a 1 sec (f1, f2, f3)))).fst, toE (ofE (tk s sec 0 (nAt s a 1 (f1, f2, f3), toE (nF s a 1 sec (f1, f2, f3)))).snd)))]] []) := by kernel_rfl
theorem ok_rRow9 : FunS B 159 rRow9S := by
 refine funS_of (N := 28) (f := ff_rRow9) env_V1 mixed fn_rRow9 (by kernel_rfl) (by kernel_rfl) (by kernel_rfl) rRow9S_mono ?_
 intro A k ys hA hF
 obtain ⟨s, a, sec, f1, f2, f3, rfl, ⟨⟨h0, h1, hs⟩, hgf⟩, hk⟩ := rRow9S_inv hF; clear hF
 refine ⟨by kernel_rfl, (hA.nf (nf_rRow9 A k s a sec f1 f2 f3) ?_)⟩
 obtain ⟨e, hg, hf⟩ := hgf.ex
 rw [hf, hg.toE] at hk
 rw [hf]
 have z1 : sizeOk 1 = true := rfl
 rw [hg.nF sec h0 h1 z1, hg.nV h0 h1 z1, hg.nAt h0 h1 z1]
 have hx : hIn s (a, e) := ⟨h0, h1⟩
 have x1 := hx.r1 (n := 1) sec (by omega)
 have g1 : GoodE (r1 s sec 1 (a, e)).2 := hg.rd s a 1 sec
 have x2 := x1.tk sec 0
 have g2 : GoodE (tk s sec 0 (r1 s sec 1 (a, e))).2 := (g1.rd _ _ _ _).need _ _ _ _
 have g1' : GoodE (rdE s a 1 sec e) := g1
 try simp only [F3_eta]
 rw [g1'.toE]
 have p1 : (rdAt s a 1 e, rdE s a 1 sec e) = r1 s sec 1 (a, e) := rfl
 rw [p1]
 rw [g2.toE]
 obtain ⟨v0, v1⟩ := rdV_lt s a 1 e
 have v0 : 0 <= rdV s a (1 : Int) e := v0
 have v1 : rdV s a (1 : Int) e < 256 := v1
 rw [wrap_id _ (by omega) (by omega)]
 exact ⟨hs, ⟨⟨x1.1, x1.2, hs⟩, GoodF.mk g1⟩, ⟨⟨x2.1, x2.2, hs⟩, GoodF.mk g2⟩, hk⟩
noncomputable def V2 := base (fun _ => none) (fun g => match g with | 57 => some rFailS | 122 => some rNumS | 159 => some rRow9S | _ => none) (fun _ => none)
theorem env_V2 : EnvOk V2 := env_of (by
 intro g F h
 split at h
 ·cases h; exact ok_rFail
 ·cases h; exact ok_rNum
 ·cases h; exact ok_rRow9
 ·cases h) (fun g F h => (by cases h)) (fun g F h => (by cases h))
theorem fn_rMany9 : FnOk Tryz.prog 126 Tryz.f126 (bodyOf Tryz.f126) := ⟨by kernel_rfl, by kernel_rfl, by kernel_rfl⟩
noncomputable def ff_rMany9 : Fun := ⟨Tryz.f126.ntmps, 0, Tryz.f126.results.toList, fun i => match i with | 6 => some [6, 8, 9, 10, 11] | _ => none, fun _ => false, fun i => match i with | 11 => [0] | _ => []⟩
theorem nf_rMany9_a (A : KA Kd) (k : List PV -> Heap Kd -> Prop) (s : ByteArray) (a sec f1 f2 f3 n m : Int) : evT V2 ff_rMany9 A k 400 false [.code (bodyOf Tryz.f126)] (startEnv 59 [.agg [.str s, .int .i64 a, .int .i64 sec, .int .i64 f1, .int .i64 f2, .int .i64 f3], .int .i64 n, .int .i64 m]) [] = (s.size < 4611686018427387904 /\ bif (nF s a n sec (f1, f2, f3)).fst == 0 then bif decide (IntKind.i64.wrap (nV s a n (f1, f2, f3)) > m) then k [.agg [.str s, .int .i64 (nAt s a n (f1, f2, f3)), .int .i64 sec, .int .i64 (rFail (nF s a n sec (f1, f2, f3)) sec 8 a).fst, .int .i64 (rFail (nF s a n sec (f1, f2, f3)) sec 8 a).snd.fst, .int .i64 (rFail (nF s a n sec (f1, f2, f3)) sec 8 a).snd.snd], .own 0] [.row 211 []] else ∃ (zs : List (Int × Int × Int)), List.map e__3_int zs = [] /\ A (td Tryz.f126 6) (envAt 59 [(6, .ptr 0 0), (8, .ptr 1 0), (9, .int .u64 (nV s a n (f1, f2, f3))), (10, .own 2), (11, .int .i64 0)]) [.box [.str ⟨#[]⟩, .int .i64 0, .int .i64 0, .int .i64 0, .int .i64 0, .int .i64 0], .box [.str s, .int .i64 (nAt s a n (f1, f2, f3)), .int .i64 sec, .int .i64 (nF s a n sec (f1, f2, f3)).fst, .int .i64 (nF s a n sec (f1, f2, f3)).snd.fst, .int .i64 (nF s a n sec (f1, f2, f3)).snd.snd], .row 211 zs] else ∃ (zs : List (Int × Int × Int)), List.map e__3_int zs = [] /\ A (td Tryz.f126 6) (envAt 59 [(6, .ptr 0 0), (8, .ptr 1 0), (9, .int .u64 (nV s a n (f1, f2, f3))), (10, .own 2), (11, .int .i64 0)]) [.box [.str ⟨#[]⟩, .int .i64 0, .int .i64 0, .int .i64 0, .int .i64 0, .int .i64 0], .box [.str s, .int .i64 (nAt s a n (f1, f2, f3)), .int .i64 sec, .int .i64 (nF s a n sec (f1, f2, f3)).fst, .int .i64 (nF s a n sec (f1, f2, f3)).snd.fst, .int .i64 (nF s a n sec (f1, f2, f3)).snd.snd], .row 211 zs]) := by kernel_rfl
theorem nf_rMany9_b (A : KA Kd) (k : List PV -> Heap Kd -> Prop) (s : ByteArray) (a sec f1 f2 f3 n i : Int) (l : List W3) : evT V2 ff_rMany9 A k 400 true (td Tryz.f126 6) (envAt 59 [(6, .ptr 0 0), (8, .ptr 1 0), (9, .int .u64 n), (10, .own 2), (11, .int .i64 i)]) [.box [.str ⟨#[]⟩, .int .i64 0, .int .i64 0, .int .i64 0, .int .i64 0, .int .i64 0], .box [.str s, .int .i64 a, .int .i64 sec, .int .i64 f1, .int .i64 f2, .int .i64 f3], .row 211 l] = (bif decide (i < IntKind.i64.wrap n) then bif f1 == 0 then ((0 <= a /\ a <= (↑s.size : Int) /\ s.size < 4611686018427387904) /\ GoodF (f1, f2, f3)) /\ ∃ (zs : List (Int × Int × Int)), List.map e__3_int zs = [PV.agg [PV.int IntKind.i64 (rowV s sec (a, toE (f1, f2, f3))).fst, PV.int IntKind.i64 (rowV s sec (a, toE (f1, f2, f3))).snd.fst, PV.int IntKind.i64 (rowV s sec (a, toE (f1, f2, f3))).snd.snd]] /\ (l.length + (zs).length) * (TInfo.mk (TD.array (3 : Nat) (3 : TypeId)) (3 : Nat) (24 : Nat) [PV.int IntKind.i64 0, PV.int IntKind.i64 0, PV.int IntKind.i64 0] true []).bytes <= 140737488355328 /\ A (td Tryz.f126 6) (envAt 59 [(6, .ptr 0 0), (8, .ptr 1 0), (9, .int .u64 n), (10, .own 2), (11, .int .i64 (IntKind.i64.wrap (i + 1)))]) [.box [.str ⟨#[]⟩, .int .i64 0, .int .i64 0, .int .i64 0, .int .i64 0, .int .i64 0], .box [.str s, .int .i64 (rowX s sec (a, toE (f1, f2, f3))).fst, .int .i64 sec, .int .i64 (ofE (rowX s sec (a, toE (f1, f2, f3))).snd).fst, .int .i64 (ofE (rowX s sec (a, toE (f1, f2, f3))).snd).snd.fst, .int .i64 (ofE (rowX s sec (a, toE (f1, f2, f3))).snd).snd.snd], .row 211 (l ++ zs)] else k [.agg [.str s, .int .i64 a, .int .i64 sec, .int .i64 f1, .int .i64 f2, .int .i64 f3], .own 0] [.row 211 l]
else k [PV.agg [PV.str s, PV.int IntKind.i64 a, PV.int IntKind.i64 sec, PV.int IntKind.i64 f1, PV.int IntKind.i64 f2, PV.int IntKind.i64 f3], PV.own (0 : Nat)] [AObj.row (211 : Nat) l]) := by kernel_rfl
def rMany9S : List PV -> Heap Kd -> (List PV -> Heap Kd -> Prop) -> Prop := fun ys L k => match ys, L with
 | [.agg [.str s, .int .i64 a, .int .i64 sec, .int .i64 f1, .int .i64 f2, .int .i64 f3], .int .i64 n, .int .i64 m], [] => (((0 <= a /\ a <= (s.size : Int) /\ s.size < 4611686018427387904) /\ GoodF (f1, f2, f3)) /\ (n = 1 \/ n = 2)) /\ k [.agg [.str s, .int .i64 (manyX s sec n m (a, toE (f1, f2, f3))).1, .int .i64 sec, .int .i64 (ofE (manyX s sec n m (a, toE (f1, f2, f3))).2).1, .int .i64 (ofE (manyX s sec n m (a, toE (f1, f2, f3))).2).2.1, .int .i64 (ofE (manyX s sec n m (a, toE (f1, f2, f3))).2).2.2], .own 0] [.row 211 (manyV s sec n m (a, toE (f1, f2, f3)))]
 | _, _ => False
theorem rMany9S_inv {ys : List PV} {L : Heap Kd} {k : List PV -> Heap Kd -> Prop} (h : rMany9S ys L k) : ∃ (s : ByteArray) (a : Int) (sec : Int) (f1 : Int) (f2 : Int) (f3 : Int) (n : Int) (m : Int), ys = [.agg [.str s, .int .i64 a, .int .i64 sec, .int .i64 f1, .int .i64 f2, .int .i64 f3], .int .i64 n, .int .i64 m] /\ L = [] /\ (((0 <= a /\ a <= (s.size : Int) /\ s.size < 4611686018427387904) /\ GoodF (f1, f2, f3)) /\ (n = 1 \/ n = 2)) /\ k [.agg [.str s, .int .i64 (manyX s sec n m (a, toE (f1, f2, f3))).1, .int .i64 sec, .int .i64 (ofE (manyX s sec n m (a, toE (f1, f2, f3))).2).1, .int .i64 (ofE (manyX s sec n m (a, toE (f1, f2, f3))).2).2.1, .int .i64 (ofE (manyX s sec n m (a, toE (f1, f2, f3))).2).2.2], .own 0] [.row 211 (manyV s sec n m (a, toE (f1, f2, f3)))] := by
 unfold rMany9S at h
 split at h
 ·exact ⟨_, _, _, _, _, _, _, _, rfl, rfl, h⟩
 ·exact h.elim
theorem rMany9_loop (A : KA Kd) (k : List PV -> Heap Kd -> Prop) (hA : Closed V2 ff_rMany9 k A) (s : ByteArray) (hs : s.size < 4611686018427387904) (sec : Int) (N : Nat) (hN : N <= 65536) :
 ∀ (m i : Nat), i + m = N -> ∀ (l : List W3) (x : RS), l.length <= i -> hIn s x -> GoodE x.2 -> k [.agg [.str s, .int .i64 (rowsX s sec m x).1, .int .i64 sec, .int .i64 (ofE (rowsX s sec m x).2).1, .int .i64 (ofE (rowsX s sec m x).2).2.1, .int .i64 (ofE (rowsX s sec m x).2).2.2], .own 0] [.row 211 (addW l (rowsV s sec m x))] ->
  A (td Tryz.f126 6) (envAt 59 [(6, .ptr 0 0), (8, .ptr 1 0), (9, .int .u64 (N : Int)), (10, .own 2), (11, .int .i64 (i : Int))]) [.box [.str ⟨#[]⟩, .int .i64 0, .int .i64 0, .int .i64 0, .int .i64 0, .int .i64 0], .box [.str s, .int .i64 (x).1, .int .i64 sec, .int .i64 (ofE (x).2).1, .int .i64 (ofE (x).2).2.1, .int .i64 (ofE (x).2).2.2], .row 211 l] := by
 intro m
 induction m with
 | zero =>
  intro i hi l x _ _ _ hk
  refine (hA.nf (nf_rMany9_b A k s _ sec _ _ _ _ _ l) ?_)
  rw [wrap_id (N : Int) (by omega) (by omega), ilt_false (by omega), cond_false]
  have e : addW l (rowsV s sec 0 x) = l := List.append_nil l
  rw [e] at hk; exact hk
 | succ m ih =>
  intro i hi l x hl hx hg hk
  refine (hA.nf (nf_rMany9_b A k s _ sec _ _ _ _ _ l) ?_)
  rw [wrap_id (N : Int) (by omega) (by omega), ilt_true (by omega), cond_true]
  unfold rowsX rowsV at hk
  rw [hg.nil_iff]
  cases c : x.2.isNil with
  | false =>
   rw [c] at hk
   have e : addW l [] = l := List.append_nil l
   simp only [cond_false, e] at hk; exact hk
  | true =>
   rw [c] at hk
   simp only [cond_true] at hk
   simp only [F3_eta]
   rw [hg.toE]
   have g1 : GoodE (rowX s sec x).2 := (((hg.rd _ _ _ _).rd _ _ _ _).need _ _ _ _ |>.rd _ _ _ _).need _ _ _ _
   refine ⟨⟨⟨hx.1, hx.2, hs⟩, GoodF.mk hg⟩, [rowV s sec x], rfl, by show (l.length + 1) * 24 <= _; omega, ?_⟩
   rw [wrap_succ (by omega)]
   refine ih (i + 1) (by omega) (l ++ [rowV s sec x]) (rowX s sec x) (by rw [List.length_append, List.length_singleton]; omega) (hx.rowX sec) g1 ?_
   have e : addW (l ++ [rowV s sec x]) (rowsV s sec m (rowX s sec x)) = addW l (rowV s sec x :: rowsV s sec m (rowX s sec x)) := by unfold addW; rw [List.append_assoc]; rfl
   rw [e]; exact hk
theorem ok_rMany9 : FunF B 126 0 rMany9S := by
 refine funF_of (N := 59) (f := ff_rMany9) env_V2 mixed fn_rMany9 (by kernel_rfl) (by kernel_rfl) ?_
 intro A k ys L hA hF
 obtain ⟨s, a, sec, f1, f2, f3, n, m, rfl, rfl, ⟨⟨⟨h0, h1, hs⟩, hgf⟩, hn12⟩, hk⟩ := rMany9S_inv hF; clear hF
 refine ⟨by kernel_rfl, (hA.nf (nf_rMany9_a A k s a sec f1 f2 f3 n m) ?_)⟩
 obtain ⟨e, hg, hf⟩ := hgf.ex
 rw [hf, hg.toE] at hk
 rw [hf]
 have zn : sizeOk n = true := by rcases hn12 with rfl | rfl <;> rfl
 rw [hg.nF sec h0 h1 zn, hg.nV h0 h1 zn, hg.nAt h0 h1 zn]
 try simp only [F3_eta]
 have hg1 : GoodE (rdE s a n sec e) := hg.rd s a n sec
 have hb : 0 <= rdV s a n e /\ rdV s a n e < 65536 := by
  rcases hn12 with rfl | rfl
  ·obtain ⟨v0, v1⟩ := rdV_lt s a 1 e
   have v1 : rdV s a (1 : Int) e < 256 := v1
   exact ⟨v0, by omega⟩
  ·obtain ⟨v0, v1⟩ := rdV_lt s a 2 e
   have v1 : rdV s a (2 : Int) e < 65536 := v1
   exact ⟨v0, v1⟩
 have hv0 : (rdE s a n sec e).isNil = false -> rdV s a n e = 0 := fun h => by
  rw [rdE_nil] at h; unfold rdV; rw [h]; rfl
 have hx0 : hIn s (rdAt s a n e, rdE s a n sec e) := rdAt_le h0 h1 (by rcases hn12 with rfl | rfl <;> decide)
 refine ⟨hs, ?_⟩
 unfold manyX manyV cntX at hk
 simp only at hk
 generalize rdE s a n sec e = e1 at *
 generalize rdV s a n e = v at *
 rw [hg1.nil_iff, wrap_id v (by omega) (by omega)]
 cases c1 : e1.isNil with
 | false =>
  rw [needE_bad c1, c1] at hk
  obtain rfl := hv0 c1
  refine ⟨[], rfl, ?_⟩
  exact rMany9_loop A k hA s hs sec 0 (by decide) 0 0 rfl [] (rdAt s a n e, e1) (Nat.le_refl _) hx0 hg1 hk
 | true =>
  obtain rfl := isNil_eq c1
  cases c2 : decide (v > m) with
  | true =>
   have d2 : decide (v <= m) = false := by simp at c2 ⊢; omega
   have e2 : needE .nil false sec 8 a = failR .nil sec 8 a := rfl
   rw [d2, e2, failR_not .nil sec a (k := 8) rfl] at hk
   rw [<- hg1.ofE_fail sec 8 a]
   exact hk
  | false =>
   have d2 : decide (v <= m) = true := by simp at c2 ⊢; omega
   have e2 : needE .nil true sec 8 a = .nil := rfl
   have e3 : Err.nil.isNil = true := rfl
   rw [d2, e2, e3] at hk
   refine ⟨[], rfl, ?_⟩
   have hv : v = ((v.toNat : Nat) : Int) := by omega
   rw [hv]
   exact rMany9_loop A k hA s hs sec v.toNat (by omega) v.toNat 0 (by omega) [] (rdAt s a n e, .nil) (Nat.le_refl _) hx0 .nil hk
noncomputable def V3 := base (fun g => match g with | 126 => some (lift 0 rMany9S) | _ => none) (fun g => match g with | 57 => some rFailS | 122 => some rNumS | 125 => some rTk9S | _ => none) (fun _ => none)
theorem env_V3 : EnvOk V3 := env_of (by
 intro g F h
 split at h
 ·cases h; exact ok_rFail
 ·cases h; exact ok_rNum
 ·cases h; exact ok_rTk9
 ·cases h) (by
 intro g F h
 split at h
 ·cases h; exact (lift_ok ok_rMany9)
 ·cases h) (fun g F h => (by cases h))
theorem fn_rGet9 : FnOk Tryz.prog 54 Tryz.f54 (bodyOf Tryz.f54) := ⟨by kernel_rfl, by kernel_rfl, by kernel_rfl⟩
noncomputable def ff_rGet9 : Fun := ⟨Tryz.f54.ntmps, 0, Tryz.f54.results.toList, fun i => match i with | 21 => some [1, 2, 4, 6, 8, 10, 11, 14, 16] | 17 => some [1, 2, 4, 6, 8, 10, 11, 13, 14, 15] | 5 => some [1, 2, 4, 6, 7, 8] | _ => none, fun _ => false, fun i => match i with | 28 => [1] | 19 => [3,7,9999] | 23 => [3,7,9999] | _ => []⟩
theorem nf_rGet9_a (A : KA Kd) (k : List PV -> Heap Kd -> Prop) (s : ByteArray) (a sec f1 f2 f3 n : Int) : evT V3 ff_rGet9 A k 400 false [.code (bodyOf Tryz.f54)] (startEnv 138 [.agg [.str s, .int .i64 a, .int .i64 sec, .int .i64 f1, .int .i64 f2, .int .i64 f3], .int .i64 n]) [] = (∃ (zs : List (Int × Int × (List (Int × Int × Int)) × (List (Int × Int × Int)))), List.map e_api_Schedule zs = [] /\ A (td Tryz.f54 5) (envAt 138 [(1, .int .i64 n), (2, .ptr 0 0), (4, .ptr 1 0), (6, .own 2), (7, .int .i64 (-1 : Int)), (8, .int .i64 0)]) [.box [.str s, .int .i64 a, .int .i64 3, .int .i64 f1, .int .i64 f2, .int .i64 f3], .box [.str ⟨#[]⟩, .int .i64 0, .int .i64 0, .int .i64 0, .int .i64 0, .int .i64 0], .row 59 zs]) := by kernel_rfl
theorem nf_rGet9_b (A : KA Kd) (k : List PV -> Heap Kd -> Prop) (s : ByteArray) (a f1 f2 f3 n last i : Int) (l : List Sch) : evT V3 ff_rGet9 A k 400 true (td Tryz.f54 5) (envAt 138 [(1, .int .i64 n), (2, .ptr 0 0), (4, .ptr 1 0), (6, .own 2), (7, .int .i64 last), (8, .int .i64 i)]) [.box [.str s, .int .i64 a, .int .i64 3, .int .i64 f1, .int .i64 f2, .int .i64 f3], .box [.str ⟨#[]⟩, .int .i64 0, .int .i64 0, .int .i64 0, .int .i64 0, .int .i64 0], .row 59 l] = (bif decide (i < n) then bif f1 == 0 then s.size < 4611686018427387904 /\ bif (nF s a 1 3 (f1, f2, f3)).fst == 0 then bif decide (IntKind.i64.wrap (nV s a 1 (f1, f2, f3)) <= last) then ((0 <= nAt s a 1 (f1, f2, f3) /\ nAt s a 1 (f1, f2, f3) <= (↑s.size : Int) /\ s.size < 4611686018427387904) /\ GoodF (rFail (nF s a 1 3 (f1, f2, f3)) 3 9 a)) /\ (((0 <= (tk s 3 1 (nAt s a 1 (f1, f2, f3), toE (rFail (nF s a 1 3 (f1, f2, f3)) 3 9 a))).fst /\ (tk s 3 1 (nAt s a 1 (f1, f2, f3), toE (rFail (nF s a 1 3 (f1, f2, f3)) 3 9 a))).fst <= (↑s.size : Int) /\ s.size < 4611686018427387904) /\ GoodF (ofE (tk s 3 1 (nAt s a 1 (f1, f2, f3), toE (rFail (nF s a 1 3 (f1, f2, f3)) 3 9 a))).snd)) /\ ((2 : Int) = (1 : Int) \/ (2 : Int) = (2 : Int))) /\ (((0 <= (manyX s 3 2 256 ((tk s 3 1 (nAt s a 1 (f1, f2, f3), toE (rFail (nF s a 1 3 (f1, f2, f3)) 3 9 a))).fst, toE (ofE (tk s 3 1 (nAt s a 1 (f1, f2, f3), toE (rFail (nF s a 1 3 (f1, f2, f3)) 3 9 a))).snd))).fst /\ (manyX s 3 2 256 ((tk s 3 1 (nAt s a 1 (f1, f2, f3), toE (rFail (nF s a 1 3 (f1, f2, f3)) 3 9 a))).fst, toE (ofE (tk s 3 1 (nAt s a 1 (f1, f2, f3), toE (rFail (nF s a 1 3 (f1, f2, f3)) 3 9 a))).snd))).fst <= (↑s.size : Int) /\ s.size < 4611686018427387904) /\ GoodF (ofE (manyX s 3 2 256 ((tk s 3 1 (nAt s a 1 (f1, f2, f3), toE (rFail (nF s a 1 3 (f1, f2, f3)) 3 9 a))).fst, toE (ofE (tk s 3 1 (nAt s a 1 (f1, f2, f3), toE (rFail (nF s a 1 3 (f1, f2, f3)) 3 9 a))).snd))).snd)) /\ ((1 : Int) = (1 : Int) \/ (1 : Int) = (2 : Int))) /\ A (td Tryz.f54 17) (envAt 138 [(1, .int .i64 n), (2, .ptr 0 0), (4, .ptr 1 0), (6, .own 2), (8, .int .i64 i), (10, .ptr 3 0), (11, .ptr 4 0), (13, .own 5), (14, .own 6), (15, .int .i64 0)]) [.box [.str s, .int .i64 a, .int .i64 3, .int .i64 f1, .int .i64 f2, .int .i64 f3], .box [.str ⟨#[]⟩, .int .i64 0, .int .i64 0, .int .i64 0, .int .i64 0, .int .i64 0], .row 59 l, .box [.int .i64 (IntKind.i64.wrap (nV s a 1 (f1, f2, f3))), .int .i64 (tkV s 3 1 (nAt s a 1 (f1, f2, f3), toE (rFail (nF s a 1 3 (f1, f2, f3)) 3 9 a))), .own 7, .own 8], .box [.str s, .int .i64 (manyX s 3 1 32 ((manyX s 3 2 256 ((tk s 3 1 (nAt s a 1 (f1, f2, f3), toE (rFail (nF s a 1 3 (f1, f2, f3)) 3 9 a))).fst, toE (ofE (tk s 3 1 (nAt s a 1 (f1, f2, f3), toE (rFail (nF s a 1 3 (f1, f2, f3)) 3 9 a))).snd))).fst, toE (ofE (manyX s 3 2 256 ((tk s 3 1 (nAt s a 1 (f1, f2, f3), toE (rFail (nF s a 1 3 (f1, f2, f3)) 3 9 a))).fst, toE (ofE (tk s 3 1 (nAt s a 1 (f1, f2, f3), toE (rFail (nF s a 1 3 (f1, f2, f3)) 3 9 a))).snd))).snd))).fst, .int .i64 3, .int .i64 (ofE (manyX s 3 1 32 ((manyX s 3 2 256 ((tk s 3 1 (nAt s a 1 (f1, f2, f3), toE (rFail (nF s a 1 3 (f1, f2, f3)) 3 9 a))).fst, toE (ofE (tk s 3 1 (nAt s a 1 (f1, f2, f3), toE (rFail (nF s a 1 3 (f1, f2, f3)) 3 9 a))).snd))).fst, toE (ofE (manyX s 3 2 256 ((tk s 3 1 (nAt s a 1 (f1, f2, f3), toE (rFail (nF s a 1 3 (f1, f2, f3)) 3 9 a))).fst, toE (ofE (tk s 3 1 (nAt s a 1 (f1, f2, f3), toE (rFail (nF s a 1 3 (f1, f2, f3)) 3 9 a))).snd))).snd))).snd).fst, .int .i64 (ofE (manyX s 3 1 32 ((manyX s 3 2 256 ((tk s 3 1 (nAt s a 1 (f1, f2, f3), toE (rFail (nF s a 1 3 (f1, f2, f3)) 3 9 a))).fst, toE (ofE (tk s 3 1 (nAt s a 1 (f1, f2, f3), toE (rFail (nF s a 1 3 (f1, f2, f3)) 3 9 a))).snd))).fst, toE (ofE (manyX s 3 2 256 ((tk s 3 1 (nAt s a 1 (f1, f2, f3), toE (rFail (nF s a 1 3 (f1, f2, f3)) 3 9 a))).fst, toE (ofE (tk s 3 1 (nAt s a 1 (f1, f2, f3), toE (rFail (nF s a 1 3 (f1, f2, f3)) 3 9 a))).snd))).snd))).snd).snd.fst, .int .i64 (ofE (manyX s 3 1 32 ((manyX s 3 2 256 ((tk s 3 1 (nAt s a 1 (f1, f2, f3), toE (rFail (nF s a 1 3 (f1, f2, f3)) 3 9 a))).fst, toE (ofE (tk s 3 1 (nAt s a 1 (f1, f2, f3), toE (rFail (nF s a 1 3 (f1, f2, f3)) 3 9 a))).snd))).fst, toE (ofE (manyX s 3 2 256 ((tk s 3 1 (nAt s a 1 (f1, f2, f3), toE (rFail (nF s a 1 3 (f1, f2, f3)) 3 9 a))).fst, toE (ofE (tk s 3 1 (nAt s a 1 (f1, f2, f3), toE (rFail (nF s a 1 3 (f1, f2, f3)) 3 9 a))).snd))).snd))).snd).snd.snd], .row 211 (Bool.rec ((fun (_ : Unit) => []) ()) ((fun (_ : Unit) => rowsV s (3 : Int) (rdV s ((tk s 3 1 (nAt s a 1 (f1, f2, f3), toE (rFail (nF s a 1 3 (f1, f2, f3)) 3 9 a))).fst, toE (ofE (tk s 3 1 (nAt s a 1 (f1, f2, f3), toE (rFail (nF s a 1 3 (f1, f2, f3)) 3 9 a))).snd)).fst (2 : Int) ((tk s 3 1 (nAt s a 1 (f1, f2, f3), toE (rFail (nF s a 1 3 (f1, f2, f3)) 3 9 a))).fst, toE (ofE (tk s 3 1 (nAt s a 1 (f1, f2, f3), toE (rFail (nF s a 1 3 (f1, f2, f3)) 3 9 a))).snd)).snd).toNat (cntX s 3 2 256 ((tk s 3 1 (nAt s a 1 (f1, f2, f3), toE (rFail (nF s a 1 3 (f1, f2, f3)) 3 9 a))).fst, toE (ofE (tk s 3 1 (nAt s a 1 (f1, f2, f3), toE (rFail (nF s a 1 3 (f1, f2, f3)) 3 9 a))).snd)))) ()) (cntX s 3 2 256 ((tk s 3 1 (nAt s a 1 (f1, f2, f3), toE (rFail (nF s a 1 3 (f1, f2, f3)) 3 9 a))).fst, toE (ofE (tk s 3 1 (nAt s a 1 (f1, f2, f3), toE (rFail (nF s a 1 3 (f1, f2, f3)) 3 9 a))).snd))).snd.isNil), .row 211 (Bool.rec ((fun (_ : Unit) => []) ()) ((fun (_ : Unit) => rowsV s (3 : Int) (rdV s ((manyX s 3 2 256 ((tk s 3 1 (nAt s a 1 (f1, f2, f3), toE (rFail (nF s a 1 3 (f1, f2, f3)) 3 9 a))).fst, toE (ofE (tk s 3 1 (nAt s a 1 (f1, f2, f3), toE (rFail (nF s a 1 3 (f1, f2, f3)) 3 9 a))).snd))).fst, toE (ofE (manyX s 3 2 256 ((tk s 3 1 (nAt s a 1 (f1, f2, f3), toE (rFail (nF s a 1 3 (f1, f2, f3)) 3 9 a))).fst, toE (ofE (tk s 3 1 (nAt s a 1 (f1, f2, f3), toE (rFail (nF s a 1 3 (f1, f2, f3)) 3 9 a))).snd))).snd)).fst (1 : Int) ((manyX s 3 2 256 ((tk s 3 1 (nAt s a 1 (f1, f2, f3), toE (rFail (nF s a 1 3 (f1, f2, f3)) 3 9 a))).fst, toE (ofE (tk s 3 1 (nAt s a 1 (f1, f2, f3), toE (rFail (nF s a 1 3 (f1, f2, f3)) 3 9 a))).snd))).fst, toE (ofE (manyX s 3 2 256 ((tk s 3 1 (nAt s a 1 (f1, f2, f3), toE (rFail (nF s a 1 3 (f1, f2, f3)) 3 9 a))).fst, toE (ofE (tk s 3 1 (nAt s a 1 (f1, f2, f3), toE (rFail (nF s a 1 3 (f1, f2, f3)) 3 9 a))).snd))).snd)).snd).toNat (cntX s 3 1 32 ((manyX s 3 2 256 ((tk s 3 1 (nAt s a 1 (f1, f2, f3), toE (rFail (nF s a 1 3 (f1, f2, f3)) 3 9 a))).fst, toE (ofE (tk s 3 1 (nAt s a 1 (f1, f2, f3), toE (rFail (nF s a 1 3 (f1, f2, f3)) 3 9 a))).snd))).fst, toE (ofE (manyX s 3 2 256 ((tk s 3 1 (nAt s a 1 (f1, f2, f3), toE (rFail (nF s a 1 3 (f1, f2, f3)) 3 9 a))).fst, toE (ofE (tk s 3 1 (nAt s a 1 (f1, f2, f3), toE (rFail (nF s a 1 3 (f1, f2, f3)) 3 9 a))).snd))).snd)))) ()) (cntX s 3 1 32 ((manyX s 3 2 256 ((tk s 3 1 (nAt s a 1 (f1, f2, f3), toE (rFail (nF s a 1 3 (f1, f2, f3)) 3 9 a))).fst, toE (ofE (tk s 3 1 (nAt s a 1 (f1, f2, f3), toE (rFail (nF s a 1 3 (f1, f2, f3)) 3 9 a))).snd))).fst, toE (ofE (manyX s 3 2 256 ((tk s 3 1 (nAt s a 1 (f1, f2, f3), toE (rFail (nF s a 1 3 (f1, f2, f3)) 3 9 a))).fst, toE (ofE (tk s 3 1 (nAt s a 1 (f1, f2, f3), toE (rFail (nF s a 1 3 (f1, f2, f3)) 3 9 a))).snd))).snd))).snd.isNil), .row 157 [], .row 159 []] else ((0 <= nAt s a 1 (f1, f2, f3) /\ nAt s a 1 (f1, f2, f3) <= (↑s.size : Int) /\ s.size < 4611686018427387904) /\ GoodF (nF s a 1 3 (f1, f2, f3))) /\ (((0 <= (tk s 3 1 (nAt s a 1 (f1, f2, f3), toE (nF s a 1 3 (f1, f2, f3)))).fst /\ (tk s 3 1 (nAt s a 1 (f1, f2, f3), toE (nF s a 1 3 (f1, f2, f3)))).fst <= (↑s.size : Int) /\ s.size < 4611686018427387904) /\ GoodF (ofE (tk s 3 1 (nAt s a 1 (f1, f2, f3), toE (nF s a 1 3 (f1, f2, f3)))).snd)) /\ ((2 : Int) = (1 : Int) \/ (2 : Int) = (2 : Int))) /\ (((0 <= (manyX s 3 2 256 ((tk s 3 1 (nAt s a 1 (f1, f2, f3), toE (nF s a 1 3 (f1, f2, f3)))).fst, toE (ofE (tk s 3 1 (nAt s a 1 (f1, f2, f3), toE (nF s a 1 3 (f1, f2, f3)))).snd))).fst /\ (manyX s 3 2 256 ((tk s 3 1 (nAt s a 1 (f1, f2, f3), toE (nF s a 1 3 (f1, f2, f3)))).fst, toE (ofE (tk s 3 1 (nAt s a 1 (f1, f2, f3), toE (nF s a 1 3 (f1, f2, f3)))).snd))).fst <= (↑s.size : Int) /\ s.size < 4611686018427387904) /\ GoodF (ofE (manyX s 3 2 256 ((tk s 3 1 (nAt s a 1 (f1, f2, f3), toE (nF s a 1 3 (f1, f2, f3)))).fst, toE (ofE (tk s 3 1 (nAt s a 1 (f1, f2, f3), toE (nF s a 1 3 (f1, f2, f3)))).snd))).snd)) /\ ((1 : Int) = (1 : Int) \/ (1 : Int) = (2 : Int))) /\ A (td Tryz.f54 17) (envAt 138 [(1, .int .i64 n), (2, .ptr 0 0), (4, .ptr 1 0), (6, .own 2), (8, .int .i64 i), (10, .ptr 3 0), (11, .ptr 4 0), (13, .own 5), (14, .own 6), (15, .int .i64 0)]) [.box [.str s, .int .i64 a, .int .i64 3, .int .i64 f1, .int .i64 f2, .int .i64 f3], .box [.str ⟨#[]⟩, .int .i64 0, .int .i64 0, .int .i64 0, .int .i64 0, .int .i64 0], .row 59 l, .box [.int .i64 (IntKind.i64.wrap (nV s a 1 (f1, f2, f3))), .int .i64 (tkV s 3 1 (nAt s a 1 (f1, f2, f3), toE (nF s a 1 3 (f1, f2, f3)))), .own 7, .own 8], .box [.str s, .int .i64 (manyX s 3 1 32 ((manyX s 3 2 256 ((tk s 3 1 (nAt s a 1 (f1, f2, f3), toE (nF s a 1 3 (f1, f2, f3)))).fst, toE (ofE (tk s 3 1 (nAt s a 1 (f1, f2, f3), toE (nF s a 1 3 (f1, f2, f3)))).snd))).fst, toE (ofE (manyX s 3 2 256 ((tk s 3 1 (nAt s a 1 (f1, f2, f3), toE (nF s a 1 3 (f1, f2, f3)))).fst, toE (ofE (tk s 3 1 (nAt s a 1 (f1, f2, f3), toE (nF s a 1 3 (f1, f2, f3)))).snd))).snd))).fst, .int .i64 3, .int .i64 (ofE (manyX s 3 1 32 ((manyX s 3 2 256 ((tk s 3 1 (nAt s a 1 (f1, f2, f3), toE (nF s a 1 3 (f1, f2, f3)))).fst, toE (ofE (tk s 3 1 (nAt s a 1 (f1, f2, f3), toE (nF s a 1 3 (f1, f2, f3)))).snd))).fst, toE (ofE (manyX s 3 2 256 ((tk s 3 1 (nAt s a 1 (f1, f2, f3), toE (nF s a 1 3 (f1, f2, f3)))).fst, toE (ofE (tk s 3 1 (nAt s a 1 (f1, f2, f3), toE (nF s a 1 3 (f1, f2, f3)))).snd))).snd))).snd).fst, .int .i64 (ofE (manyX s 3 1 32 ((manyX s 3 2 256 ((tk s 3 1 (nAt s a 1 (f1, f2, f3), toE (nF s a 1 3 (f1, f2, f3)))).fst, toE (ofE (tk s 3 1 (nAt s a 1 (f1, f2, f3), toE (nF s a 1 3 (f1, f2, f3)))).snd))).fst, toE (ofE (manyX s 3 2 256 ((tk s 3 1 (nAt s a 1 (f1, f2, f3), toE (nF s a 1 3 (f1, f2, f3)))).fst, toE (ofE (tk s 3 1 (nAt s a 1 (f1, f2, f3), toE (nF s a 1 3 (f1, f2, f3)))).snd))).snd))).snd).snd.fst, .int .i64 (ofE (manyX s 3 1 32 ((manyX s 3 2 256 ((tk s 3 1 (nAt s a 1 (f1, f2, f3), toE (nF s a 1 3 (f1, f2, f3)))).fst, toE (ofE (tk s 3 1 (nAt s a 1 (f1, f2, f3), toE (nF s a 1 3 (f1, f2, f3)))).snd))).fst, toE (ofE (manyX s 3 2 256 ((tk s 3 1 (nAt s a 1 (f1, f2, f3), toE (nF s a 1 3 (f1, f2, f3)))).fst, toE (ofE (tk s 3 1 (nAt s a 1 (f1, f2, f3), toE (nF s a 1 3 (f1, f2, f3)))).snd))).snd))).snd).snd.snd], .row 211 (Bool.rec ((fun (_ : Unit) => []) ()) ((fun (_ : Unit) => rowsV s (3 : Int) (rdV s ((tk s 3 1 (nAt s a 1 (f1, f2, f3), toE (nF s a 1 3 (f1, f2, f3)))).fst, toE (ofE (tk s 3 1 (nAt s a 1 (f1, f2, f3), toE (nF s a 1 3 (f1, f2, f3)))).snd)).fst (2 : Int) ((tk s 3 1 (nAt s a 1 (f1, f2, f3), toE (nF s a 1 3 (f1, f2, f3)))).fst, toE (ofE (tk s 3 1 (nAt s a 1 (f1, f2, f3), toE (nF s a 1 3 (f1, f2, f3)))).snd)).snd).toNat (cntX s 3 2 256 ((tk s 3 1 (nAt s a 1 (f1, f2, f3), toE (nF s a 1 3 (f1, f2, f3)))).fst, toE (ofE (tk s 3 1 (nAt s a 1 (f1, f2, f3), toE (nF s a 1 3 (f1, f2, f3)))).snd)))) ()) (cntX s 3 2 256 ((tk s 3 1 (nAt s a 1 (f1, f2, f3), toE (nF s a 1 3 (f1, f2, f3)))).fst, toE (ofE (tk s 3 1 (nAt s a 1 (f1, f2, f3), toE (nF s a 1 3 (f1, f2, f3)))).snd))).snd.isNil), .row 211 (Bool.rec ((fun (_ : Unit) => []) ()) ((fun (_ : Unit) => rowsV s (3 : Int) (rdV s ((manyX s 3 2 256 ((tk s 3 1 (nAt s a 1 (f1, f2, f3), toE (nF s a 1 3 (f1, f2, f3)))).fst, toE (ofE (tk s 3 1 (nAt s a 1 (f1, f2, f3), toE (nF s a 1 3 (f1, f2, f3)))).snd))).fst, toE (ofE (manyX s 3 2 256 ((tk s 3 1 (nAt s a 1 (f1, f2, f3), toE (nF s a 1 3 (f1, f2, f3)))).fst, toE (ofE (tk s 3 1 (nAt s a 1 (f1, f2, f3), toE (nF s a 1 3 (f1, f2, f3)))).snd))).snd)).fst (1 : Int) ((manyX s 3 2 256 ((tk s 3 1 (nAt s a 1 (f1, f2, f3), toE (nF s a 1 3 (f1, f2, f3)))).fst, toE (ofE (tk s 3 1 (nAt s a 1 (f1, f2, f3), toE (nF s a 1 3 (f1, f2, f3)))).snd))).fst, toE (ofE (manyX s 3 2 256 ((tk s 3 1 (nAt s a 1 (f1, f2, f3), toE (nF s a 1 3 (f1, f2, f3)))).fst, toE (ofE (tk s 3 1 (nAt s a 1 (f1, f2, f3), toE (nF s a 1 3 (f1, f2, f3)))).snd))).snd)).snd).toNat (cntX s 3 1 32 ((manyX s 3 2 256 ((tk s 3 1 (nAt s a 1 (f1, f2, f3), toE (nF s a 1 3 (f1, f2, f3)))).fst, toE (ofE (tk s 3 1 (nAt s a 1 (f1, f2, f3), toE (nF s a 1 3 (f1, f2, f3)))).snd))).fst, toE (ofE (manyX s 3 2 256 ((tk s 3 1 (nAt s a 1 (f1, f2, f3), toE (nF s a 1 3 (f1, f2, f3)))).fst, toE (ofE (tk s 3 1 (nAt s a 1 (f1, f2, f3), toE (nF s a 1 3 (f1, f2, f3)))).snd))).snd)))) ()) (cntX s 3 1 32 ((manyX s 3 2 256 ((tk s 3 1 (nAt s a 1 (f1, f2, f3), toE (nF s a 1 3 (f1, f2, f3)))).fst, toE (ofE (tk s 3 1 (nAt s a 1 (f1, f2, f3), toE (nF s a 1 3 (f1, f2, f3)))).snd))).fst, toE (ofE (manyX s 3 2 256 ((tk s 3 1 (nAt s a 1 (f1, f2, f3), toE (nF s a 1 3 (f1, f2, f3)))).fst, toE (ofE (tk s 3 1 (nAt s a 1 (f1, f2, f3), toE (nF s a 1 3 (f1, f2, f3)))).snd))).snd))).snd.isNil), .row 157 [], .row 159 []] else ((0 <= nAt s a 1 (f1, f2, f3) /\ nAt s a 1 (f1, f2, f3) <= (↑s.size : Int) /\ s.size < 4611686018427387904) /\ GoodF (nF s a 1 3 (f1, f2, f3))) /\ (((0 <= (tk s 3 1 (nAt s a 1 (f1, f2, f3), toE (nF s a 1 3 (f1, f2, f3)))).fst /\ (tk s 3 1 (nAt s a 1 (f1, f2, f3), toE (nF s a 1 3 (f1, f2, f3)))).fst <= (↑s.size : Int) /\ s.size < 4611686018427387904) /\ GoodF (ofE (tk s 3 1 (nAt s a 1 (f1, f2, f3), toE (nF s a 1 3 (f1, f2, f3)))).snd)) /\ ((2 : Int) = (1 : Int) \/ (2 : Int) = (2 : Int))) /\ (((0 <= (manyX s 3 2 256 ((tk s 3 1 (nAt s a 1 (f1, f2, f3), toE (nF s a 1 3 (f1, f2, f3)))).fst, toE (ofE (tk s 3 1 (nAt s a 1 (f1, f2, f3), toE (nF s a 1 3 (f1, f2, f3)))).snd))).fst /\ (manyX s 3 2 256 ((tk s 3 1 (nAt s a 1 (f1, f2, f3), toE (nF s a 1 3 (f1, f2, f3)))).fst, toE (ofE (tk s 3 1 (nAt s a 1 (f1, f2, f3), toE (nF s a 1 3 (f1, f2, f3)))).snd))).fst <= (↑s.size : Int) /\ s.size < 4611686018427387904) /\ GoodF (ofE (manyX s 3 2 256 ((tk s 3 1 (nAt s a 1 (f1, f2, f3), toE (nF s a 1 3 (f1, f2, f3)))).fst, toE (ofE (tk s 3 1 (nAt s a 1 (f1, f2, f3), toE (nF s a 1 3 (f1, f2, f3)))).snd))).snd)) /\ ((1 : Int) = (1 : Int) \/ (1 : Int) = (2 : Int))) /\ A (td Tryz.f54 17) (envAt 138 [(1, .int .i64 n), (2, .ptr 0 0), (4, .ptr 1 0), (6, .own 2), (8, .int .i64 i), (10, .ptr 3 0), (11, .ptr 4 0), (13, .own 5), (14, .own 6), (15, .int .i64 0)]) [.box [.str s, .int .i64 a, .int .i64 3, .int .i64 f1, .int .i64 f2, .int .i64 f3], .box [.str ⟨#[]⟩, .int .i64 0, .int .i64 0, .int .i64 0, .int .i64 0, .int .i64 0], .row 59 l, .box [.int .i64 (IntKind.i64.wrap (nV s a 1 (f1, f2, f3))), .int .i64 (tkV s 3 1 (nAt s a 1 (f1, f2, f3), toE (nF s a 1 3 (f1, f2, f3)))), .own 7, .own 8], .box [.str s, .int .i64 (manyX s 3 1 32 ((manyX s 3 2 256 ((tk s 3 1 (nAt s a 1 (f1, f2, f3), toE (nF s a 1 3 (f1, f2, f3)))).fst, toE (ofE (tk s 3 1 (nAt s a 1 (f1, f2, f3), toE (nF s a 1 3 (f1, f2, f3)))).snd))).fst, toE (ofE (manyX s 3 2 256 ((tk s 3 1 (nAt s a 1 (f1, f2, f3), toE (nF s a 1 3 (f1, f2, f3)))).fst, toE (ofE (tk s 3 1 (nAt s a 1 (f1, f2, f3), toE (nF s a 1 3 (f1, f2, f3)))).snd))).snd))).fst, .int .i64 3, .int .i64 (ofE (manyX s 3 1 32 ((manyX s 3 2 256 ((tk s 3 1 (nAt s a 1 (f1, f2, f3), toE (nF s a 1 3 (f1, f2, f3)))).fst, toE (ofE (tk s 3 1 (nAt s a 1 (f1, f2, f3), toE (nF s a 1 3 (f1, f2, f3)))).snd))).fst, toE (ofE (manyX s 3 2 256 ((tk s 3 1 (nAt s a 1 (f1, f2, f3), toE (nF s a 1 3 (f1, f2, f3)))).fst, toE (ofE (tk s 3 1 (nAt s a 1 (f1, f2, f3), toE (nF s a 1 3 (f1, f2, f3)))).snd))).snd))).snd).fst, .int .i64 (ofE (manyX s 3 1 32 ((manyX s 3 2 256 ((tk s 3 1 (nAt s a 1 (f1, f2, f3), toE (nF s a 1 3 (f1, f2, f3)))).fst, toE (ofE (tk s 3 1 (nAt s a 1 (f1, f2, f3), toE (nF s a 1 3 (f1, f2, f3)))).snd))).fst, toE (ofE (manyX s 3 2 256 ((tk s 3 1 (nAt s a 1 (f1, f2, f3), toE (nF s a 1 3 (f1, f2, f3)))).fst, toE (ofE (tk s 3 1 (nAt s a 1 (f1, f2, f3), toE (nF s a 1 3 (f1, f2, f3)))).snd))).snd))).snd).snd.fst, .int .i64 (ofE (manyX s 3 1 32 ((manyX s 3 2 256 ((tk s 3 1 (nAt s a 1 (f1, f2, f3), toE (nF s a 1 3 (f1, f2, f3)))).fst, toE (ofE (tk s 3 1 (nAt s a 1 (f1, f2, f3), toE (nF s a 1 3 (f1, f2, f3)))).snd))).fst, toE (ofE (manyX s 3 2 256 ((tk s 3 1 (nAt s a 1 (f1, f2, f3), toE (nF s a 1 3 (f1, f2, f3)))).fst, toE (ofE (tk s 3 1 (nAt s a 1 (f1, f2, f3), toE (nF s a 1 3 (f1, f2, f3)))).snd))).snd))).snd).snd.snd], .row 211 (Bool.rec ((fun (_ : Unit) => []) ()) ((fun (_ : Unit) => rowsV s (3 : Int) (rdV s ((tk s 3 1 (nAt s a 1 (f1, f2, f3), toE (nF s a 1 3 (f1, f2, f3)))).fst, toE (ofE (tk s 3 1 (nAt s a 1 (f1, f2, f3), toE (nF s a 1 3 (f1, f2, f3)))).snd)).fst (2 : Int) ((tk s 3 1 (nAt s a 1 (f1, f2, f3), toE (nF s a 1 3 (f1, f2, f3)))).fst, toE (ofE (tk s 3 1 (nAt s a 1 (f1, f2, f3), toE (nF s a 1 3 (f1, f2, f3)))).snd)).snd).toNat (cntX s 3 2 256 ((tk s 3 1 (nAt s a 1 (f1, f2, f3), toE (nF s a 1 3 (f1, f2, f3)))).fst, toE (ofE (tk s 3 1 (nAt s a 1 (f1, f2, f3), toE (nF s a 1 3 (f1, f2, f3)))).snd)))) ()) (cntX s 3 2 256 ((tk s 3 1 (nAt s a 1 (f1, f2, f3), toE (nF s a 1 3 (f1, f2, f3)))).fst, toE (ofE (tk s 3 1 (nAt s a 1 (f1, f2, f3), toE (nF s a 1 3 (f1, f2, f3)))).snd))).snd.isNil), .row 211 (Bool.rec ((fun (_ : Unit) => []) ()) ((fun (_ : Unit) => rowsV s (3 : Int) (rdV s ((manyX s 3 2 256 ((tk s 3 1 (nAt s a 1 (f1, f2, f3), toE (nF s a 1 3 (f1, f2, f3)))).fst, toE (ofE (tk s 3 1 (nAt s a 1 (f1, f2, f3), toE (nF s a 1 3 (f1, f2, f3)))).snd))).fst, toE (ofE (manyX s 3 2 256 ((tk s 3 1 (nAt s a 1 (f1, f2, f3), toE (nF s a 1 3 (f1, f2, f3)))).fst, toE (ofE (tk s 3 1 (nAt s a 1 (f1, f2, f3), toE (nF s a 1 3 (f1, f2, f3)))).snd))).snd)).fst (1 : Int) ((manyX s 3 2 256 ((tk s 3 1 (nAt s a 1 (f1, f2, f3), toE (nF s a 1 3 (f1, f2, f3)))).fst, toE (ofE (tk s 3 1 (nAt s a 1 (f1, f2, f3), toE (nF s a 1 3 (f1, f2, f3)))).snd))).fst, toE (ofE (manyX s 3 2 256 ((tk s 3 1 (nAt s a 1 (f1, f2, f3), toE (nF s a 1 3 (f1, f2, f3)))).fst, toE (ofE (tk s 3 1 (nAt s a 1 (f1, f2, f3), toE (nF s a 1 3 (f1, f2, f3)))).snd))).snd)).snd).toNat (cntX s 3 1 32 ((manyX s 3 2 256 ((tk s 3 1 (nAt s a 1 (f1, f2, f3), toE (nF s a 1 3 (f1, f2, f3)))).fst, toE (ofE (tk s 3 1 (nAt s a 1 (f1, f2, f3), toE (nF s a 1 3 (f1, f2, f3)))).snd))).fst, toE (ofE (manyX s 3 2 256 ((tk s 3 1 (nAt s a 1 (f1, f2, f3), toE (nF s a 1 3 (f1, f2, f3)))).fst, toE (ofE (tk s 3 1 (nAt s a 1 (f1, f2, f3), toE (nF s a 1 3 (f1, f2, f3)))).snd))).snd)))) ()) (cntX s 3 1 32 ((manyX s 3 2 256 ((tk s 3 1 (nAt s a 1 (f1, f2, f3), toE (nF s a 1 3 (f1, f2, f3)))).fst, toE (ofE (tk s 3 1 (nAt s a 1 (f1, f2, f3), toE (nF s a 1 3 (f1, f2, f3)))).snd))).fst, toE (ofE (manyX s 3 2 256 ((tk s 3 1 (nAt s a 1 (f1, f2, f3), toE (nF s a 1 3 (f1, f2, f3)))).fst, toE (ofE (tk s 3 1 (nAt s a 1 (f1, f2, f3), toE (nF s a 1 3 (f1, f2, f3)))).snd))).snd))).snd.isNil), .row 157 [], .row 159 []] else bif f1 != 0 then k [.agg [.str s, .int .i64 a, .int .i64 3, .int .i64 f1, .int .i64 f2, .int .i64 f3], .own 0] [.row 59 []] else k [.agg [.str s, .int .i64 a, .int .i64 3, .int .i64 f1, .int .i64 f2, .int .i64 f3], .own 0] [.row 59 l]
else bif f1 != (0 : Int) then k [PV.agg [PV.str s, PV.int IntKind.i64 a, PV.int IntKind.i64 (3 : Int), PV.int IntKind.i64 f1, PV.int IntKind.i64 f2, PV.int IntKind.i64 f3], PV.own (0 : Nat)] [AObj.row (59 : Nat) []] else k [PV.agg [PV.str s, PV.int IntKind.i64 a, PV.int IntKind.i64 (3 : Int), PV.int IntKind.i64 f1, PV.int IntKind.i64 f2, PV.int IntKind.i64 f3], PV.own (0 : Nat)] [AObj.row (59 : Nat) l]) := by kernel_rfl
theorem nf_rGet9_c (A : KA Kd) (k : List PV -> Heap Kd -> Prop) (s : ByteArray) (a f1 f2 f3 n i j a1 g1 g2 g3 id fr : Int) (l : List Sch) (w m ws ns : List W3) : evT V3 ff_rGet9 A k 400 true (td Tryz.f54 17) (envAt 138 [(1, .int .i64 n), (2, .ptr 0 0), (4, .ptr 1 0), (6, .own 2), (8, .int .i64 i), (10, .ptr 3 0), (11, .ptr 4 0), (13, .own 5), (14, .own 6), (15, .int .i64 j)]) [.box [.str s, .int .i64 a, .int .i64 3, .int .i64 f1, .int .i64 f2, .int .i64 f3], .box [.str ⟨#[]⟩, .int .i64 0, .int .i64 0, .int .i64 0, .int .i64 0, .int .i64 0], .row 59 l, .box [.int .i64 id, .int .i64 fr, .own 7, .own 8], .box [.str s, .int .i64 a1, .int .i64 3, .int .i64 g1, .int .i64 g2, .int .i64 g3], .row 211 w, .row 211 m, .row 157 ws, .row 159 ns] = (bif decide (j < (↑w.length : Int)) then (0 <= j /\ j < (↑w.length : Int)) /\ ((0 : Int) <= (0 : Int) /\ 0 < (↑(3 : Nat) : Int)) /\ ∀ (y : (Int × Int × Int)), w[j.toNat]? = some y -> (0 <= j /\ j < (↑w.length : Int)) /\ ((0 : Int) <= (1 : Int) /\ 1 < (↑(3 : Nat) : Int)) /\ ∀ (y_1 : (Int × Int × Int)), w[j.toNat]? = some y_1 -> (0 <= j /\ j < (↑w.length : Int)) /\ ((0 : Int) <= (2 : Int) /\ 2 < (↑(3 : Nat) : Int)) /\ ∀ (y_2 : (Int × Int × Int)), w[j.toNat]? = some y_2 -> (∃ (zs : List (Int × Int × Int)), List.map e_api_Window zs = [PV.agg [PV.int IntKind.i64 y.fst, PV.int IntKind.i64 y_1.snd.fst, PV.int IntKind.i64 y_2.snd.snd]] /\ (ws.length + (zs).length) * (TInfo.mk (TD.struct [((0 : Nat), (3 : TypeId)), ((1 : Nat), (3 : TypeId)), ((2 : Nat), (3 : TypeId))]) (3 : Nat) (24 : Nat) [PV.int IntKind.i64 0, PV.int IntKind.i64 0, PV.int IntKind.i64 0] true []).bytes <= 140737488355328 /\ A (td Tryz.f54 17) (envAt 138 [(1, .int .i64 n), (2, .ptr 0 0), (4, .ptr 1 0), (6, .own 2), (8, .int .i64 i), (10, .ptr 3 0), (11, .ptr 4 0), (13, .own 5), (14, .own 6), (15, .int .i64 (IntKind.i64.wrap (j + 1)))]) [.box [.str s, .int .i64 a, .int .i64 3, .int .i64 f1, .int .i64 f2, .int .i64 f3], .box [.str ⟨#[]⟩, .int .i64 0, .int .i64 0, .int .i64 0, .int .i64 0, .int .i64 0], .row 59 l, .box [.int .i64 id, .int .i64 fr, .own 7, .own 8], .box [.str s, .int .i64 a1, .int .i64 3, .int .i64 g1, .int .i64 g2, .int .i64 g3], .row 211 w, .row 211 m, .row 157 (ws ++ zs), .row 159 ns]) /\ ∃ (zs : List (Int × Int × Int)), List.map e_api_Window zs = [PV.agg [PV.int IntKind.i64 y.fst, PV.int IntKind.i64 y_1.snd.fst, PV.int IntKind.i64 y_2.snd.snd]] /\ (ws.length + (zs).length) * (TInfo.mk (TD.struct [((0 : Nat), (3 : TypeId)), ((1 : Nat), (3 : TypeId)), ((2 : Nat), (3 : TypeId))]) (3 : Nat) (24 : Nat) [PV.int IntKind.i64 0, PV.int IntKind.i64 0, PV.int IntKind.i64 0] true []).bytes <= 140737488355328 /\ A (td Tryz.f54 17) (envAt 138 [(1, .int .i64 n), (2, .ptr 0 0), (4, .ptr 1 0), (6, .own 2), (8, .int .i64 i), (10, .ptr 3 0), (11, .ptr 4 0), (13, .own 5), (14, .own 6), (15, .int .i64 (IntKind.i64.wrap (j + 1)))]) [.box [.str s, .int .i64 a, .int .i64 3, .int .i64 f1, .int .i64 f2, .int .i64 f3], .box [.str ⟨#[]⟩, .int .i64 0, .int .i64 0, .int .i64 0, .int .i64 0, .int .i64 0], .row 59 l, .box [.int .i64 id, .int .i64 fr, .own 7, .own 8], .box [.str s, .int .i64 a1, .int .i64 3, .int .i64 g1, .int .i64 g2, .int .i64 g3], .row 211 w, .row 211 m, .row 157 (ws ++ zs), .row 159 ns]
else A (td Tryz.f54 (21 : Nat)) (envAt (138 : Nat) [((1 : Nat), PV.int IntKind.i64 n), ((2 : Nat), PV.ptr (0 : Nat) (0 : Nat)), ((4 : Nat), PV.ptr (1 : Nat) (0 : Nat)), ((6 : Nat), PV.own (2 : Nat)), ((8 : Nat), PV.int IntKind.i64 i), ((10 : Nat), PV.ptr (3 : Nat) (0 : Nat)), ((11 : Nat), PV.ptr (4 : Nat) (0 : Nat)), ((14 : Nat), PV.own (5 : Nat)), ((16 : Nat), PV.int IntKind.i64 (0 : Int))]) [AObj.box [PV.str s, PV.int IntKind.i64 a, PV.int IntKind.i64 (3 : Int), PV.int IntKind.i64 f1, PV.int IntKind.i64 f2, PV.int IntKind.i64 f3], AObj.box [PV.str (ByteArray.mk #[]), PV.int IntKind.i64 (0 : Int), PV.int IntKind.i64 (0 : Int), PV.int IntKind.i64 (0 : Int), PV.int IntKind.i64 (0 : Int), PV.int IntKind.i64 (0 : Int)], AObj.row (59 : Nat) l, AObj.box [PV.int IntKind.i64 id, PV.int IntKind.i64 fr, PV.own (6 : Nat), PV.own (7 : Nat)], AObj.box [PV.str s, PV.int IntKind.i64 a1, PV.int IntKind.i64 (3 : Int), PV.int IntKind.i64 g1, PV.int IntKind.i64 g2, PV.int IntKind.i64 g3], AObj.row (211 : Nat) m, AObj.row (157 : Nat) ws, AObj.row (159 : Nat) ns]) := by kernel_rfl
theorem nf_rGet9_d (A : KA Kd) (k : List PV -> Heap Kd -> Prop) (s : ByteArray) (a f1 f2 f3 n i j a1 g1 g2 g3 id fr : Int) (l : List Sch) (m ws ns : List W3) : evT V3 ff_rGet9 A k 400 true (td Tryz.f54 21) (envAt 138 [(1, .int .i64 n), (2, .ptr 0 0), (4, .ptr 1 0), (6, .own 2), (8, .int .i64 i), (10, .ptr 3 0), (11, .ptr 4 0), (14, .own 5), (16, .int .i64 j)]) [.box [.str s, .int .i64 a, .int .i64 3, .int .i64 f1, .int .i64 f2, .int .i64 f3], .box [.str ⟨#[]⟩, .int .i64 0, .int .i64 0, .int .i64 0, .int .i64 0, .int .i64 0], .row 59 l, .box [.int .i64 id, .int .i64 fr, .own 6, .own 7], .box [.str s, .int .i64 a1, .int .i64 3, .int .i64 g1, .int .i64 g2, .int .i64 g3], .row 211 m, .row 157 ws, .row 159 ns] = (bif decide (j < (↑m.length : Int)) then (0 <= j /\ j < (↑m.length : Int)) /\ ((0 : Int) <= (0 : Int) /\ 0 < (↑(3 : Nat) : Int)) /\ ∀ (y : (Int × Int × Int)), m[j.toNat]? = some y -> (0 <= j /\ j < (↑m.length : Int)) /\ ((0 : Int) <= (1 : Int) /\ 1 < (↑(3 : Nat) : Int)) /\ ∀ (y_1 : (Int × Int × Int)), m[j.toNat]? = some y_1 -> (0 <= j /\ j < (↑m.length : Int)) /\ ((0 : Int) <= (2 : Int) /\ 2 < (↑(3 : Nat) : Int)) /\ ∀ (y_2 : (Int × Int × Int)), m[j.toNat]? = some y_2 -> (∃ (zs : List (Int × Int × Int)), List.map e_api_Need zs = [PV.agg [PV.int IntKind.i64 y.fst, PV.int IntKind.i64 y_1.snd.fst, PV.int IntKind.i64 y_2.snd.snd]] /\ (ns.length + (zs).length) * (TInfo.mk (TD.struct [((0 : Nat), (3 : TypeId)), ((1 : Nat), (3 : TypeId)), ((2 : Nat), (3 : TypeId))]) (3 : Nat) (24 : Nat) [PV.int IntKind.i64 0, PV.int IntKind.i64 0, PV.int IntKind.i64 0] true []).bytes <= 140737488355328 /\ A (td Tryz.f54 21) (envAt 138 [(1, .int .i64 n), (2, .ptr 0 0), (4, .ptr 1 0), (6, .own 2), (8, .int .i64 i), (10, .ptr 3 0), (11, .ptr 4 0), (14, .own 5), (16, .int .i64 (IntKind.i64.wrap (j + 1)))]) [.box [.str s, .int .i64 a, .int .i64 3, .int .i64 f1, .int .i64 f2, .int .i64 f3], .box [.str ⟨#[]⟩, .int .i64 0, .int .i64 0, .int .i64 0, .int .i64 0, .int .i64 0], .row 59 l, .box [.int .i64 id, .int .i64 fr, .own 6, .own 7], .box [.str s, .int .i64 a1, .int .i64 3, .int .i64 g1, .int .i64 g2, .int .i64 g3], .row 211 m, .row 157 ws, .row 159 (ns ++ zs)]) /\ ∃ (zs : List (Int × Int × Int)), List.map e_api_Need zs = [PV.agg [PV.int IntKind.i64 y.fst, PV.int IntKind.i64 y_1.snd.fst, PV.int IntKind.i64 y_2.snd.snd]] /\ (ns.length + (zs).length) * (TInfo.mk (TD.struct [((0 : Nat), (3 : TypeId)), ((1 : Nat), (3 : TypeId)), ((2 : Nat), (3 : TypeId))]) (3 : Nat) (24 : Nat) [PV.int IntKind.i64 0, PV.int IntKind.i64 0, PV.int IntKind.i64 0] true []).bytes <= 140737488355328 /\ A (td Tryz.f54 21) (envAt 138 [(1, .int .i64 n), (2, .ptr 0 0), (4, .ptr 1 0), (6, .own 2), (8, .int .i64 i), (10, .ptr 3 0), (11, .ptr 4 0), (14, .own 5), (16, .int .i64 (IntKind.i64.wrap (j + 1)))]) [.box [.str s, .int .i64 a, .int .i64 3, .int .i64 f1, .int .i64 f2, .int .i64 f3], .box [.str ⟨#[]⟩, .int .i64 0, .int .i64 0, .int .i64 0, .int .i64 0, .int .i64 0], .row 59 l, .box [.int .i64 id, .int .i64 fr, .own 6, .own 7], .box [.str s, .int .i64 a1, .int .i64 3, .int .i64 g1, .int .i64 g2, .int .i64 g3], .row 211 m, .row 157 ws, .row 159 (ns ++ zs)]
else ∃ (zs : List (Int × Int × (List (Int × Int × Int)) × (List (Int × Int × Int)))), List.map e_api_Schedule zs = [PV.agg [PV.int IntKind.i64 id, PV.int IntKind.i64 fr, PV.sl (Int × Int × Int) e_api_Window ws, PV.sl (Int × Int × Int) e_api_Need ns]] /\ (l.length + (zs).length) * (TInfo.mk (TD.struct [((0 : Nat), (3 : TypeId)), ((1 : Nat), (3 : TypeId)), ((2 : Nat), (56 : TypeId)), ((3 : Nat), (57 : TypeId))]) (4 : Nat) (64 : Nat) [PV.int IntKind.i64 (0 : Int), PV.int IntKind.i64 (0 : Int), PV.raw nilSlice, PV.raw nilSlice] true [((2 : Nat), (157 : TypeId)), ((3 : Nat), (159 : TypeId))]).bytes <= (140737488355328 : Nat) /\ A (td Tryz.f54 (5 : Nat)) (envAt (138 : Nat) [((1 : Nat), PV.int IntKind.i64 n), ((2 : Nat), PV.ptr (0 : Nat) (0 : Nat)), ((4 : Nat), PV.ptr (1 : Nat) (0 : Nat)), ((6 : Nat), PV.own (2 : Nat)), ((7 : Nat), PV.int IntKind.i64 id), ((8 : Nat), PV.int IntKind.i64 (IntKind.i64.wrap (i + (1 : Int))))]) [AObj.box [PV.str s, PV.int IntKind.i64 a1, PV.int IntKind.i64 (3 : Int), PV.int IntKind.i64 g1, PV.int IntKind.i64 g2, PV.int IntKind.i64 g3], AObj.box [PV.str (ByteArray.mk #[]), PV.int IntKind.i64 (0 : Int), PV.int IntKind.i64 (0 : Int), PV.int IntKind.i64 (0 : Int), PV.int IntKind.i64 (0 : Int), PV.int IntKind.i64 (0 : Int)], AObj.row (59 : Nat) (l ++ zs)]) := by kernel_rfl
theorem rGet9_lc (A : KA Kd) (k : List PV -> Heap Kd -> Prop) (hA : Closed V3 ff_rGet9 k A) (s : ByteArray) (a f1 f2 f3 n i a1 g1 g2 g3 id fr : Int) (l : List Sch) (w m ns : List W3) (hw : w.length <= 70000) :
 ∀ j, j <= w.length -> ∀ ws : List W3, ws.length + (w.length - j) <= 70000 -> (A (td Tryz.f54 21) (envAt 138 [(1, .int .i64 n), (2, .ptr 0 0), (4, .ptr 1 0), (6, .own 2), (8, .int .i64 i), (10, .ptr 3 0), (11, .ptr 4 0), (14, .own 5), (16, .int .i64 0)]) [.box [.str s, .int .i64 a, .int .i64 3, .int .i64 f1, .int .i64 f2, .int .i64 f3], .box [.str ⟨#[]⟩, .int .i64 0, .int .i64 0, .int .i64 0, .int .i64 0, .int .i64 0], .row 59 l, .box [.int .i64 id, .int .i64 fr, .own 6, .own 7], .box [.str s, .int .i64 a1, .int .i64 3, .int .i64 g1, .int .i64 g2, .int .i64 g3], .row 211 m, .row 157 (addW ws (w.drop j)), .row 159 ns]) -> A (td Tryz.f54 17) (envAt 138 [(1, .int .i64 n), (2, .ptr 0 0), (4, .ptr 1 0), (6, .own 2), (8, .int .i64 i), (10, .ptr 3 0), (11, .ptr 4 0), (13, .own 5), (14, .own 6), (15, .int .i64 (j : Int))]) [.box [.str s, .int .i64 a, .int .i64 3, .int .i64 f1, .int .i64 f2, .int .i64 f3], .box [.str ⟨#[]⟩, .int .i64 0, .int .i64 0, .int .i64 0, .int .i64 0, .int .i64 0], .row 59 l, .box [.int .i64 id, .int .i64 fr, .own 7, .own 8], .box [.str s, .int .i64 a1, .int .i64 3, .int .i64 g1, .int .i64 g2, .int .i64 g3], .row 211 w, .row 211 m, .row 157 ws, .row 159 ns] := by
 refine down_loop w _ ?_ ?_
 ·intro ws _ hgo
  refine (hA.nf (nf_rGet9_c A k s a f1 f2 f3 n i _ a1 g1 g2 g3 id fr l w m ws ns) ?_)
  rw [ilt_false (Nat.lt_irrefl _), cond_false]
  rw [List.drop_length] at hgo
  have e : addW ws [] = ws := List.append_nil ws
  rw [e] at hgo
  exact hgo
 ·intro j z hz ih ws hws hgo0
  have hlt := lt_of_get hz
  refine (hA.nf (nf_rGet9_c A k s a f1 f2 f3 n i _ a1 g1 g2 g3 id fr l w m ws ns) ?_)
  rw [ilt_true hlt, cond_true, wrap_succ (by omega)]
  have hgo := ih (ws ++ [z]) (by rw [List.length_append, List.length_singleton]; omega) (by
   have e : addW (ws ++ [z]) (w.drop (j + 1)) = addW ws (w.drop j) := by unfold addW; rw [drop_cons' hz, List.append_assoc]; rfl
   rw [e]; exact hgo0)
  have ix : (0 : Int) <= (j : Int) /\ (j : Int) < (w.length : Int) := ⟨by omega, by omega⟩
  have same : ∀ y, w[(j : Int).toNat]? = some y -> y = z := fun y h => by rw [Int.toNat_natCast, hz] at h; cases h; rfl
  refine ⟨ix, by decide, fun y hy => ⟨ix, by decide, fun y1 h1 => ⟨ix, by decide, fun y2 h2 => ?_⟩⟩⟩
  rw [same y hy, same y1 h1, same y2 h2]
  exact ⟨⟨[z], rfl, by show (ws.length + 1) * 24 <= _; omega, hgo⟩, [z], rfl, by show (ws.length + 1) * 24 <= _; omega, hgo⟩
theorem rGet9_ld (A : KA Kd) (k : List PV -> Heap Kd -> Prop) (hA : Closed V3 ff_rGet9 k A) (s : ByteArray) (a f1 f2 f3 n i a1 g1 g2 g3 id fr : Int) (l : List Sch) (m ws : List W3) (hw : m.length <= 70000) (P : List W3 -> Prop)
 (hend : ∀ ns : List W3, P ns -> A (td Tryz.f54 21) (envAt 138 [(1, .int .i64 n), (2, .ptr 0 0), (4, .ptr 1 0), (6, .own 2), (8, .int .i64 i), (10, .ptr 3 0), (11, .ptr 4 0), (14, .own 5), (16, .int .i64 (m.length : Int))]) [.box [.str s, .int .i64 a, .int .i64 3, .int .i64 f1, .int .i64 f2, .int .i64 f3], .box [.str ⟨#[]⟩, .int .i64 0, .int .i64 0, .int .i64 0, .int .i64 0, .int .i64 0], .row 59 l, .box [.int .i64 id, .int .i64 fr, .own 6, .own 7], .box [.str s, .int .i64 a1, .int .i64 3, .int .i64 g1, .int .i64 g2, .int .i64 g3], .row 211 m, .row 157 ws, .row 159 ns]) :
 ∀ j, j <= m.length -> ∀ ns : List W3, ns.length + (m.length - j) <= 70000 -> P (addW ns (m.drop j)) -> A (td Tryz.f54 21) (envAt 138 [(1, .int .i64 n), (2, .ptr 0 0), (4, .ptr 1 0), (6, .own 2), (8, .int .i64 i), (10, .ptr 3 0), (11, .ptr 4 0), (14, .own 5), (16, .int .i64 (j : Int))]) [.box [.str s, .int .i64 a, .int .i64 3, .int .i64 f1, .int .i64 f2, .int .i64 f3], .box [.str ⟨#[]⟩, .int .i64 0, .int .i64 0, .int .i64 0, .int .i64 0, .int .i64 0], .row 59 l, .box [.int .i64 id, .int .i64 fr, .own 6, .own 7], .box [.str s, .int .i64 a1, .int .i64 3, .int .i64 g1, .int .i64 g2, .int .i64 g3], .row 211 m, .row 157 ws, .row 159 ns] := by
 refine down_loop m _ ?_ ?_
 ·intro ns _ hp
  rw [List.drop_length] at hp
  have e : addW ns [] = ns := List.append_nil ns
  rw [e] at hp
  exact hend ns hp
 ·intro j z hz ih ns hns hp
  have hlt := lt_of_get hz
  refine (hA.nf (nf_rGet9_d A k s a f1 f2 f3 n i _ a1 g1 g2 g3 id fr l m ws ns) ?_)
  rw [ilt_true hlt, cond_true, wrap_succ (by omega)]
  have hgo := ih (ns ++ [z]) (by rw [List.length_append, List.length_singleton]; omega) (by
   have e : addW (ns ++ [z]) (m.drop (j + 1)) = addW ns (m.drop j) := by unfold addW; rw [drop_cons' hz, List.append_assoc]; rfl
   rw [e]; exact hp)
  have ix : (0 : Int) <= (j : Int) /\ (j : Int) < (m.length : Int) := ⟨by omega, by omega⟩
  have same : ∀ y, m[(j : Int).toNat]? = some y -> y = z := fun y h => by rw [Int.toNat_natCast, hz] at h; cases h; rfl
  refine ⟨ix, by decide, fun y hy => ⟨ix, by decide, fun y1 h1 => ⟨ix, by decide, fun y2 h2 => ?_⟩⟩⟩
  rw [same y hy, same y1 h1, same y2 h2]
  exact ⟨⟨[z], rfl, by show (ns.length + 1) * 24 <= _; omega, hgo⟩, [z], rfl, by show (ns.length + 1) * 24 <= _; omega, hgo⟩
def rGet9S : List PV -> Heap Kd -> (List PV -> Heap Kd -> Prop) -> Prop := fun ys L k => match ys, L with
 | [.agg [.str s, .int .i64 a, .int .i64 sec, .int .i64 f1, .int .i64 f2, .int .i64 f3], .int .i64 n], [] => (((0 <= a /\ a <= (s.size : Int) /\ s.size < 1099511627776) /\ GoodF (f1, f2, f3)) /\ n <= 9223372036854775807) /\ k [.agg [.str s, .int .i64 (schsX s n.toNat (-1) (a, toE (f1, f2, f3))).1, .int .i64 3, .int .i64 (ofE (schsX s n.toNat (-1) (a, toE (f1, f2, f3))).2).1, .int .i64 (ofE (schsX s n.toNat (-1) (a, toE (f1, f2, f3))).2).2.1, .int .i64 (ofE (schsX s n.toNat (-1) (a, toE (f1, f2, f3))).2).2.2], .own 0] [.row 59 (resS s n.toNat (a, toE (f1, f2, f3)))]
 | _, _ => False
theorem rGet9S_inv {ys : List PV} {L : Heap Kd} {k : List PV -> Heap Kd -> Prop} (h : rGet9S ys L k) : ∃ (s : ByteArray) (a : Int) (sec : Int) (f1 : Int) (f2 : Int) (f3 : Int) (n : Int), ys = [.agg [.str s, .int .i64 a, .int .i64 sec, .int .i64 f1, .int .i64 f2, .int .i64 f3], .int .i64 n] /\ L = [] /\ (((0 <= a /\ a <= (s.size : Int) /\ s.size < 1099511627776) /\ GoodF (f1, f2, f3)) /\ n <= 9223372036854775807) /\ k [.agg [.str s, .int .i64 (schsX s n.toNat (-1) (a, toE (f1, f2, f3))).1, .int .i64 3, .int .i64 (ofE (schsX s n.toNat (-1) (a, toE (f1, f2, f3))).2).1, .int .i64 (ofE (schsX s n.toNat (-1) (a, toE (f1, f2, f3))).2).2.1, .int .i64 (ofE (schsX s n.toNat (-1) (a, toE (f1, f2, f3))).2).2.2], .own 0] [.row 59 (resS s n.toNat (a, toE (f1, f2, f3)))] := by
 unfold rGet9S at h
 split at h
 ·exact ⟨_, _, _, _, _, _, _, rfl, rfl, h⟩
 ·exact h.elim
theorem rGet9_loop (A : KA Kd) (k : List PV -> Heap Kd -> Prop) (hA : Closed V3 ff_rGet9 k A) (s : ByteArray) (hs : s.size < 1099511627776) (n : Int) (hn : n <= 9223372036854775807) :
 ∀ (mm i : Nat), i + mm = n.toNat -> ∀ (l : List Sch) (last : Int) (x : RS), (x.2.isNil = true -> l.length <= i /\ (i : Int) <= x.1) -> hIn s x -> GoodE x.2 -> (∀ r : List Sch, (r = bif (schsX s mm last x).2.isNil then addS l (schsV s mm last x) else []) -> k [.agg [.str s, .int .i64 (schsX s mm last x).1, .int .i64 3, .int .i64 (ofE (schsX s mm last x).2).1, .int .i64 (ofE (schsX s mm last x).2).2.1, .int .i64 (ofE (schsX s mm last x).2).2.2], .own 0] [.row 59 r]) ->
  A (td Tryz.f54 5) (envAt 138 [(1, .int .i64 n), (2, .ptr 0 0), (4, .ptr 1 0), (6, .own 2), (7, .int .i64 last), (8, .int .i64 (i : Int))]) [.box [.str s, .int .i64 (x).1, .int .i64 3, .int .i64 (ofE (x).2).1, .int .i64 (ofE (x).2).2.1, .int .i64 (ofE (x).2).2.2], .box [.str ⟨#[]⟩, .int .i64 0, .int .i64 0, .int .i64 0, .int .i64 0, .int .i64 0], .row 59 l] := by
 intro mm
 have bne : ∀ v : Int, (v != 0) = !(v == 0) := fun _ => rfl
 have hend : ∀ (l m : List Sch) (x : RS), GoodE x.2 -> (m = bif x.2.isNil then l else []) -> k [.agg [.str s, .int .i64 (x).1, .int .i64 3, .int .i64 (ofE (x).2).1, .int .i64 (ofE (x).2).2.1, .int .i64 (ofE (x).2).2.2], .own 0] [.row 59 m] ->
  bif (ofE x.2).1 != 0 then k [.agg [.str s, .int .i64 (x).1, .int .i64 3, .int .i64 (ofE (x).2).1, .int .i64 (ofE (x).2).2.1, .int .i64 (ofE (x).2).2.2], .own 0] [.row 59 ([] : List Sch)] else k [.agg [.str s, .int .i64 (x).1, .int .i64 3, .int .i64 (ofE (x).2).1, .int .i64 (ofE (x).2).2.1, .int .i64 (ofE (x).2).2.2], .own 0] [.row 59 l] := by
  intro l m x hg hm hk
  subst hm
  rw [bne, hg.nil_iff]
  cases c : x.2.isNil with
  | false => rw [c] at hk; exact hk
  | true => rw [c] at hk; exact hk
 induction mm with
 | zero =>
  intro i hi l last x _ _ hg hk
  refine (hA.nf (nf_rGet9_b A k s _ _ _ _ n last _ l) ?_)
  have d : decide ((i : Int) < n) = false := decide_eq_false (by omega)
  rw [d, cond_false]
  refine hend l _ x hg rfl (hk _ ?_)
  have e : addS l (schsV s 0 last x) = l := List.append_nil l
  rw [e]; rfl
 | succ mm ih =>
  intro i hi l last x hl hx hg hk
  refine (hA.nf (nf_rGet9_b A k s _ _ _ _ n last _ l) ?_)
  have d : decide ((i : Int) < n) = true := decide_eq_true (by omega)
  rw [d, cond_true]
  have hz : ∀ {p q : Prop}, (x.2.isNil = true -> p) -> (x.2.isNil = false -> q) -> (bif (ofE x.2).1 == 0 then p else q) := by
   intro p q hp hq
   rw [hg.nil_iff]
   cases c : x.2.isNil with
   | true => exact hp c
   | false => exact hq c
  refine hz (fun c => ?_) (fun c => ?_)
  rotate_left
  ·have e1 : schsX s (mm + 1) last x = x := by unfold schsX; rw [c]; rfl
   have h := hk [] (by rw [e1, c]; rfl)
   rw [e1] at h
   refine hend l [] x hg (by rw [c]; rfl) h
  ·have e1 : schsX s (mm + 1) last x = schsX s mm (schV s last x).1 (schX s last x) := by show (bif x.2.isNil then _ else _) = _; rw [c]; rfl
   have e2 : schsV s (mm + 1) last x = schV s last x :: schsV s mm (schV s last x).1 (schX s last x) := by show (bif x.2.isNil then _ else _) = _; rw [c]; rfl
   rw [e1, e2] at hk
   obtain ⟨l1, l2⟩ := hl c
   have x1 := hx.id last
   have x2 := hx.s1 last
   have x3 := hx.s2 last
   have hs2 : s.size < 4611686018427387904 := by omega
   have hx2 := hx.2
   have hg1 : GoodE (rdE s x.1 1 3 x.2) := hg.rd _ _ _ _
   have gid : GoodE (idX s last x).2 := hg1.need _ _ _ _
   have gs1 : GoodE (s1X s last x).2 := (gid.rd _ _ _ _).need _ _ _ _
   have gmany : ∀ (sec size most : Int) (y : RS), GoodE y.2 -> GoodE (manyX s sec size most y).2 := by
    intro sec size most y gy
    have gc : GoodE (cntX s sec size most y).2 := (gy.rd _ _ _ _).need _ _ _ _
    have gr : ∀ (nn : Nat) (z : RS), GoodE z.2 -> GoodE (rowsX s sec nn z).2 := by
     intro nn
     induction nn with
     | zero => exact fun z gz => gz
     | succ nn ihn =>
      intro z gz
      unfold rowsX
      cases z.2.isNil with
      | false => exact gz
      | true => exact ihn _ ((((gz.rd _ _ _ _).rd _ _ _ _).need _ _ _ _ |>.rd _ _ _ _).need _ _ _ _)
    unfold manyX
    cases (cntX s sec size most y).2.isNil with
    | false => exact gc
    | true => exact gr _ _ gc
   have gs2 : GoodE (s2X s last x).2 := gmany _ _ _ _ gs1
   have gs3 : GoodE (schX s last x).2 := gmany _ _ _ _ gs2
   obtain ⟨v0, v1⟩ := rdV_lt s x.1 1 x.2
   have v0 : 0 <= rdV s x.1 (1 : Int) x.2 := v0
   have v1 : rdV s x.1 (1 : Int) x.2 < 256 := v1
   have z1 : sizeOk 1 = true := rfl
   have lenW : ∀ (size most : Int) (y : RS), (size = 1 \/ size = 2) -> (manyV s 3 size most y).length <= 65536 := by
    intro size most y hsz
    unfold manyV
    cases (cntX s 3 size most y).2.isNil with
    | false => exact Nat.zero_le _
    | true =>
     have h1 := rowsV_len s 3 (rdV s y.1 size y.2).toNat (cntX s 3 size most y)
     have h2 : rdV s y.1 size y.2 < 65536 := by
      rcases hsz with rfl | rfl
      ·have h3 : rdV s y.1 (1 : Int) y.2 < 256 := (rdV_lt s y.1 1 y.2).2
       omega
      ·exact (rdV_lt s y.1 2 y.2).2
     show (rowsV s 3 _ _).length <= 65536
     omega
   have hW := lenW 2 256 (s1X s last x) (.inr rfl)
   have hM := lenW 1 32 (s2X s last x) (.inl rfl)
   have hstep : A (td Tryz.f54 17) (envAt 138 [(1, .int .i64 n), (2, .ptr 0 0), (4, .ptr 1 0), (6, .own 2), (8, .int .i64 (i : Int)), (10, .ptr 3 0), (11, .ptr 4 0), (13, .own 5), (14, .own 6), (15, .int .i64 0)]) [.box [.str s, .int .i64 (x).1, .int .i64 3, .int .i64 (ofE (x).2).1, .int .i64 (ofE (x).2).2.1, .int .i64 (ofE (x).2).2.2], .box [.str ⟨#[]⟩, .int .i64 0, .int .i64 0, .int .i64 0, .int .i64 0, .int .i64 0], .row 59 l, .box [.int .i64 (rdV s x.1 1 x.2), .int .i64 (tkV s 3 1 (idX s last x)), .own 7, .own 8], .box [.str s, .int .i64 (schX s last x).1, .int .i64 3, .int .i64 (ofE (schX s last x).2).1, .int .i64 (ofE (schX s last x).2).2.1, .int .i64 (ofE (schX s last x).2).2.2], .row 211 (manyV s 3 2 256 (s1X s last x)), .row 211 (manyV s 3 1 32 (s2X s last x)), .row 157 ([] : List W3), .row 159 ([] : List W3)] := by
    refine rGet9_lc A k hA s _ _ _ _ n _ _ _ _ _ _ _ l (manyV s 3 2 256 (s1X s last x)) (manyV s 3 1 32 (s2X s last x)) [] (by omega) 0 (Nat.zero_le _) [] (by show 0 + _ <= _; omega) ?_
    refine rGet9_ld A k hA s _ _ _ _ n _ _ _ _ _ _ _ l (manyV s 3 1 32 (s2X s last x)) _ (by omega) (fun ns => ns = manyV s 3 1 32 (s2X s last x)) ?_ 0 (Nat.zero_le _) [] (by show 0 + _ <= _; omega) rfl
    rintro _ rfl
    refine (hA.nf (nf_rGet9_d A k s _ _ _ _ n _ _ _ _ _ _ _ _ l _ _ _) ?_)
    rw [ilt_false (Nat.lt_irrefl _), cond_false]
    refine ⟨[schV s last x], rfl, by show (l.length + 1) * 64 <= _; omega, ?_⟩
    rw [wrap_id _ (by omega) (by omega)]
    refine ih (i + 1) (by omega) (l ++ [schV s last x]) (rdV s x.1 1 x.2) (schX s last x) (fun hc => ?_) (hx.sch last) gs3 ?_
    ·have := schX_adv hc
     rw [List.length_append, List.length_singleton]; omega
    ·intro r hr
     have e : addS (l ++ [schV s last x]) (schsV s mm (schV s last x).1 (schX s last x)) = addS l (schV s last x :: schsV s mm (schV s last x).1 (schX s last x)) := by unfold addS; rw [List.append_assoc]; rfl
     have hr : r = bif (schsX s mm (schV s last x).1 (schX s last x)).2.isNil then addS (l ++ [schV s last x]) (schsV s mm (schV s last x).1 (schX s last x)) else [] := hr
     rw [e] at hr
     exact hk r hr
   have pid : (rdAt s x.1 1 x.2, (idX s last x).2) = idX s last x := rfl
   have q1 : tk s 3 1 (idX s last x) = s1X s last x := rfl
   have q2 : manyX s 3 2 256 (s1X s last x) = s2X s last x := rfl
   have q3 : manyX s 3 1 32 (s2X s last x) = schX s last x := rfl
   have hv0 : (rdE s x.1 1 3 x.2).isNil = false -> rdV s x.1 1 x.2 = 0 := fun h => by
    rw [rdE_nil] at h; unfold rdV; rw [h]; rfl
   refine ⟨hs2, ?_⟩
   try simp only [F3_eta]
   rw [hg.nF 3 hx.1 hx.2 z1, hg.nV hx.1 hx.2 z1, hg.nAt hx.1 hx.2 z1]
   rw [hg1.nil_iff]
   have hidX : (idX s last x).2 = needE (rdE s x.1 1 3 x.2) (decide (rdV s x.1 1 x.2 > last)) 3 9 x.1 := rfl
   cases c1 : (rdE s x.1 1 3 x.2).isNil with
   | false =>
    have hFE : ofE (rdE s x.1 1 3 x.2) = ofE (idX s last x).2 := by rw [hidX, needE_bad c1]
    try simp only [F3_eta]
    rw [hFE]
    simp only [F3_eta, gid.toE, pid, q1, gs1.toE, q2, gs2.toE, q3]
    refine ⟨⟨⟨x1.1, x1.2, hs2⟩, GoodF.mk gid⟩, ⟨⟨⟨x2.1, x2.2, hs2⟩, GoodF.mk gs1⟩, by first | trivial | decide⟩, ⟨⟨⟨x3.1, x3.2, hs2⟩, GoodF.mk gs2⟩, by first | trivial | decide⟩, ?_⟩
    rw [wrap_id (rdV s x.1 1 x.2) (by omega) (by omega)]
    refine by_nf ?_ hstep
    kernel_rfl
   | true =>
    rw [wrap_id (rdV s x.1 1 x.2) (by omega) (by omega)]
    cases c2 : decide (rdV s x.1 1 x.2 <= last) with
    | true =>
     have d2 : decide (rdV s x.1 1 x.2 > last) = false := by simp at c2 ⊢; omega
     have hFE : rFail (ofE (rdE s x.1 1 3 x.2)) 3 9 x.1 = ofE (idX s last x).2 := by rw [hidX, d2]; exact (hg1.ofE_fail 3 9 x.1).symm
     try simp only [F3_eta]
     rw [hFE]
     simp only [F3_eta, gid.toE, pid, q1, gs1.toE, q2, gs2.toE, q3]
     refine ⟨⟨⟨x1.1, x1.2, hs2⟩, GoodF.mk gid⟩, ⟨⟨⟨x2.1, x2.2, hs2⟩, GoodF.mk gs1⟩, by first | trivial | decide⟩, ⟨⟨⟨x3.1, x3.2, hs2⟩, GoodF.mk gs2⟩, by first | trivial | decide⟩, ?_⟩
     refine by_nf ?_ hstep
     kernel_rfl
    | false =>
     have d2 : decide (rdV s x.1 1 x.2 > last) = true := by simp at c2 ⊢; omega
     have hFE : ofE (rdE s x.1 1 3 x.2) = ofE (idX s last x).2 := by rw [hidX, d2]; rfl
     try simp only [F3_eta]
     rw [hFE]
     simp only [F3_eta, gid.toE, pid, q1, gs1.toE, q2, gs2.toE, q3]
     refine ⟨⟨⟨x1.1, x1.2, hs2⟩, GoodF.mk gid⟩, ⟨⟨⟨x2.1, x2.2, hs2⟩, GoodF.mk gs1⟩, by first | trivial | decide⟩, ⟨⟨⟨x3.1, x3.2, hs2⟩, GoodF.mk gs2⟩, by first | trivial | decide⟩, ?_⟩
     refine by_nf ?_ hstep
     kernel_rfl
theorem ok_rGet9 : FunF B 54 0 rGet9S := by
 refine funF_of (N := 138) (f := ff_rGet9) env_V3 mixed fn_rGet9 (by kernel_rfl) (by kernel_rfl) ?_
 intro A k ys L hA hF
 obtain ⟨s, a, sec, f1, f2, f3, n, rfl, rfl, ⟨⟨⟨h0, h1, hs⟩, hgf⟩, hn⟩, hk⟩ := rGet9S_inv hF; clear hF
 refine ⟨by kernel_rfl, (hA.nf (nf_rGet9_a A k s a sec f1 f2 f3 n) ?_)⟩
 obtain ⟨e, hg, hf⟩ := hgf.ex
 rw [hf, hg.toE] at hk
 obtain ⟨rfl, rfl, rfl⟩ : f1 = (ofE e).1 /\ f2 = (ofE e).2.1 /\ f3 = (ofE e).2.2 := ⟨congrArg (·.1) hf, congrArg (·.2.1) hf, congrArg (·.2.2) hf⟩
 refine ⟨[], rfl, ?_⟩
 refine rGet9_loop A k hA s hs n hn n.toNat 0 (by omega) [] (-1) (a, e) (fun _ => ⟨Nat.le_refl _, h0⟩) ⟨h0, h1⟩ hg ?_
 rintro r rfl
 exact hk
end Go.Ab.T
