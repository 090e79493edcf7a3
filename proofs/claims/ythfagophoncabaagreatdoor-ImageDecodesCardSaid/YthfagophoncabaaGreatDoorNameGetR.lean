import Derived.Test.YthfagophoncabaaGreatDoorNameGet
import Derived.Test.YthfagophoncabaaGreatDoorRef05
set_option linter.unusedVariables false
set_option linter.unusedSimpArgs false
set_option linter.unusedSectionVars false
namespace Go.Ab.T
open Go Go.Ab Go.Proofs
variable [DMode]
set_option maxRecDepth 100000
set_option maxHeartbeats 4000000
noncomputable def G0R := base (fun _ => none) (fun g => match g with | 143 => some rightS | 57 => some rFailS | 122 => some rNumS | 174 => some rTextS | _ => none) (fun _ => none)
theorem env_G0R : EnvOk G0R := env_of (by
 intro g F h
 split at h
 ·cases h; exact ok_rright
 ·cases h; exact ok_rFail
 ·cases h; exact ok_rNum
 ·cases h; exact ok_rText
 ·cases h) (fun g F h => (by cases h)) (fun g F h => (by cases h))
def rGetNS : SpecS := fun ys Φ => match ys with
 | [.agg [.str s, .int .i64 a, .int .i64 sec, .int .i64 f1, .int .i64 f2, .int .i64 f3]] => ((0 <= a /\ a <= (s.size : Int) /\ s.size < 4611686018427387904) /\ GoodF (f1, f2, f3)) /\ Φ [.agg [.str s, .int .i64 (nmAt s a sec (toE (f1, f2, f3))), .int .i64 sec, .int .i64 (ofE (nmE s a sec (toE (f1, f2, f3)))).1, .int .i64 (ofE (nmE s a sec (toE (f1, f2, f3)))).2.1, .int .i64 (ofE (nmE s a sec (toE (f1, f2, f3)))).2.2], .str (nmT s a sec (toE (f1, f2, f3)))]
 | _ => False
theorem rGetNS_mono : MonoS rGetNS := by
 intro ys Φ Ψ h hF
 unfold rGetNS at hF ⊢
 split at hF
 ·obtain ⟨hp, hk⟩ := hF; exact ⟨hp, h _ hk⟩
 ·exact hF.elim
theorem rGetNS_inv {ys : List PV} {Φ : List PV -> Prop} (h : rGetNS ys Φ) : ∃ (s : ByteArray) (a : Int) (sec : Int) (f1 : Int) (f2 : Int) (f3 : Int), ys = [.agg [.str s, .int .i64 a, .int .i64 sec, .int .i64 f1, .int .i64 f2, .int .i64 f3]] /\ ((0 <= a /\ a <= (s.size : Int) /\ s.size < 4611686018427387904) /\ GoodF (f1, f2, f3)) /\ Φ [.agg [.str s, .int .i64 (nmAt s a sec (toE (f1, f2, f3))), .int .i64 sec, .int .i64 (ofE (nmE s a sec (toE (f1, f2, f3)))).1, .int .i64 (ofE (nmE s a sec (toE (f1, f2, f3)))).2.1, .int .i64 (ofE (nmE s a sec (toE (f1, f2, f3)))).2.2], .str (nmT s a sec (toE (f1, f2, f3)))] := by
 unfold rGetNS at h
 split at h
 ·exact ⟨_, _, _, _, _, _, rfl, h⟩
 ·exact h.elim
theorem fn_rGetN : FnOk Tryz.prog 158 Tryz.f158 (bodyOf Tryz.f158) := ⟨by kernel_rfl, by kernel_rfl, by kernel_rfl⟩
noncomputable def ff_rGetN : Fun := ⟨Tryz.f158.ntmps, 0, Tryz.f158.results.toList, fun _ => none, fun _ => false, fun _ => []⟩
theorem nf_rGetN (A : KA Kd) (k : List PV -> Heap Kd -> Prop) (s : ByteArray) (a sec f1 f2 f3 : Int) : evT G0R ff_rGetN A k 400 false [.code (bodyOf Tryz.f158)] (startEnv 51 [.agg [.str s, .int .i64 a, .int .i64 sec, .int .i64 f1, .int .i64 f2, .int .i64 f3]]) [] = (s.size < 4611686018427387904 /\ bif (nF s a 1 sec (f1, f2, f3)).fst == 0 then bif nV s a 1 (f1, f2, f3) == 0 then k [.agg [.str s, .int .i64 (nAt s a 1 (f1, f2, f3)), .int .i64 sec, .int .i64 (rFail (nF s a 1 sec (f1, f2, f3)) sec 7 a).fst, .int .i64 (rFail (nF s a 1 sec (f1, f2, f3)) sec 7 a).snd.fst, .int .i64 (rFail (nF s a 1 sec (f1, f2, f3)) sec 7 a).snd.snd], .str ⟨#[]⟩] [] else bif decide (nV s a 1 (f1, f2, f3) > 16) then k [.agg [.str s, .int .i64 (nAt s a 1 (f1, f2, f3)), .int .i64 sec, .int .i64 (rFail (nF s a 1 sec (f1, f2, f3)) sec 7 a).fst, .int .i64 (rFail (nF s a 1 sec (f1, f2, f3)) sec 7 a).snd.fst, .int .i64 (rFail (nF s a 1 sec (f1, f2, f3)) sec 7 a).snd.snd], .str ⟨#[]⟩] [] else (0 <= nAt s a 1 (f1, f2, f3) /\ nAt s a 1 (f1, f2, f3) <= (↑s.size : Int) /\ s.size < 4611686018427387904) /\ bif (tF s (nAt s a 1 (f1, f2, f3)) (IntKind.i64.wrap (nV s a 1 (f1, f2, f3))) sec (nF s a 1 sec (f1, f2, f3))).fst == 0 then bif !rightN (tT s (nAt s a 1 (f1, f2, f3)) (IntKind.i64.wrap (nV s a 1 (f1, f2, f3))) (nF s a 1 sec (f1, f2, f3))) then k [.agg [.str s, .int .i64 (tAt s (nAt s a 1 (f1, f2, f3)) (IntKind.i64.wrap (nV s a 1 (f1, f2, f3))) (nF s a 1 sec (f1, f2, f3))), .int .i64 sec, .int .i64 (rFail (tF s (nAt s a 1 (f1, f2, f3)) (IntKind.i64.wrap (nV s a 1 (f1, f2, f3))) sec (nF s a 1 sec (f1, f2, f3))) sec 7 a).fst, .int .i64 (rFail (tF s (nAt s a 1 (f1, f2, f3)) (IntKind.i64.wrap (nV s a 1 (f1, f2, f3))) sec (nF s a 1 sec (f1, f2, f3))) sec 7 a).snd.fst, .int .i64 (rFail (tF s (nAt s a 1 (f1, f2, f3)) (IntKind.i64.wrap (nV s a 1 (f1, f2, f3))) sec (nF s a 1 sec (f1, f2, f3))) sec 7 a).snd.snd], .str ⟨#[]⟩] [] else k [.agg [.str s, .int .i64 (tAt s (nAt s a 1 (f1, f2, f3)) (IntKind.i64.wrap (nV s a 1 (f1, f2, f3))) (nF s a 1 sec (f1, f2, f3))), .int .i64 sec, .int .i64 (tF s (nAt s a 1 (f1, f2, f3)) (IntKind.i64.wrap (nV s a 1 (f1, f2, f3))) sec (nF s a 1 sec (f1, f2, f3))).fst, .int .i64 (tF s (nAt s a 1 (f1, f2, f3)) (IntKind.i64.wrap (nV s a 1 (f1, f2, f3))) sec (nF s a 1 sec (f1, f2, f3))).snd.fst, .int .i64 (tF s (nAt s a 1 (f1, f2, f3)) (IntKind.i64.wrap (nV s a 1 (f1, f2, f3))) sec (nF s a 1 sec (f1, f2, f3))).snd.snd], .str (tT s (nAt s a 1 (f1, f2, f3)) (IntKind.i64.wrap (nV s a 1 (f1, f2, f3))) (nF s a 1 sec (f1, f2, f3)))] [] else k [.agg [.str s, .int .i64 (tAt s (nAt s a 1 (f1, f2, f3)) (IntKind.i64.wrap (nV s a 1 (f1, f2, f3))) (nF s a 1 sec (f1, f2, f3))), .int .i64 sec, .int .i64 (tF s (nAt s a 1 (f1, f2, f3)) (IntKind.i64.wrap (nV s a 1 (f1, f2, f3))) sec (nF s a 1 sec (f1, f2, f3))).fst, .int .i64 (tF s (nAt s a 1 (f1, f2, f3)) (IntKind.i64.wrap (nV s a 1 (f1, f2, f3))) sec (nF s a 1 sec (f1, f2, f3))).snd.fst, .int .i64 (tF s (nAt s a 1 (f1, f2, f3)) (IntKind.i64.wrap (nV s a 1 (f1, f2, f3))) sec (nF s a 1 sec (f1, f2, f3))).snd.snd], .str (tT s (nAt s a 1 (f1, f2, f3)) (IntKind.i64.wrap (nV s a 1 (f1, f2, f3))) (nF s a 1 sec (f1, f2, f3)))] [] else (0 <= nAt s a 1 (f1, f2, f3) /\ nAt s a 1 (f1, f2, f3) <= (↑s.size : Int) /\ s.size < 4611686018427387904) /\ bif (tF s (nAt s a 1 (f1, f2, f3)) (IntKind.i64.wrap (nV s a 1 (f1, f2, f3))) sec (nF s a 1 sec (f1, f2, f3))).fst == 0 then bif !rightN (tT s (nAt s a 1 (f1, f2, f3)) (IntKind.i64.wrap (nV s a 1 (f1, f2, f3))) (nF s a 1 sec (f1, f2, f3))) then k [.agg [.str s, .int .i64 (tAt s (nAt s a 1 (f1, f2, f3)) (IntKind.i64.wrap (nV s a 1 (f1, f2, f3))) (nF s a 1 sec (f1, f2, f3))), .int .i64 sec, .int .i64 (rFail (tF s (nAt s a 1 (f1, f2, f3)) (IntKind.i64.wrap (nV s a 1 (f1, f2, f3))) sec (nF s a 1 sec (f1, f2, f3))) sec 7 a).fst, .int .i64 (rFail (tF s (nAt s a 1 (f1, f2, f3)) (IntKind.i64.wrap (nV s a 1 (f1, f2, f3))) sec (nF s a 1 sec (f1, f2, f3))) sec 7 a).snd.fst, .int .i64 (rFail (tF s (nAt s a 1 (f1, f2, f3)) (IntKind.i64.wrap (nV s a 1 (f1, f2, f3))) sec (nF s a 1 sec (f1, f2, f3))) sec 7 a).snd.snd], .str ⟨#[]⟩] [] else k [.agg [.str s, .int .i64 (tAt s (nAt s a 1 (f1, f2, f3)) (IntKind.i64.wrap (nV s a 1 (f1, f2, f3))) (nF s a 1 sec (f1, f2, f3))), .int .i64 sec, .int .i64 (tF s (nAt s a 1 (f1, f2, f3)) (IntKind.i64.wrap (nV s a 1 (f1, f2, f3))) sec (nF s a 1 sec (f1, f2, f3))).fst, .int .i64 (tF s (nAt s a 1 (f1, f2, f3)) (IntKind.i64.wrap (nV s a 1 (f1, f2, f3))) sec (nF s a 1 sec (f1, f2, f3))).snd.fst, .int .i64 (tF s (nAt s a 1 (f1, f2, f3)) (IntKind.i64.wrap (nV s a 1 (f1, f2, f3))) sec (nF s a 1 sec (f1, f2, f3))).snd.snd], .str (tT s (nAt s a 1 (f1, f2, f3)) (IntKind.i64.wrap (nV s a 1 (f1, f2, f3))) (nF s a 1 sec (f1, f2, f3)))] [] else k [.agg [.str s, .int .i64 (tAt s (nAt s a 1 (f1, f2, f3)) (IntKind.i64.wrap (nV s a 1 (f1, f2, f3))) (nF s a 1 sec (f1, f2, f3))), .int .i64 sec, .int .i64 (tF s (nAt s a 1 (f1, f2, f3)) (IntKind.i64.wrap (nV s a 1 (f1, f2, f3))) sec (nF s a 1 sec (f1, f2, f3))).fst, .int .i64 (tF s (nAt s a 1 (f1, f2, f3)) (IntKind.i64.wrap (nV s a 1 (f1, f2, f3))) sec (nF s a 1 sec (f1, f2, f3))).snd.fst, .int .i64 (tF s (nAt s a 1 (f1, f2, f3)) (IntKind.i64.wrap (nV s a 1 (f1, f2, f3))) sec (nF s a 1 sec (f1, f2, f3))).snd.snd], .str (tT s (nAt s a 1 (f1, f2, f3)) (IntKind.i64.wrap (nV s a 1 (f1, f2, f3))) (nF s a 1 sec (f1, f2, f3)))] []) := by kernel_rfl
theorem ok_rGetN : FunS B 158 rGetNS := by
 refine funS_of (N := 51) (f := ff_rGetN) env_G0R mixed fn_rGetN (by kernel_rfl) (by kernel_rfl) (by kernel_rfl) rGetNS_mono ?_
 intro A k ys hA hF
 obtain ⟨s, a, sec, f1, f2, f3, rfl, ⟨⟨h0, h1, h2⟩, hgf⟩, hk⟩ := rGetNS_inv hF; clear hF
 refine ⟨by kernel_rfl, (hA.nf (nf_rGetN A k s a sec f1 f2 f3) ?_)⟩
 obtain ⟨e, hg, hf⟩ := hgf.ex
 rw [hf, hg.toE] at hk
 rw [hf]
 have z1 : sizeOk 1 = true := rfl
 rw [hg.nV h0 h1 z1, hg.nAt h0 h1 z1, hg.nF sec h0 h1 z1]
 try simp only [F3_eta]
 obtain ⟨q0, q1⟩ := rdAt_le (e := e) (n := 1) h0 h1 (by omega)
 obtain ⟨v0, v1⟩ := rdV_lt s a 1 e
 have hv : rdE s a 1 sec e = rdE s a 1 sec e := rfl
 have hg1 : GoodE (rdE s a 1 sec e) := hg.rd s a 1 sec
 have hn := rdE_nil s a 1 sec e
 have hb : (rdE s a 1 sec e).isNil = false -> rdV s a 1 e = 0 := fun h => by
  rw [hn] at h; unfold rdV; rw [h]; rfl
 unfold nmT nmAt at hk
 have hE : nmE s a sec e = bif (nmK s a sec e).isNil then needE (rdE s (rdAt s a 1 e) (max (rdV s a 1 e) 0) sec (nmK s a sec e)) (rightN (rdT s (rdAt s a 1 e) (max (rdV s a 1 e) 0) (nmK s a sec e))) sec 7 a else nmK s a sec e := rfl
 rw [hE] at hk
 clear hE
 have hK : nmK s a sec e = needE (rdE s a 1 sec e) (decide (rdV s a 1 e >= 1) && decide (rdV s a 1 e <= 16)) sec 7 a := rfl
 rw [hK] at hk
 clear hK
 generalize rdE s a 1 sec e = e1 at *
 generalize rdAt s a 1 e = a1 at *
 have v1 : rdV s a 1 e < 256 := v1
 generalize rdV s a 1 e = v at *
 refine ⟨h2, ?_⟩
 rw [hg1.nil_iff]
 cases c1 : e1.isNil with
 | false =>
  obtain rfl : v = 0 := hb c1
  rw [needE_bad c1, c1] at hk
  simp only [cond_false, c1] at hk
  have w0 : IntKind.i64.wrap 0 = 0 := by decide
  have t1 : tF s a1 0 sec (ofE e1) = ofE e1 := rfl
  have t4 : tOk s a1 0 (ofE e1) = false := by unfold tOk; rw [hg1.nil_iff, c1]; rfl
  have t2 : tAt s a1 0 (ofE e1) = a1 := by unfold tAt; rw [t4]; rfl
  have t3 : tT s a1 0 (ofE e1) = ⟨#[]⟩ := by unfold tT; rw [t4]; rfl
  rw [w0, t1, t2, t3, hg1.nil_iff, c1]
  exact ⟨⟨q0, q1, h2⟩, hk⟩
 | true =>
  obtain rfl := isNil_eq c1
  have f0 : rFail (ofE .nil) sec 7 a = ofE (.sec sec (.plc a (.cls 7))) := rfl
  rw [f0]
  cases c2 : v == 0 with
  | true =>
   have : decide (v >= 1) = false := by simp at c2 ⊢; omega
   rw [this] at hk; exact hk
  | false =>
   have d1 : decide (v >= 1) = true := by simp at c2 ⊢; omega
   cases c3 : decide (v > 16) with
   | true =>
    have : decide (v <= 16) = false := by simp at c3 ⊢; omega
    rw [this, Bool.and_false] at hk; exact hk
   | false =>
    have d2 : decide (v <= 16) = true := by simp at c3 ⊢; omega
    have d3 : needE Err.nil (true && true) sec 7 a = .nil := rfl
    have d4 : Err.nil.isNil = true := rfl
    rw [d1, d2, d3, d4] at hk
    simp only [cond_true] at hk
    have hp : 0 < v := by simp at d1; omega
    have hm : max v 0 = v := by omega
    rw [hm] at hk
    have t1 := GoodE.nil.tF (s := s) (a := a1) (n := v) sec q1
    have t2 := GoodE.nil.tAt (s := s) (a := a1) (n := v) q1
    have t3 : tT s a1 v (ofE .nil) = rdT s a1 v .nil := by unfold tT rdT; rw [GoodE.nil.tOk hp]
    rw [hm] at t1 t2
    rw [wrap_id v (by omega) (by omega), t1, t2, t3]
    refine ⟨⟨q0, q1, h2⟩, ?_⟩
    have hg3 : GoodE (rdE s a1 v sec .nil) := GoodE.nil.rd _ _ _ _
    have hn3 := rdE_nil s a1 v sec .nil
    have hb3 : (rdE s a1 v sec .nil).isNil = false -> rdT s a1 v .nil = ⟨#[]⟩ := fun h => by
     rw [hn3] at h; unfold rdT; rw [h]; rfl
    generalize rdE s a1 v sec .nil = e3 at *
    generalize rdT s a1 v .nil = t at *
    rw [hg3.nil_iff]
    cases c4 : e3.isNil with
    | false =>
     rw [needE_bad c4, c4] at hk
     rw [hb3 c4]; exact hk
    | true =>
     obtain rfl := isNil_eq c4
     rw [f0]
     cases c5 : rightN t with
     | false => rw [c5] at hk; exact hk
     | true => rw [c5] at hk; exact hk
end Go.Ab.T
