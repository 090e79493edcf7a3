import Derived.Test.YthfagophoncabaaGreatDoorOctet
import Derived.Test.YthfagophoncabaaGreatDoorAs2
set_option linter.unusedVariables false
set_option linter.unusedSimpArgs false
set_option linter.unusedSectionVars false
namespace Go.Ab.T
open Go Go.Ab Go.Proofs
variable [DMode]
set_option maxRecDepth 100000
set_option maxHeartbeats 4000000
noncomputable def R0 := base (fun _ => none) (fun g => match g with | 111 => some newS | 110 => some atS | 109 => some inS | _ => none) (fun _ => none)
theorem env_R0 : EnvOk R0 := env_of (by
 intro g F h
 split at h
 ·cases h; exact ok_New
 ·cases h; exact ok_At
 ·cases h; exact ok_In
 ·cases h) (fun g F h => (by cases h)) (fun g F h => (by cases h))
def NewS : List PV -> Heap Kd -> (List PV -> Heap Kd -> Prop) -> Prop := fun ys L k => match ys, L with
 | [.str s], [] => k [.ptr 0 0] [.box [.str s, .int .i64 0, .int .i64 0, .err .nil]]
 | _, _ => False
theorem NewS_inv {ys : List PV} {L : Heap Kd} {k : List PV -> Heap Kd -> Prop} (h : NewS ys L k) : ∃ (s : ByteArray), ys = [.str s] /\ L = [] /\ k [.ptr 0 0] [.box [.str s, .int .i64 0, .int .i64 0, .err .nil]] := by
 unfold NewS at h
 split at h
 ·exact ⟨_, rfl, rfl, h⟩
 ·exact h.elim
theorem fn_rNew : FnOk Tryz.prog 34 Tryz.f34 (bodyOf Tryz.f34) := ⟨by kernel_rfl, by kernel_rfl, by kernel_rfl⟩
noncomputable def ff_rNew : Fun := ⟨Tryz.f34.ntmps, 0, Tryz.f34.results.toList, fun _ => none, fun _ => false, fun _ => []⟩
theorem nf_rNew (A : KA Kd) (k : List PV -> Heap Kd -> Prop) (s : ByteArray) : evT R0 ff_rNew A k 400 false [.code (bodyOf Tryz.f34)] (startEnv 6 [.str s]) [] = (k [.ptr 0 0] [.box [.str s, .int .i64 0, .int .i64 0, .err Err.nil]]) := by kernel_rfl
theorem ok_rNew : FunF B 34 0 NewS := by
 refine funF_of (N := 6) (f := ff_rNew) env_R0 mixed fn_rNew (by kernel_rfl) (by kernel_rfl) ?_
 intro A k ys L hA hF
 obtain ⟨s, rfl, rfl, hk⟩ := NewS_inv hF; clear hF
 exact ⟨by kernel_rfl, (hA.nf (nf_rNew A k s) hk)⟩
def EnterS : List PV -> Heap Kd -> (List PV -> Heap Kd -> Prop) -> Prop := fun ys L k => match ys, L with
 | [.ptr 0 0, .int .i64 n], [.box [.str s, .int .i64 a, .int .i64 sec, .err e]] => k [] [.box [.str s, .int .i64 a, .int .i64 n, .err e]]
 | _, _ => False
theorem EnterS_inv {ys : List PV} {L : Heap Kd} {k : List PV -> Heap Kd -> Prop} (h : EnterS ys L k) : ∃ (s : ByteArray) (a : Int) (sec : Int) (n : Int) (e : Err), ys = [.ptr 0 0, .int .i64 n] /\ L = [.box [.str s, .int .i64 a, .int .i64 sec, .err e]] /\ k [] [.box [.str s, .int .i64 a, .int .i64 n, .err e]] := by
 unfold EnterS at h
 split at h
 ·exact ⟨_, _, _, _, _, rfl, rfl, h⟩
 ·exact h.elim
theorem fn_Enter : FnOk Tryz.prog 88 Tryz.f88 (bodyOf Tryz.f88) := ⟨by kernel_rfl, by kernel_rfl, by kernel_rfl⟩
noncomputable def ff_Enter : Fun := ⟨Tryz.f88.ntmps, 1, Tryz.f88.results.toList, fun _ => none, fun _ => false, fun _ => []⟩
theorem nf_Enter (A : KA Kd) (k : List PV -> Heap Kd -> Prop) (s : ByteArray) (a sec n : Int) (e : Err) : evT R0 ff_Enter A k 400 false [.code (bodyOf Tryz.f88)] (startEnv 8 [.ptr 0 0, .int .i64 n]) [.box [.str s, .int .i64 a, .int .i64 sec, .err e]] = (k [] [.box [.str s, .int .i64 a, .int .i64 n, .err e]]) := by kernel_rfl
theorem ok_Enter : FunF B 88 1 EnterS := by
 refine funF_of (N := 8) (f := ff_Enter) env_R0 mixed fn_Enter (by kernel_rfl) (by kernel_rfl) ?_
 intro A k ys L hA hF
 obtain ⟨s, a, sec, n, e, rfl, rfl, hk⟩ := EnterS_inv hF; clear hF
 exact ⟨by kernel_rfl, (hA.nf (nf_Enter A k s a sec n e) hk)⟩
def FailS : List PV -> Heap Kd -> (List PV -> Heap Kd -> Prop) -> Prop := fun ys L k => match ys, L with
 | [.ptr 0 0, .int .i64 c, .int .i64 b], [.box [.str s, .int .i64 a, .int .i64 sec, .err e]] => k [] [.box [.str s, .int .i64 a, .int .i64 sec, .err (failR e sec c b)]]
 | _, _ => False
theorem FailS_inv {ys : List PV} {L : Heap Kd} {k : List PV -> Heap Kd -> Prop} (h : FailS ys L k) : ∃ (s : ByteArray) (a : Int) (sec : Int) (c : Int) (b : Int) (e : Err), ys = [.ptr 0 0, .int .i64 c, .int .i64 b] /\ L = [.box [.str s, .int .i64 a, .int .i64 sec, .err e]] /\ k [] [.box [.str s, .int .i64 a, .int .i64 sec, .err (failR e sec c b)]] := by
 unfold FailS at h
 split at h
 ·exact ⟨_, _, _, _, _, _, rfl, rfl, h⟩
 ·exact h.elim
theorem fn_Fail : FnOk Tryz.prog 145 Tryz.f145 (bodyOf Tryz.f145) := ⟨by kernel_rfl, by kernel_rfl, by kernel_rfl⟩
noncomputable def ff_Fail : Fun := ⟨Tryz.f145.ntmps, 1, Tryz.f145.results.toList, fun _ => none, fun _ => false, fun i => match i with | 1 => [0] | _ => []⟩
theorem nf_Fail (A : KA Kd) (k : List PV -> Heap Kd -> Prop) (s : ByteArray) (a sec c b : Int) (e : Err) : evT R0 ff_Fail A k 400 false [.code (bodyOf Tryz.f145)] (startEnv 23 [.ptr 0 0, .int .i64 c, .int .i64 b]) [.box [.str s, .int .i64 a, .int .i64 sec, .err e]] = (bif e.isNil then k [] [.box [.str s, .int .i64 a, .int .i64 sec, .err (inE sec (atE b (newE c)))]] /\ k [] [.box [.str s, .int .i64 a, .int .i64 sec, .err (inE sec (atE b (newE c)))]] /\ k [] [.box [.str s, .int .i64 a, .int .i64 sec, .err (inE sec (atE b (newE c)))]]
else k [] [AObj.box [PV.str s, PV.int IntKind.i64 a, PV.int IntKind.i64 sec, PV.err e]]) := by kernel_rfl
theorem ok_Fail : FunF B 145 1 FailS := by
 refine funF_of (N := 23) (f := ff_Fail) env_R0 mixed fn_Fail (by kernel_rfl) (by kernel_rfl) ?_
 intro A k ys L hA hF
 obtain ⟨s, a, sec, c, b, e, rfl, rfl, hk⟩ := FailS_inv hF; clear hF
 refine ⟨by kernel_rfl, (hA.nf (nf_Fail A k s a sec c b e) ?_)⟩
 unfold failR at hk
 cases h : e.isNil with
 | true => rw [h] at hk; exact ⟨hk, hk, hk⟩
 | false => rw [h] at hk; exact hk
noncomputable def R1 := base (fun g => match g with | 145 => some (lift 1 FailS) | _ => none) (fun _ => none) (fun _ => none)
theorem env_R1 : EnvOk R1 := env_of (fun g F h => (by cases h)) (by
 intro g F h
 split at h
 ·cases h; exact (lift_ok ok_Fail)
 ·cases h) (fun g F h => (by cases h))
def NeedS : List PV -> Heap Kd -> (List PV -> Heap Kd -> Prop) -> Prop := fun ys L k => match ys, L with
 | [.ptr 0 0, .bool t, .int .i64 c, .int .i64 b], [.box [.str s, .int .i64 a, .int .i64 sec, .err e]] => k [.bool (needE e t sec c b).isNil] [.box [.str s, .int .i64 a, .int .i64 sec, .err (needE e t sec c b)]]
 | _, _ => False
theorem NeedS_inv {ys : List PV} {L : Heap Kd} {k : List PV -> Heap Kd -> Prop} (h : NeedS ys L k) : ∃ (s : ByteArray) (a : Int) (sec : Int) (c : Int) (b : Int) (e : Err) (t : Bool), ys = [.ptr 0 0, .bool t, .int .i64 c, .int .i64 b] /\ L = [.box [.str s, .int .i64 a, .int .i64 sec, .err e]] /\ k [.bool (needE e t sec c b).isNil] [.box [.str s, .int .i64 a, .int .i64 sec, .err (needE e t sec c b)]] := by
 unfold NeedS at h
 split at h
 ·exact ⟨_, _, _, _, _, _, _, rfl, rfl, h⟩
 ·exact h.elim
theorem fn_Need : FnOk Tryz.prog 89 Tryz.f89 (bodyOf Tryz.f89) := ⟨by kernel_rfl, by kernel_rfl, by kernel_rfl⟩
noncomputable def ff_Need : Fun := ⟨Tryz.f89.ntmps, 1, Tryz.f89.results.toList, fun _ => none, fun _ => false, fun _ => []⟩
theorem nf_Need (A : KA Kd) (k : List PV -> Heap Kd -> Prop) (s : ByteArray) (a sec c b : Int) (e : Err) (t : Bool) : evT R1 ff_Need A k 400 false [.code (bodyOf Tryz.f89)] (startEnv 20 [.ptr 0 0, .bool t, .int .i64 c, .int .i64 b]) [.box [.str s, .int .i64 a, .int .i64 sec, .err e]] = (bif !t then k [.bool (failR e sec c b).isNil] [.box [.str s, .int .i64 a, .int .i64 sec, .err (failR e sec c b)]]
else k [PV.bool e.isNil] [AObj.box [PV.str s, PV.int IntKind.i64 a, PV.int IntKind.i64 sec, PV.err e]]) := by kernel_rfl
theorem ok_Need : FunF B 89 1 NeedS := by
 refine funF_of (N := 20) (f := ff_Need) env_R1 mixed fn_Need (by kernel_rfl) (by kernel_rfl) ?_
 intro A k ys L hA hF
 obtain ⟨s, a, sec, c, b, e, t, rfl, rfl, hk⟩ := NeedS_inv hF; clear hF
 refine ⟨by kernel_rfl, (hA.nf (nf_Need A k s a sec c b e t) ?_)⟩
 unfold needE at hk
 cases t with
 | true => exact hk
 | false => exact hk
def ErrS : List PV -> Heap Kd -> (List PV -> Heap Kd -> Prop) -> Prop := fun ys L k => match ys, L with
 | [.ptr 0 0], [.box [.str s, .int .i64 a, .int .i64 sec, .err e]] => k [.err e] [.box [.str s, .int .i64 a, .int .i64 sec, .err e]]
 | _, _ => False
theorem ErrS_inv {ys : List PV} {L : Heap Kd} {k : List PV -> Heap Kd -> Prop} (h : ErrS ys L k) : ∃ (s : ByteArray) (a : Int) (sec : Int) (e : Err), ys = [.ptr 0 0] /\ L = [.box [.str s, .int .i64 a, .int .i64 sec, .err e]] /\ k [.err e] [.box [.str s, .int .i64 a, .int .i64 sec, .err e]] := by
 unfold ErrS at h
 split at h
 ·exact ⟨_, _, _, _, rfl, rfl, h⟩
 ·exact h.elim
theorem fn_rErr : FnOk Tryz.prog 96 Tryz.f96 (bodyOf Tryz.f96) := ⟨by kernel_rfl, by kernel_rfl, by kernel_rfl⟩
noncomputable def ff_rErr : Fun := ⟨Tryz.f96.ntmps, 1, Tryz.f96.results.toList, fun _ => none, fun _ => false, fun _ => []⟩
theorem nf_rErr (A : KA Kd) (k : List PV -> Heap Kd -> Prop) (s : ByteArray) (a sec : Int) (e : Err) : evT R1 ff_rErr A k 400 false [.code (bodyOf Tryz.f96)] (startEnv 7 [.ptr 0 0]) [.box [.str s, .int .i64 a, .int .i64 sec, .err e]] = (k [.err e] [.box [.str s, .int .i64 a, .int .i64 sec, .err e]]) := by kernel_rfl
theorem ok_rErr : FunF B 96 1 ErrS := by
 refine funF_of (N := 7) (f := ff_rErr) env_R1 mixed fn_rErr (by kernel_rfl) (by kernel_rfl) ?_
 intro A k ys L hA hF
 obtain ⟨s, a, sec, e, rfl, rfl, hk⟩ := ErrS_inv hF; clear hF
 exact ⟨by kernel_rfl, (hA.nf (nf_rErr A k s a sec e) hk)⟩
def PlaceS : SpecS := fun ys Φ => match ys with
 | [.el (.agg [.str s, .int .i64 a, .int .i64 sec, .err e]) 0] => Φ [.int .i64 a]
 | _ => False
theorem PlaceS_mono : MonoS PlaceS := by
 intro ys Φ Ψ h hF
 unfold PlaceS at hF ⊢
 split at hF
 ·exact h _ hF
 ·exact hF.elim
theorem PlaceS_inv {ys : List PV} {Φ : List PV -> Prop} (h : PlaceS ys Φ) : ∃ (s : ByteArray) (a : Int) (sec : Int) (e : Err), ys = [.el (.agg [.str s, .int .i64 a, .int .i64 sec, .err e]) 0] /\ Φ [.int .i64 a] := by
 unfold PlaceS at h
 split at h
 ·exact ⟨_, _, _, _, rfl, h⟩
 ·exact h.elim
theorem fn_Place : FnOk Tryz.prog 43 Tryz.f43 (bodyOf Tryz.f43) := ⟨by kernel_rfl, by kernel_rfl, by kernel_rfl⟩
noncomputable def ff_Place : Fun := ⟨Tryz.f43.ntmps, 0, Tryz.f43.results.toList, fun _ => none, fun _ => false, fun _ => []⟩
theorem nf_Place (A : KA Kd) (k : List PV -> Heap Kd -> Prop) (s : ByteArray) (a sec : Int) (e : Err) : evT R1 ff_Place A k 400 false [.code (bodyOf Tryz.f43)] (startEnv 7 [.el (.agg [.str s, .int .i64 a, .int .i64 sec, .err e]) 0]) [] = (k [.int .i64 a] []) := by kernel_rfl
theorem ok_Place : FunS B 43 PlaceS := by
 refine funS_of (N := 7) (f := ff_Place) env_R1 mixed fn_Place (by kernel_rfl) (by kernel_rfl) (by kernel_rfl) PlaceS_mono ?_
 intro A k ys hA hF
 obtain ⟨s, a, sec, e, rfl, hk⟩ := PlaceS_inv hF; clear hF
 exact ⟨by kernel_rfl, (hA.nf (nf_Place A k s a sec e) hk)⟩
def LeftS : SpecS := fun ys Φ => match ys with
 | [.el (.agg [.str s, .int .i64 a, .int .i64 sec, .err e]) 0] => (0 <= a /\ a <= (s.size : Int) /\ s.size < 4611686018427387904) /\ Φ [.int .i64 ((s.size : Int) - a)]
 | _ => False
theorem LeftS_mono : MonoS LeftS := by
 intro ys Φ Ψ h hF
 unfold LeftS at hF ⊢
 split at hF
 ·obtain ⟨hp, hk⟩ := hF; exact ⟨hp, h _ hk⟩
 ·exact hF.elim
theorem LeftS_inv {ys : List PV} {Φ : List PV -> Prop} (h : LeftS ys Φ) : ∃ (s : ByteArray) (a : Int) (sec : Int) (e : Err), ys = [.el (.agg [.str s, .int .i64 a, .int .i64 sec, .err e]) 0] /\ (0 <= a /\ a <= (s.size : Int) /\ s.size < 4611686018427387904) /\ Φ [.int .i64 ((s.size : Int) - a)] := by
 unfold LeftS at h
 split at h
 ·exact ⟨_, _, _, _, rfl, h⟩
 ·exact h.elim
theorem fn_Left : FnOk Tryz.prog 41 Tryz.f41 (bodyOf Tryz.f41) := ⟨by kernel_rfl, by kernel_rfl, by kernel_rfl⟩
noncomputable def ff_Left : Fun := ⟨Tryz.f41.ntmps, 0, Tryz.f41.results.toList, fun _ => none, fun _ => false, fun _ => []⟩
theorem nf_Left (A : KA Kd) (k : List PV -> Heap Kd -> Prop) (s : ByteArray) (a sec : Int) (e : Err) : evT R1 ff_Left A k 400 false [.code (bodyOf Tryz.f41)] (startEnv 13 [.el (.agg [.str s, .int .i64 a, .int .i64 sec, .err e]) 0]) [] = (k [.int .i64 (IntKind.i64.wrap ((↑s.size : Int) - a))] []) := by kernel_rfl
theorem ok_Left : FunS B 41 LeftS := by
 refine funS_of (N := 13) (f := ff_Left) env_R1 mixed fn_Left (by kernel_rfl) (by kernel_rfl) (by kernel_rfl) LeftS_mono ?_
 intro A k ys hA hF
 obtain ⟨s, a, sec, e, rfl, ⟨h0, h1, h2⟩, hk⟩ := LeftS_inv hF; clear hF
 refine ⟨by kernel_rfl, (hA.nf (nf_Left A k s a sec e) ?_)⟩
 rw [wrap_id _ (by omega) (by omega)]; exact hk
noncomputable def R2 := base (fun g => match g with | 89 => some (lift 1 NeedS) | _ => none) (fun g => match g with | 97 => some getS | 41 => some LeftS | _ => none) (fun _ => none)
theorem env_R2 : EnvOk R2 := env_of (by
 intro g F h
 split at h
 ·cases h; exact ok_Get
 ·cases h; exact ok_Left
 ·cases h) (by
 intro g F h
 split at h
 ·cases h; exact (lift_ok ok_Need)
 ·cases h) (fun g F h => (by cases h))
def numberS : List PV -> Heap Kd -> (List PV -> Heap Kd -> Prop) -> Prop := fun ys L k => match ys, L with
 | [.ptr 0 0, .int .i64 n], [.box [.str s, .int .i64 a, .int .i64 sec, .err e]] => (0 <= a /\ a <= (s.size : Int) /\ s.size < 4611686018427387904 /\ sizeOk n = true) /\ k [.int .u64 (rdV s a n e)] [.box [.str s, .int .i64 (rdAt s a n e), .int .i64 sec, .err (rdE s a n sec e)]]
 | _, _ => False
theorem numberS_inv {ys : List PV} {L : Heap Kd} {k : List PV -> Heap Kd -> Prop} (h : numberS ys L k) : ∃ (s : ByteArray) (a : Int) (sec : Int) (n : Int) (e : Err), ys = [.ptr 0 0, .int .i64 n] /\ L = [.box [.str s, .int .i64 a, .int .i64 sec, .err e]] /\ (0 <= a /\ a <= (s.size : Int) /\ s.size < 4611686018427387904 /\ sizeOk n = true) /\ k [.int .u64 (rdV s a n e)] [.box [.str s, .int .i64 (rdAt s a n e), .int .i64 sec, .err (rdE s a n sec e)]] := by
 unfold numberS at h
 split at h
 ·exact ⟨_, _, _, _, _, rfl, rfl, h⟩
 ·exact h.elim
theorem fn_number : FnOk Tryz.prog 146 Tryz.f146 (bodyOf Tryz.f146) := ⟨by kernel_rfl, by kernel_rfl, by kernel_rfl⟩
noncomputable def ff_number : Fun := ⟨Tryz.f146.ntmps, 1, Tryz.f146.results.toList, fun _ => none, fun _ => false, fun i => match i with | 1 => [0] | _ => []⟩
theorem nf_number (A : KA Kd) (k : List PV -> Heap Kd -> Prop) (s : ByteArray) (a sec n : Int) (e : Err) : evT R2 ff_number A k 400 false [.code (bodyOf Tryz.f146)] (startEnv 40 [.ptr 0 0, .int .i64 n]) [.box [.str s, .int .i64 a, .int .i64 sec, .err e]] = (((0 <= a /\ a <= (↑s.size : Int) /\ s.size < 4611686018427387904) /\ bif !(needE e (decide (n <= (↑s.size : Int) - a)) sec 2 a).isNil then k [.int .u64 0] [.box [.str s, .int .i64 a, .int .i64 sec, .err (needE e (decide (n <= (↑s.size : Int) - a)) sec 2 a)]] else s.size < 4611686018427387904 /\ k [.int .u64 (getV s a n)] [.box [.str s, .int .i64 (IntKind.i64.wrap (a + n)), .int .i64 sec, .err (needE e (decide (n <= (↑s.size : Int) - a)) sec 2 a)]]) /\ (0 <= a /\ a <= (↑s.size : Int) /\ s.size < 4611686018427387904) /\ bif !(needE e (decide (n <= (↑s.size : Int) - a)) sec 2 a).isNil then k [.int .u64 0] [.box [.str s, .int .i64 a, .int .i64 sec, .err (needE e (decide (n <= (↑s.size : Int) - a)) sec 2 a)]] else s.size < 4611686018427387904 /\ k [.int .u64 (getV s a n)] [.box [.str s, .int .i64 (IntKind.i64.wrap (a + n)), .int .i64 sec, .err (needE e (decide (n <= (↑s.size : Int) - a)) sec 2 a)]]) := by kernel_rfl
theorem ok_number : FunF B 146 1 numberS := by
 refine funF_of (N := 40) (f := ff_number) env_R2 mixed fn_number (by kernel_rfl) (by kernel_rfl) ?_
 intro A k ys L hA hF
 obtain ⟨s, a, sec, n, e, rfl, rfl, ⟨h0, h1, h2, hn⟩, hk⟩ := numberS_inv hF; clear hF
 refine ⟨by kernel_rfl, (hA.nf (nf_number A k s a sec n e) ?_)⟩
 have hx := rdE_nil s a n sec e
 unfold rdE at hx hk
 refine and_self_iff.2 ⟨⟨h0, h1, h2⟩, ?_⟩
 rw [hx]
 unfold rdV rdAt at hk
 cases h : rdOk s a n e with
 | false => rw [h] at hk; exact hk
 | true =>
  rw [h] at hk
  have hle : n <= (s.size : Int) - a := by
   simp only [rdOk, Bool.and_eq_true, decide_eq_true_eq] at h; exact h.1
  have hv : getV s a n = (beV s a.toNat n.toNat : Int) := by
   have : getOk s a n = true := by simp [getOk, hn]; omega
   rw [getV, this]; rfl
  have := sizeOk_cases hn
  rw [hv, wrap_id _ (by omega) (by omega)]
  exact ⟨h2, hk⟩
noncomputable def R3 := base (fun g => match g with | 146 => some (lift 1 numberS) | _ => none) (fun _ => none) (fun _ => none)
theorem env_R3 : EnvOk R3 := env_of (fun g F h => (by cases h)) (by
 intro g F h
 split at h
 ·cases h; exact (lift_ok ok_number)
 ·cases h) (fun g F h => (by cases h))
def U8S : List PV -> Heap Kd -> (List PV -> Heap Kd -> Prop) -> Prop := fun ys L k => match ys, L with
 | [.ptr 0 0], [.box [.str s, .int .i64 a, .int .i64 sec, .err e]] => (0 <= a /\ a <= (s.size : Int) /\ s.size < 4611686018427387904) /\ k [.int .i64 (rdV s a 1 e)] [.box [.str s, .int .i64 (rdAt s a 1 e), .int .i64 sec, .err (rdE s a 1 sec e)]]
 | _, _ => False
theorem U8S_inv {ys : List PV} {L : Heap Kd} {k : List PV -> Heap Kd -> Prop} (h : U8S ys L k) : ∃ (s : ByteArray) (a : Int) (sec : Int) (e : Err), ys = [.ptr 0 0] /\ L = [.box [.str s, .int .i64 a, .int .i64 sec, .err e]] /\ (0 <= a /\ a <= (s.size : Int) /\ s.size < 4611686018427387904) /\ k [.int .i64 (rdV s a 1 e)] [.box [.str s, .int .i64 (rdAt s a 1 e), .int .i64 sec, .err (rdE s a 1 sec e)]] := by
 unfold U8S at h
 split at h
 ·exact ⟨_, _, _, _, rfl, rfl, h⟩
 ·exact h.elim
theorem fn_U8 : FnOk Tryz.prog 90 Tryz.f90 (bodyOf Tryz.f90) := ⟨by kernel_rfl, by kernel_rfl, by kernel_rfl⟩
noncomputable def ff_U8 : Fun := ⟨Tryz.f90.ntmps, 1, Tryz.f90.results.toList, fun _ => none, fun _ => false, fun _ => []⟩
theorem nf_U8 (A : KA Kd) (k : List PV -> Heap Kd -> Prop) (s : ByteArray) (a sec : Int) (e : Err) : evT R3 ff_U8 A k 400 false [.code (bodyOf Tryz.f90)] (startEnv 6 [.ptr 0 0]) [.box [.str s, .int .i64 a, .int .i64 sec, .err e]] = ((0 <= a /\ a <= (↑s.size : Int) /\ s.size < 4611686018427387904 /\ sizeOk 1 = true) /\ k [.int .i64 (IntKind.i64.wrap (rdV s a 1 e))] [.box [.str s, .int .i64 (rdAt s a 1 e), .int .i64 sec, .err (rdE s a 1 sec e)]]) := by kernel_rfl
theorem ok_U8 : FunF B 90 1 U8S := by
 refine funF_of (N := 6) (f := ff_U8) env_R3 mixed fn_U8 (by kernel_rfl) (by kernel_rfl) ?_
 intro A k ys L hA hF
 obtain ⟨s, a, sec, e, rfl, rfl, ⟨h0, h1, h2⟩, hk⟩ := U8S_inv hF; clear hF
 refine ⟨by kernel_rfl, (hA.nf (nf_U8 A k s a sec e) ⟨⟨h0, h1, h2, rfl⟩, ?_⟩)⟩
 have hb := rdV_lt s a 1 e; have h256 : (256 ^ 1 : Nat) = 256 := by decide
 simp only [Int.cast_ofNat_Int, h256] at hb
 rw [wrap_id _ (by omega) (by omega)]; exact hk
def U16S : List PV -> Heap Kd -> (List PV -> Heap Kd -> Prop) -> Prop := fun ys L k => match ys, L with
 | [.ptr 0 0], [.box [.str s, .int .i64 a, .int .i64 sec, .err e]] => (0 <= a /\ a <= (s.size : Int) /\ s.size < 4611686018427387904) /\ k [.int .i64 (rdV s a 2 e)] [.box [.str s, .int .i64 (rdAt s a 2 e), .int .i64 sec, .err (rdE s a 2 sec e)]]
 | _, _ => False
theorem U16S_inv {ys : List PV} {L : Heap Kd} {k : List PV -> Heap Kd -> Prop} (h : U16S ys L k) : ∃ (s : ByteArray) (a : Int) (sec : Int) (e : Err), ys = [.ptr 0 0] /\ L = [.box [.str s, .int .i64 a, .int .i64 sec, .err e]] /\ (0 <= a /\ a <= (s.size : Int) /\ s.size < 4611686018427387904) /\ k [.int .i64 (rdV s a 2 e)] [.box [.str s, .int .i64 (rdAt s a 2 e), .int .i64 sec, .err (rdE s a 2 sec e)]] := by
 unfold U16S at h
 split at h
 ·exact ⟨_, _, _, _, rfl, rfl, h⟩
 ·exact h.elim
theorem fn_U16 : FnOk Tryz.prog 93 Tryz.f93 (bodyOf Tryz.f93) := ⟨by kernel_rfl, by kernel_rfl, by kernel_rfl⟩
noncomputable def ff_U16 : Fun := ⟨Tryz.f93.ntmps, 1, Tryz.f93.results.toList, fun _ => none, fun _ => false, fun _ => []⟩
theorem nf_U16 (A : KA Kd) (k : List PV -> Heap Kd -> Prop) (s : ByteArray) (a sec : Int) (e : Err) : evT R3 ff_U16 A k 400 false [.code (bodyOf Tryz.f93)] (startEnv 6 [.ptr 0 0]) [.box [.str s, .int .i64 a, .int .i64 sec, .err e]] = ((0 <= a /\ a <= (↑s.size : Int) /\ s.size < 4611686018427387904 /\ sizeOk 2 = true) /\ k [.int .i64 (IntKind.i64.wrap (rdV s a 2 e))] [.box [.str s, .int .i64 (rdAt s a 2 e), .int .i64 sec, .err (rdE s a 2 sec e)]]) := by kernel_rfl
theorem ok_U16 : FunF B 93 1 U16S := by
 refine funF_of (N := 6) (f := ff_U16) env_R3 mixed fn_U16 (by kernel_rfl) (by kernel_rfl) ?_
 intro A k ys L hA hF
 obtain ⟨s, a, sec, e, rfl, rfl, ⟨h0, h1, h2⟩, hk⟩ := U16S_inv hF; clear hF
 refine ⟨by kernel_rfl, (hA.nf (nf_U16 A k s a sec e) ⟨⟨h0, h1, h2, rfl⟩, ?_⟩)⟩
 have hb := rdV_lt s a 2 e; have h256 : (256 ^ 2 : Nat) = 65536 := by decide
 simp only [Int.cast_ofNat_Int, h256] at hb
 rw [wrap_id _ (by omega) (by omega)]; exact hk
def U32S : List PV -> Heap Kd -> (List PV -> Heap Kd -> Prop) -> Prop := fun ys L k => match ys, L with
 | [.ptr 0 0], [.box [.str s, .int .i64 a, .int .i64 sec, .err e]] => (0 <= a /\ a <= (s.size : Int) /\ s.size < 4611686018427387904) /\ k [.int .u32 (rdV s a 4 e)] [.box [.str s, .int .i64 (rdAt s a 4 e), .int .i64 sec, .err (rdE s a 4 sec e)]]
 | _, _ => False
theorem U32S_inv {ys : List PV} {L : Heap Kd} {k : List PV -> Heap Kd -> Prop} (h : U32S ys L k) : ∃ (s : ByteArray) (a : Int) (sec : Int) (e : Err), ys = [.ptr 0 0] /\ L = [.box [.str s, .int .i64 a, .int .i64 sec, .err e]] /\ (0 <= a /\ a <= (s.size : Int) /\ s.size < 4611686018427387904) /\ k [.int .u32 (rdV s a 4 e)] [.box [.str s, .int .i64 (rdAt s a 4 e), .int .i64 sec, .err (rdE s a 4 sec e)]] := by
 unfold U32S at h
 split at h
 ·exact ⟨_, _, _, _, rfl, rfl, h⟩
 ·exact h.elim
theorem fn_U32 : FnOk Tryz.prog 91 Tryz.f91 (bodyOf Tryz.f91) := ⟨by kernel_rfl, by kernel_rfl, by kernel_rfl⟩
noncomputable def ff_U32 : Fun := ⟨Tryz.f91.ntmps, 1, Tryz.f91.results.toList, fun _ => none, fun _ => false, fun _ => []⟩
theorem nf_U32 (A : KA Kd) (k : List PV -> Heap Kd -> Prop) (s : ByteArray) (a sec : Int) (e : Err) : evT R3 ff_U32 A k 400 false [.code (bodyOf Tryz.f91)] (startEnv 6 [.ptr 0 0]) [.box [.str s, .int .i64 a, .int .i64 sec, .err e]] = ((0 <= a /\ a <= (↑s.size : Int) /\ s.size < 4611686018427387904 /\ sizeOk 4 = true) /\ k [.int .u32 (IntKind.u32.wrap (rdV s a 4 e))] [.box [.str s, .int .i64 (rdAt s a 4 e), .int .i64 sec, .err (rdE s a 4 sec e)]]) := by kernel_rfl
theorem ok_U32 : FunF B 91 1 U32S := by
 refine funF_of (N := 6) (f := ff_U32) env_R3 mixed fn_U32 (by kernel_rfl) (by kernel_rfl) ?_
 intro A k ys L hA hF
 obtain ⟨s, a, sec, e, rfl, rfl, ⟨h0, h1, h2⟩, hk⟩ := U32S_inv hF; clear hF
 refine ⟨by kernel_rfl, (hA.nf (nf_U32 A k s a sec e) ⟨⟨h0, h1, h2, rfl⟩, ?_⟩)⟩
 have hb := rdV_lt s a 4 e; have h256 : (256 ^ 4 : Nat) = 4294967296 := by decide
 simp only [Int.cast_ofNat_Int, h256] at hb
 rw [u32_id _ (by omega) (by omega)]; exact hk
def U64S : List PV -> Heap Kd -> (List PV -> Heap Kd -> Prop) -> Prop := fun ys L k => match ys, L with
 | [.ptr 0 0], [.box [.str s, .int .i64 a, .int .i64 sec, .err e]] => (0 <= a /\ a <= (s.size : Int) /\ s.size < 4611686018427387904) /\ k [.int .u64 (rdV s a 8 e)] [.box [.str s, .int .i64 (rdAt s a 8 e), .int .i64 sec, .err (rdE s a 8 sec e)]]
 | _, _ => False
theorem U64S_inv {ys : List PV} {L : Heap Kd} {k : List PV -> Heap Kd -> Prop} (h : U64S ys L k) : ∃ (s : ByteArray) (a : Int) (sec : Int) (e : Err), ys = [.ptr 0 0] /\ L = [.box [.str s, .int .i64 a, .int .i64 sec, .err e]] /\ (0 <= a /\ a <= (s.size : Int) /\ s.size < 4611686018427387904) /\ k [.int .u64 (rdV s a 8 e)] [.box [.str s, .int .i64 (rdAt s a 8 e), .int .i64 sec, .err (rdE s a 8 sec e)]] := by
 unfold U64S at h
 split at h
 ·exact ⟨_, _, _, _, rfl, rfl, h⟩
 ·exact h.elim
theorem fn_U64 : FnOk Tryz.prog 92 Tryz.f92 (bodyOf Tryz.f92) := ⟨by kernel_rfl, by kernel_rfl, by kernel_rfl⟩
noncomputable def ff_U64 : Fun := ⟨Tryz.f92.ntmps, 1, Tryz.f92.results.toList, fun _ => none, fun _ => false, fun _ => []⟩
theorem nf_U64 (A : KA Kd) (k : List PV -> Heap Kd -> Prop) (s : ByteArray) (a sec : Int) (e : Err) : evT R3 ff_U64 A k 400 false [.code (bodyOf Tryz.f92)] (startEnv 5 [.ptr 0 0]) [.box [.str s, .int .i64 a, .int .i64 sec, .err e]] = ((0 <= a /\ a <= (↑s.size : Int) /\ s.size < 4611686018427387904 /\ sizeOk 8 = true) /\ k [.int .u64 (rdV s a 8 e)] [.box [.str s, .int .i64 (rdAt s a 8 e), .int .i64 sec, .err (rdE s a 8 sec e)]]) := by kernel_rfl
theorem ok_U64 : FunF B 92 1 U64S := by
 refine funF_of (N := 5) (f := ff_U64) env_R3 mixed fn_U64 (by kernel_rfl) (by kernel_rfl) ?_
 intro A k ys L hA hF
 obtain ⟨s, a, sec, e, rfl, rfl, ⟨h0, h1, h2⟩, hk⟩ := U64S_inv hF; clear hF
 exact ⟨by kernel_rfl, (hA.nf (nf_U64 A k s a sec e) ⟨⟨h0, h1, h2, rfl⟩, hk⟩)⟩
def TextS : List PV -> Heap Kd -> (List PV -> Heap Kd -> Prop) -> Prop := fun ys L k => match ys, L with
 | [.ptr 0 0, .int .i64 n], [.box [.str s, .int .i64 a, .int .i64 sec, .err e]] => (0 <= a /\ a <= (s.size : Int) /\ s.size < 4611686018427387904) /\ k [.str (rdT s a (max n 0) e)] [.box [.str s, .int .i64 (rdAt s a (max n 0) e), .int .i64 sec, .err (rdE s a (max n 0) sec e)]]
 | _, _ => False
theorem TextS_inv {ys : List PV} {L : Heap Kd} {k : List PV -> Heap Kd -> Prop} (h : TextS ys L k) : ∃ (s : ByteArray) (a : Int) (sec : Int) (n : Int) (e : Err), ys = [.ptr 0 0, .int .i64 n] /\ L = [.box [.str s, .int .i64 a, .int .i64 sec, .err e]] /\ (0 <= a /\ a <= (s.size : Int) /\ s.size < 4611686018427387904) /\ k [.str (rdT s a (max n 0) e)] [.box [.str s, .int .i64 (rdAt s a (max n 0) e), .int .i64 sec, .err (rdE s a (max n 0) sec e)]] := by
 unfold TextS at h
 split at h
 ·exact ⟨_, _, _, _, _, rfl, rfl, h⟩
 ·exact h.elim
theorem fn_Text : FnOk Tryz.prog 36 Tryz.f36 (bodyOf Tryz.f36) := ⟨by kernel_rfl, by kernel_rfl, by kernel_rfl⟩
noncomputable def ff_Text : Fun := ⟨Tryz.f36.ntmps, 1, Tryz.f36.results.toList, fun _ => none, fun _ => false, fun i => match i with | 2 => [0] | _ => []⟩
theorem nf_Text (A : KA Kd) (k : List PV -> Heap Kd -> Prop) (s : ByteArray) (a sec n : Int) (e : Err) : evT R2 ff_Text A k 400 false [.code (bodyOf Tryz.f36)] (startEnv 41 [.ptr 0 0, .int .i64 n]) [.box [.str s, .int .i64 a, .int .i64 sec, .err e]] = (((0 <= a /\ a <= (↑s.size : Int) /\ s.size < 4611686018427387904) /\ bif !(needE e (decide (mmI true n 0 <= (↑s.size : Int) - a)) sec 2 a).isNil then k [.str ⟨#[]⟩] [.box [.str s, .int .i64 a, .int .i64 sec, .err (needE e (decide (mmI true n 0 <= (↑s.size : Int) - a)) sec 2 a)]] else (0 <= IntKind.i64.wrap (IntKind.i64.wrap (a + mmI true n (0 : Int)) - mmI true n (0 : Int)) /\ IntKind.i64.wrap (IntKind.i64.wrap (a + mmI true n (0 : Int)) - mmI true n (0 : Int)) <= IntKind.i64.wrap (a + mmI true n (0 : Int)) /\ IntKind.i64.wrap (a + mmI true n (0 : Int)) <= (↑s.size : Int)) /\ k [.str (s.extract (IntKind.i64.wrap (IntKind.i64.wrap (a + mmI true n (0 : Int)) - mmI true n (0 : Int))).toNat (IntKind.i64.wrap (a + mmI true n (0 : Int))).toNat)] [.box [.str s, .int .i64 (IntKind.i64.wrap (a + mmI true n (0 : Int))), .int .i64 sec, .err (needE e (decide (mmI true n 0 <= (↑s.size : Int) - a)) sec 2 a)]]) /\ (0 <= a /\ a <= (↑s.size : Int) /\ s.size < 4611686018427387904) /\ bif !(needE e (decide (mmI true n 0 <= (↑s.size : Int) - a)) sec 2 a).isNil then k [.str ⟨#[]⟩] [.box [.str s, .int .i64 a, .int .i64 sec, .err (needE e (decide (mmI true n 0 <= (↑s.size : Int) - a)) sec 2 a)]] else (0 <= IntKind.i64.wrap (IntKind.i64.wrap (a + mmI true n (0 : Int)) - mmI true n (0 : Int)) /\ IntKind.i64.wrap (IntKind.i64.wrap (a + mmI true n (0 : Int)) - mmI true n (0 : Int)) <= IntKind.i64.wrap (a + mmI true n (0 : Int)) /\ IntKind.i64.wrap (a + mmI true n (0 : Int)) <= (↑s.size : Int)) /\ k [.str (s.extract (IntKind.i64.wrap (IntKind.i64.wrap (a + mmI true n (0 : Int)) - mmI true n (0 : Int))).toNat (IntKind.i64.wrap (a + mmI true n (0 : Int))).toNat)] [.box [.str s, .int .i64 (IntKind.i64.wrap (a + mmI true n (0 : Int))), .int .i64 sec, .err (needE e (decide (mmI true n 0 <= (↑s.size : Int) - a)) sec 2 a)]]) := by kernel_rfl
theorem ok_Text : FunF B 36 1 TextS := by
 refine funF_of (N := 41) (f := ff_Text) env_R2 mixed fn_Text (by kernel_rfl) (by kernel_rfl) ?_
 intro A k ys L hA hF
 obtain ⟨s, a, sec, n, e, rfl, rfl, ⟨h0, h1, h2⟩, hk⟩ := TextS_inv hF; clear hF
 refine ⟨by kernel_rfl, (hA.nf (nf_Text A k s a sec n e) ?_)⟩
 rw [mmI_max]
 obtain ⟨m, hm⟩ : ∃ m, m = max n 0 := ⟨_, rfl⟩
 rw [<- hm] at hk ⊢
 have hm0 : 0 <= m := by omega
 have hx := rdE_nil s a m sec e
 unfold rdE at hx hk
 refine and_self_iff.2 ⟨⟨h0, h1, h2⟩, ?_⟩
 rw [hx]
 unfold rdT rdAt at hk
 cases h : rdOk s a m e with
 | false => rw [h] at hk; exact hk
 | true =>
  rw [h] at hk
  have hle : m <= (s.size : Int) - a := by
   simp only [rdOk, Bool.and_eq_true, decide_eq_true_eq] at h; exact h.1
  have e1 : IntKind.i64.wrap (a + m) = a + m := wrap_id _ (by omega) (by omega)
  have e2 : IntKind.i64.wrap (a + m - m) = a := by rw [wrap_id _ (by omega) (by omega)]; omega
  rw [e1, e2]
  exact ⟨⟨h0, by omega, by omega⟩, hk⟩
end Go.Ab.T
