import Derived.Test.YtgnhjhdmfhfilaaDoorOctet
import Derived.Test.YtgnhjhdmfhfilaaDoorAs2
set_option linter.unusedVariables false
set_option linter.unusedSimpArgs false
namespace Go.Ab.T
open Go Go.Ab Go.Proofs
set_option maxRecDepth 100000
set_option maxHeartbeats 4000000
noncomputable def R0 := base (fun g => match g with | 133 => some (lift 0 namesF) | 106 => some (lift 0 namesF) | _ => none) (fun g => match g with | 83 => some nameS | 103 => some nameS | 48 => some newS | 50 => some atS | 71 => some inS | 89 => some sizeS | 132 => some rSizeS | 58 => some getS | 102 => some getS | 23 => some ofS | _ => none) (fun _ => none)
theorem env_R0 : EnvOk R0 := env_of (by
    intro g F h
    split at h
    · cases h; exact ok_Name
    · cases h; exact ok_rName
    · cases h; exact ok_New
    · cases h; exact ok_At
    · cases h; exact ok_In
    · cases h; exact ok_size
    · cases h; exact ok_rSize
    · cases h; exact ok_Get
    · cases h; exact ok_rGet
    · cases h; exact of_ok
    · cases h) (by
    intro g F h
    split at h
    · cases h; exact (lift_ok ok_rnames)
    · cases h; exact (lift_ok ok_names)
    · cases h) (fun g F h => (by cases h))
def NewS : List PV → Heap Kd → (List PV → Heap Kd → Prop) → Prop := fun ys L k => match ys, L with
  | [.str s], [] => k [.ptr 0 0] [.box [.str s, .int .i64 0, .int .i64 0, .err .nil]]
  | _, _ => False
theorem NewS_inv {ys : List PV} {L : Heap Kd} {k : List PV → Heap Kd → Prop} (h : NewS ys L k) : ∃ (s : ByteArray), ys = [.str s] ∧ L = [] ∧ k [.ptr 0 0] [.box [.str s, .int .i64 0, .int .i64 0, .err .nil]] := by
  unfold NewS at h
  split at h
  · exact ⟨_, rfl, rfl, h⟩
  · exact h.elim
theorem fn_rNew : FnOk Tryd.prog 33 Tryd.f33 (bodyOf Tryd.f33) := ⟨by kernel_rfl, by kernel_rfl, by kernel_rfl⟩
noncomputable def ff_rNew : Fun := ⟨Tryd.f33.ntmps, 0, Tryd.f33.results.toList, fun _ => none, fun _ => false, fun _ => []⟩
theorem nf_rNew (A : KA Kd) (k : List PV → Heap Kd → Prop) (s : ByteArray) : evT R0 ff_rNew A k 400 false [.code (bodyOf Tryd.f33)] (startEnv 6 [.str s]) [] = (k [PV.ptr (0 : Nat) (0 : Nat)] [AObj.box [PV.str s, PV.int IntKind.i64 (0 : Int), PV.int IntKind.i64 (0 : Int), PV.err Err.nil]]) := by kernel_rfl
theorem ok_rNew : FunF B 33 0 NewS := by
  refine funF_of (N := 6) (f := ff_rNew) env_R0 mixed fn_rNew (by kernel_rfl) (by kernel_rfl) ?_
  intro A k ys L hA hF
  obtain ⟨s, rfl, rfl, hk⟩ := NewS_inv hF; clear hF
  exact ⟨by kernel_rfl, (hA.nf (nf_rNew A k s) hk)⟩
def EnterS : List PV → Heap Kd → (List PV → Heap Kd → Prop) → Prop := fun ys L k => match ys, L with
  | [.ptr 0 0, .int .i64 n], [.box [.str s, .int .i64 a, .int .i64 sec, .err e]] => k [] [.box [.str s, .int .i64 a, .int .i64 n, .err e]]
  | _, _ => False
theorem EnterS_inv {ys : List PV} {L : Heap Kd} {k : List PV → Heap Kd → Prop} (h : EnterS ys L k) : ∃ (s : ByteArray) (a : Int) (sec : Int) (n : Int) (e : Err), ys = [.ptr 0 0, .int .i64 n] ∧ L = [.box [.str s, .int .i64 a, .int .i64 sec, .err e]] ∧ k [] [.box [.str s, .int .i64 a, .int .i64 n, .err e]] := by
  unfold EnterS at h
  split at h
  · exact ⟨_, _, _, _, _, rfl, rfl, h⟩
  · exact h.elim
theorem fn_Enter : FnOk Tryd.prog 73 Tryd.f73 (bodyOf Tryd.f73) := ⟨by kernel_rfl, by kernel_rfl, by kernel_rfl⟩
noncomputable def ff_Enter : Fun := ⟨Tryd.f73.ntmps, 1, Tryd.f73.results.toList, fun _ => none, fun _ => false, fun _ => []⟩
theorem nf_Enter (A : KA Kd) (k : List PV → Heap Kd → Prop) (s : ByteArray) (a sec n : Int) (e : Err) : evT R0 ff_Enter A k 400 false [.code (bodyOf Tryd.f73)] (startEnv 8 [.ptr 0 0, .int .i64 n]) [.box [.str s, .int .i64 a, .int .i64 sec, .err e]] = (k [] [AObj.box [PV.str s, PV.int IntKind.i64 a, PV.int IntKind.i64 n, PV.err e]]) := by kernel_rfl
theorem ok_Enter : FunF B 73 1 EnterS := by
  refine funF_of (N := 8) (f := ff_Enter) env_R0 mixed fn_Enter (by kernel_rfl) (by kernel_rfl) ?_
  intro A k ys L hA hF
  obtain ⟨s, a, sec, n, e, rfl, rfl, hk⟩ := EnterS_inv hF; clear hF
  exact ⟨by kernel_rfl, (hA.nf (nf_Enter A k s a sec n e) hk)⟩
def FailS : List PV → Heap Kd → (List PV → Heap Kd → Prop) → Prop := fun ys L k => match ys, L with
  | [.ptr 0 0, .int .i64 c, .int .i64 b], [.box [.str s, .int .i64 a, .int .i64 sec, .err e]] => k [] [.box [.str s, .int .i64 a, .int .i64 sec, .err (failR e sec c b)]]
  | _, _ => False
theorem FailS_inv {ys : List PV} {L : Heap Kd} {k : List PV → Heap Kd → Prop} (h : FailS ys L k) : ∃ (s : ByteArray) (a : Int) (sec : Int) (c : Int) (b : Int) (e : Err), ys = [.ptr 0 0, .int .i64 c, .int .i64 b] ∧ L = [.box [.str s, .int .i64 a, .int .i64 sec, .err e]] ∧ k [] [.box [.str s, .int .i64 a, .int .i64 sec, .err (failR e sec c b)]] := by
  unfold FailS at h
  split at h
  · exact ⟨_, _, _, _, _, _, rfl, rfl, h⟩
  · exact h.elim
theorem fn_Fail : FnOk Tryd.prog 101 Tryd.f101 (bodyOf Tryd.f101) := ⟨by kernel_rfl, by kernel_rfl, by kernel_rfl⟩
noncomputable def ff_Fail : Fun := ⟨Tryd.f101.ntmps, 1, Tryd.f101.results.toList, fun _ => none, fun _ => false, fun i => match i with | 1 => [0] | _ => []⟩
theorem nf_Fail (A : KA Kd) (k : List PV → Heap Kd → Prop) (s : ByteArray) (a sec c b : Int) (e : Err) : evT R0 ff_Fail A k 400 false [.code (bodyOf Tryd.f101)] (startEnv 23 [.ptr 0 0, .int .i64 c, .int .i64 b]) [.box [.str s, .int .i64 a, .int .i64 sec, .err e]] = (bif e.isNil then k [] [AObj.box [PV.str s, PV.int IntKind.i64 a, PV.int IntKind.i64 sec, PV.err (inE sec (atE b (newE c)))]] ∧ k [] [AObj.box [PV.str s, PV.int IntKind.i64 a, PV.int IntKind.i64 sec, PV.err (inE sec (atE b (newE c)))]] ∧ k [] [AObj.box [PV.str s, PV.int IntKind.i64 a, PV.int IntKind.i64 sec, PV.err (inE sec (atE b (newE c)))]]
else k [] [AObj.box [PV.str s, PV.int IntKind.i64 a, PV.int IntKind.i64 sec, PV.err e]]) := by kernel_rfl
theorem ok_Fail : FunF B 101 1 FailS := by
  refine funF_of (N := 23) (f := ff_Fail) env_R0 mixed fn_Fail (by kernel_rfl) (by kernel_rfl) ?_
  intro A k ys L hA hF
  obtain ⟨s, a, sec, c, b, e, rfl, rfl, hk⟩ := FailS_inv hF; clear hF
  refine ⟨by kernel_rfl, (hA.nf (nf_Fail A k s a sec c b e) ?_)⟩
  unfold failR at hk
  cases h : e.isNil with
  | true => rw [h] at hk; exact ⟨hk, hk, hk⟩
  | false => rw [h] at hk; exact hk
noncomputable def R1 := base (fun g => match g with | 133 => some (lift 0 namesF) | 106 => some (lift 0 namesF) | 33 => some (lift 0 NewS) | 73 => some (lift 1 EnterS) | 101 => some (lift 1 FailS) | _ => none) (fun g => match g with | 83 => some nameS | 103 => some nameS | 48 => some newS | 50 => some atS | 71 => some inS | 89 => some sizeS | 132 => some rSizeS | 58 => some getS | 102 => some getS | 23 => some ofS | _ => none) (fun _ => none)
theorem env_R1 : EnvOk R1 := env_of (by
    intro g F h
    split at h
    · cases h; exact ok_Name
    · cases h; exact ok_rName
    · cases h; exact ok_New
    · cases h; exact ok_At
    · cases h; exact ok_In
    · cases h; exact ok_size
    · cases h; exact ok_rSize
    · cases h; exact ok_Get
    · cases h; exact ok_rGet
    · cases h; exact of_ok
    · cases h) (by
    intro g F h
    split at h
    · cases h; exact (lift_ok ok_rnames)
    · cases h; exact (lift_ok ok_names)
    · cases h; exact (lift_ok ok_rNew)
    · cases h; exact (lift_ok ok_Enter)
    · cases h; exact (lift_ok ok_Fail)
    · cases h) (fun g F h => (by cases h))
def NeedS : List PV → Heap Kd → (List PV → Heap Kd → Prop) → Prop := fun ys L k => match ys, L with
  | [.ptr 0 0, .bool t, .int .i64 c, .int .i64 b], [.box [.str s, .int .i64 a, .int .i64 sec, .err e]] => k [.bool (needE e t sec c b).isNil] [.box [.str s, .int .i64 a, .int .i64 sec, .err (needE e t sec c b)]]
  | _, _ => False
theorem NeedS_inv {ys : List PV} {L : Heap Kd} {k : List PV → Heap Kd → Prop} (h : NeedS ys L k) : ∃ (s : ByteArray) (a : Int) (sec : Int) (c : Int) (b : Int) (e : Err) (t : Bool), ys = [.ptr 0 0, .bool t, .int .i64 c, .int .i64 b] ∧ L = [.box [.str s, .int .i64 a, .int .i64 sec, .err e]] ∧ k [.bool (needE e t sec c b).isNil] [.box [.str s, .int .i64 a, .int .i64 sec, .err (needE e t sec c b)]] := by
  unfold NeedS at h
  split at h
  · exact ⟨_, _, _, _, _, _, _, rfl, rfl, h⟩
  · exact h.elim
theorem fn_Need : FnOk Tryd.prog 76 Tryd.f76 (bodyOf Tryd.f76) := ⟨by kernel_rfl, by kernel_rfl, by kernel_rfl⟩
noncomputable def ff_Need : Fun := ⟨Tryd.f76.ntmps, 1, Tryd.f76.results.toList, fun _ => none, fun _ => false, fun _ => []⟩
theorem nf_Need (A : KA Kd) (k : List PV → Heap Kd → Prop) (s : ByteArray) (a sec c b : Int) (e : Err) (t : Bool) : evT R1 ff_Need A k 400 false [.code (bodyOf Tryd.f76)] (startEnv 20 [.ptr 0 0, .bool t, .int .i64 c, .int .i64 b]) [.box [.str s, .int .i64 a, .int .i64 sec, .err e]] = (bif !t then k [PV.bool (failR e sec c b).isNil] [AObj.box [PV.str s, PV.int IntKind.i64 a, PV.int IntKind.i64 sec, PV.err (failR e sec c b)]]
else k [PV.bool e.isNil] [AObj.box [PV.str s, PV.int IntKind.i64 a, PV.int IntKind.i64 sec, PV.err e]]) := by kernel_rfl
theorem ok_Need : FunF B 76 1 NeedS := by
  refine funF_of (N := 20) (f := ff_Need) env_R1 mixed fn_Need (by kernel_rfl) (by kernel_rfl) ?_
  intro A k ys L hA hF
  obtain ⟨s, a, sec, c, b, e, t, rfl, rfl, hk⟩ := NeedS_inv hF; clear hF
  refine ⟨by kernel_rfl, (hA.nf (nf_Need A k s a sec c b e t) ?_)⟩
  unfold needE at hk
  cases t with
  | true => exact hk
  | false => exact hk
def ErrS : List PV → Heap Kd → (List PV → Heap Kd → Prop) → Prop := fun ys L k => match ys, L with
  | [.ptr 0 0], [.box [.str s, .int .i64 a, .int .i64 sec, .err e]] => k [.err e] [.box [.str s, .int .i64 a, .int .i64 sec, .err e]]
  | _, _ => False
theorem ErrS_inv {ys : List PV} {L : Heap Kd} {k : List PV → Heap Kd → Prop} (h : ErrS ys L k) : ∃ (s : ByteArray) (a : Int) (sec : Int) (e : Err), ys = [.ptr 0 0] ∧ L = [.box [.str s, .int .i64 a, .int .i64 sec, .err e]] ∧ k [.err e] [.box [.str s, .int .i64 a, .int .i64 sec, .err e]] := by
  unfold ErrS at h
  split at h
  · exact ⟨_, _, _, _, rfl, rfl, h⟩
  · exact h.elim
theorem fn_rErr : FnOk Tryd.prog 74 Tryd.f74 (bodyOf Tryd.f74) := ⟨by kernel_rfl, by kernel_rfl, by kernel_rfl⟩
noncomputable def ff_rErr : Fun := ⟨Tryd.f74.ntmps, 1, Tryd.f74.results.toList, fun _ => none, fun _ => false, fun _ => []⟩
theorem nf_rErr (A : KA Kd) (k : List PV → Heap Kd → Prop) (s : ByteArray) (a sec : Int) (e : Err) : evT R1 ff_rErr A k 400 false [.code (bodyOf Tryd.f74)] (startEnv 7 [.ptr 0 0]) [.box [.str s, .int .i64 a, .int .i64 sec, .err e]] = (k [PV.err e] [AObj.box [PV.str s, PV.int IntKind.i64 a, PV.int IntKind.i64 sec, PV.err e]]) := by kernel_rfl
theorem ok_rErr : FunF B 74 1 ErrS := by
  refine funF_of (N := 7) (f := ff_rErr) env_R1 mixed fn_rErr (by kernel_rfl) (by kernel_rfl) ?_
  intro A k ys L hA hF
  obtain ⟨s, a, sec, e, rfl, rfl, hk⟩ := ErrS_inv hF; clear hF
  exact ⟨by kernel_rfl, (hA.nf (nf_rErr A k s a sec e) hk)⟩
def PlaceS : SpecS := fun ys Φ => match ys with
  | [.el (.agg [.str s, .int .i64 a, .int .i64 sec, .err e]) 0] => Φ [.int .i64 a]
  | _ => False
theorem PlaceS_mono : MonoS PlaceS := by
  intro ys Φ Ψ h hF
  unfold PlaceS at hF ⊢
  split at hF
  · exact h _ hF
  · exact hF.elim
theorem PlaceS_inv {ys : List PV} {Φ : List PV → Prop} (h : PlaceS ys Φ) : ∃ (s : ByteArray) (a : Int) (sec : Int) (e : Err), ys = [.el (.agg [.str s, .int .i64 a, .int .i64 sec, .err e]) 0] ∧ Φ [.int .i64 a] := by
  unfold PlaceS at h
  split at h
  · exact ⟨_, _, _, _, rfl, h⟩
  · exact h.elim
theorem fn_Place : FnOk Tryd.prog 39 Tryd.f39 (bodyOf Tryd.f39) := ⟨by kernel_rfl, by kernel_rfl, by kernel_rfl⟩
noncomputable def ff_Place : Fun := ⟨Tryd.f39.ntmps, 0, Tryd.f39.results.toList, fun _ => none, fun _ => false, fun _ => []⟩
theorem nf_Place (A : KA Kd) (k : List PV → Heap Kd → Prop) (s : ByteArray) (a sec : Int) (e : Err) : evT R1 ff_Place A k 400 false [.code (bodyOf Tryd.f39)] (startEnv 7 [.el (.agg [.str s, .int .i64 a, .int .i64 sec, .err e]) 0]) [] = (k [PV.int IntKind.i64 a] []) := by kernel_rfl
theorem ok_Place : FunS B 39 PlaceS := by
  refine funS_of (N := 7) (f := ff_Place) env_R1 mixed fn_Place (by kernel_rfl) (by kernel_rfl) (by kernel_rfl) PlaceS_mono ?_
  intro A k ys hA hF
  obtain ⟨s, a, sec, e, rfl, hk⟩ := PlaceS_inv hF; clear hF
  exact ⟨by kernel_rfl, (hA.nf (nf_Place A k s a sec e) hk)⟩
def LeftS : SpecS := fun ys Φ => match ys with
  | [.el (.agg [.str s, .int .i64 a, .int .i64 sec, .err e]) 0] => (0 ≤ a ∧ a ≤ (s.size : Int) ∧ s.size < 4611686018427387904) ∧ Φ [.int .i64 ((s.size : Int) - a)]
  | _ => False
theorem LeftS_mono : MonoS LeftS := by
  intro ys Φ Ψ h hF
  unfold LeftS at hF ⊢
  split at hF
  · obtain ⟨hp, hk⟩ := hF; exact ⟨hp, h _ hk⟩
  · exact hF.elim
theorem LeftS_inv {ys : List PV} {Φ : List PV → Prop} (h : LeftS ys Φ) : ∃ (s : ByteArray) (a : Int) (sec : Int) (e : Err), ys = [.el (.agg [.str s, .int .i64 a, .int .i64 sec, .err e]) 0] ∧ (0 ≤ a ∧ a ≤ (s.size : Int) ∧ s.size < 4611686018427387904) ∧ Φ [.int .i64 ((s.size : Int) - a)] := by
  unfold LeftS at h
  split at h
  · exact ⟨_, _, _, _, rfl, h⟩
  · exact h.elim
theorem fn_Left : FnOk Tryd.prog 37 Tryd.f37 (bodyOf Tryd.f37) := ⟨by kernel_rfl, by kernel_rfl, by kernel_rfl⟩
noncomputable def ff_Left : Fun := ⟨Tryd.f37.ntmps, 0, Tryd.f37.results.toList, fun _ => none, fun _ => false, fun _ => []⟩
theorem nf_Left (A : KA Kd) (k : List PV → Heap Kd → Prop) (s : ByteArray) (a sec : Int) (e : Err) : evT R1 ff_Left A k 400 false [.code (bodyOf Tryd.f37)] (startEnv 13 [.el (.agg [.str s, .int .i64 a, .int .i64 sec, .err e]) 0]) [] = (k [PV.int IntKind.i64 (IntKind.i64.wrap ((↑s.size : Int) - a))] []) := by kernel_rfl
theorem ok_Left : FunS B 37 LeftS := by
  refine funS_of (N := 13) (f := ff_Left) env_R1 mixed fn_Left (by kernel_rfl) (by kernel_rfl) (by kernel_rfl) LeftS_mono ?_
  intro A k ys hA hF
  obtain ⟨s, a, sec, e, rfl, ⟨h0, h1, h2⟩, hk⟩ := LeftS_inv hF; clear hF
  refine ⟨by kernel_rfl, (hA.nf (nf_Left A k s a sec e) ?_)⟩
  rw [wrap_id _ (by omega) (by omega)]; exact hk
noncomputable def R2 := base (fun g => match g with | 133 => some (lift 0 namesF) | 106 => some (lift 0 namesF) | 33 => some (lift 0 NewS) | 73 => some (lift 1 EnterS) | 101 => some (lift 1 FailS) | 76 => some (lift 1 NeedS) | 74 => some (lift 1 ErrS) | _ => none) (fun g => match g with | 83 => some nameS | 103 => some nameS | 48 => some newS | 50 => some atS | 71 => some inS | 89 => some sizeS | 132 => some rSizeS | 58 => some getS | 102 => some getS | 23 => some ofS | 39 => some PlaceS | 37 => some LeftS | _ => none) (fun _ => none)
theorem env_R2 : EnvOk R2 := env_of (by
    intro g F h
    split at h
    · cases h; exact ok_Name
    · cases h; exact ok_rName
    · cases h; exact ok_New
    · cases h; exact ok_At
    · cases h; exact ok_In
    · cases h; exact ok_size
    · cases h; exact ok_rSize
    · cases h; exact ok_Get
    · cases h; exact ok_rGet
    · cases h; exact of_ok
    · cases h; exact ok_Place
    · cases h; exact ok_Left
    · cases h) (by
    intro g F h
    split at h
    · cases h; exact (lift_ok ok_rnames)
    · cases h; exact (lift_ok ok_names)
    · cases h; exact (lift_ok ok_rNew)
    · cases h; exact (lift_ok ok_Enter)
    · cases h; exact (lift_ok ok_Fail)
    · cases h; exact (lift_ok ok_Need)
    · cases h; exact (lift_ok ok_rErr)
    · cases h) (fun g F h => (by cases h))
def numberS : List PV → Heap Kd → (List PV → Heap Kd → Prop) → Prop := fun ys L k => match ys, L with
  | [.ptr 0 0, .int .i64 n], [.box [.str s, .int .i64 a, .int .i64 sec, .err e]] => (0 ≤ a ∧ a ≤ (s.size : Int) ∧ s.size < 4611686018427387904 ∧ sizeOk n = true) ∧ k [.int .u64 (rdV s a n e)] [.box [.str s, .int .i64 (rdAt s a n e), .int .i64 sec, .err (rdE s a n sec e)]]
  | _, _ => False
theorem numberS_inv {ys : List PV} {L : Heap Kd} {k : List PV → Heap Kd → Prop} (h : numberS ys L k) : ∃ (s : ByteArray) (a : Int) (sec : Int) (n : Int) (e : Err), ys = [.ptr 0 0, .int .i64 n] ∧ L = [.box [.str s, .int .i64 a, .int .i64 sec, .err e]] ∧ (0 ≤ a ∧ a ≤ (s.size : Int) ∧ s.size < 4611686018427387904 ∧ sizeOk n = true) ∧ k [.int .u64 (rdV s a n e)] [.box [.str s, .int .i64 (rdAt s a n e), .int .i64 sec, .err (rdE s a n sec e)]] := by
  unfold numberS at h
  split at h
  · exact ⟨_, _, _, _, _, rfl, rfl, h⟩
  · exact h.elim
theorem fn_number : FnOk Tryd.prog 100 Tryd.f100 (bodyOf Tryd.f100) := ⟨by kernel_rfl, by kernel_rfl, by kernel_rfl⟩
noncomputable def ff_number : Fun := ⟨Tryd.f100.ntmps, 1, Tryd.f100.results.toList, fun _ => none, fun _ => false, fun i => match i with | 1 => [0] | _ => []⟩
theorem nf_number (A : KA Kd) (k : List PV → Heap Kd → Prop) (s : ByteArray) (a sec n : Int) (e : Err) : evT R2 ff_number A k 400 false [.code (bodyOf Tryd.f100)] (startEnv 40 [.ptr 0 0, .int .i64 n]) [.box [.str s, .int .i64 a, .int .i64 sec, .err e]] = ((((0 : Int) ≤ a ∧ a ≤ (↑s.size : Int) ∧ s.size < (4611686018427387904 : Nat)) ∧ bif !(needE e (decide (n ≤ (↑s.size : Int) - a)) sec (2 : Int) a).isNil then k [PV.int IntKind.u64 (0 : Int)] [AObj.box [PV.str s, PV.int IntKind.i64 a, PV.int IntKind.i64 sec, PV.err (needE e (decide (n ≤ (↑s.size : Int) - a)) sec (2 : Int) a)]] else s.size < (4611686018427387904 : Nat) ∧ k [PV.int IntKind.u64 (getV s a n)] [AObj.box [PV.str s, PV.int IntKind.i64 (IntKind.i64.wrap (a + n)), PV.int IntKind.i64 sec, PV.err (needE e (decide (n ≤ (↑s.size : Int) - a)) sec (2 : Int) a)]]) ∧ ((0 : Int) ≤ a ∧ a ≤ (↑s.size : Int) ∧ s.size < (4611686018427387904 : Nat)) ∧ bif !(needE e (decide (n ≤ (↑s.size : Int) - a)) sec (2 : Int) a).isNil then k [PV.int IntKind.u64 (0 : Int)] [AObj.box [PV.str s, PV.int IntKind.i64 a, PV.int IntKind.i64 sec, PV.err (needE e (decide (n ≤ (↑s.size : Int) - a)) sec (2 : Int) a)]] else s.size < (4611686018427387904 : Nat) ∧ k [PV.int IntKind.u64 (getV s a n)] [AObj.box [PV.str s, PV.int IntKind.i64 (IntKind.i64.wrap (a + n)), PV.int IntKind.i64 sec, PV.err (needE e (decide (n ≤ (↑s.size : Int) - a)) sec (2 : Int) a)]]) := by kernel_rfl
theorem ok_number : FunF B 100 1 numberS := by
  refine funF_of (N := 40) (f := ff_number) env_R2 mixed fn_number (by kernel_rfl) (by kernel_rfl) ?_
  intro A k ys L hA hF
  obtain ⟨s, a, sec, n, e, rfl, rfl, ⟨h0, h1, h2, hn⟩, hk⟩ := numberS_inv hF; clear hF
  refine ⟨by kernel_rfl, (hA.nf (nf_number A k s a sec n e) ?_)⟩
  have hx := rdE_nil s a n sec e
  unfold rdE at hx hk
  refine and_self_iff.2 ⟨⟨h0, h1, h2⟩, ?_⟩
  rw [hx]
  unfold rdV rdAt at hk
  cases h : rdOk s a n e with
  | false => rw [h] at hk; exact hk
  | true =>
    rw [h] at hk
    have hle : n ≤ (s.size : Int) - a := by
      simp only [rdOk, Bool.and_eq_true, decide_eq_true_eq] at h; exact h.1
    have hv : getV s a n = (beV s a.toNat n.toNat : Int) := by
      have : getOk s a n = true := by simp [getOk, hn]; omega
      rw [getV, this]; rfl
    have := sizeOk_cases hn
    rw [hv, wrap_id _ (by omega) (by omega)]
    exact ⟨h2, hk⟩
noncomputable def R3 := base (fun g => match g with | 133 => some (lift 0 namesF) | 106 => some (lift 0 namesF) | 33 => some (lift 0 NewS) | 73 => some (lift 1 EnterS) | 101 => some (lift 1 FailS) | 76 => some (lift 1 NeedS) | 74 => some (lift 1 ErrS) | 100 => some (lift 1 numberS) | _ => none) (fun g => match g with | 83 => some nameS | 103 => some nameS | 48 => some newS | 50 => some atS | 71 => some inS | 89 => some sizeS | 132 => some rSizeS | 58 => some getS | 102 => some getS | 23 => some ofS | 39 => some PlaceS | 37 => some LeftS | _ => none) (fun _ => none)
theorem env_R3 : EnvOk R3 := env_of (by
    intro g F h
    split at h
    · cases h; exact ok_Name
    · cases h; exact ok_rName
    · cases h; exact ok_New
    · cases h; exact ok_At
    · cases h; exact ok_In
    · cases h; exact ok_size
    · cases h; exact ok_rSize
    · cases h; exact ok_Get
    · cases h; exact ok_rGet
    · cases h; exact of_ok
    · cases h; exact ok_Place
    · cases h; exact ok_Left
    · cases h) (by
    intro g F h
    split at h
    · cases h; exact (lift_ok ok_rnames)
    · cases h; exact (lift_ok ok_names)
    · cases h; exact (lift_ok ok_rNew)
    · cases h; exact (lift_ok ok_Enter)
    · cases h; exact (lift_ok ok_Fail)
    · cases h; exact (lift_ok ok_Need)
    · cases h; exact (lift_ok ok_rErr)
    · cases h; exact (lift_ok ok_number)
    · cases h) (fun g F h => (by cases h))
def U8S : List PV → Heap Kd → (List PV → Heap Kd → Prop) → Prop := fun ys L k => match ys, L with
  | [.ptr 0 0], [.box [.str s, .int .i64 a, .int .i64 sec, .err e]] => (0 ≤ a ∧ a ≤ (s.size : Int) ∧ s.size < 4611686018427387904) ∧ k [.int .i64 (rdV s a 1 e)] [.box [.str s, .int .i64 (rdAt s a 1 e), .int .i64 sec, .err (rdE s a 1 sec e)]]
  | _, _ => False
theorem U8S_inv {ys : List PV} {L : Heap Kd} {k : List PV → Heap Kd → Prop} (h : U8S ys L k) : ∃ (s : ByteArray) (a : Int) (sec : Int) (e : Err), ys = [.ptr 0 0] ∧ L = [.box [.str s, .int .i64 a, .int .i64 sec, .err e]] ∧ (0 ≤ a ∧ a ≤ (s.size : Int) ∧ s.size < 4611686018427387904) ∧ k [.int .i64 (rdV s a 1 e)] [.box [.str s, .int .i64 (rdAt s a 1 e), .int .i64 sec, .err (rdE s a 1 sec e)]] := by
  unfold U8S at h
  split at h
  · exact ⟨_, _, _, _, rfl, rfl, h⟩
  · exact h.elim
theorem fn_U8 : FnOk Tryd.prog 75 Tryd.f75 (bodyOf Tryd.f75) := ⟨by kernel_rfl, by kernel_rfl, by kernel_rfl⟩
noncomputable def ff_U8 : Fun := ⟨Tryd.f75.ntmps, 1, Tryd.f75.results.toList, fun _ => none, fun _ => false, fun _ => []⟩
theorem nf_U8 (A : KA Kd) (k : List PV → Heap Kd → Prop) (s : ByteArray) (a sec : Int) (e : Err) : evT R3 ff_U8 A k 400 false [.code (bodyOf Tryd.f75)] (startEnv 6 [.ptr 0 0]) [.box [.str s, .int .i64 a, .int .i64 sec, .err e]] = (((0 : Int) ≤ a ∧ a ≤ (↑s.size : Int) ∧ s.size < (4611686018427387904 : Nat) ∧ sizeOk (1 : Int) = true) ∧ k [PV.int IntKind.i64 (IntKind.i64.wrap (rdV s a (1 : Int) e))] [AObj.box [PV.str s, PV.int IntKind.i64 (rdAt s a (1 : Int) e), PV.int IntKind.i64 sec, PV.err (rdE s a (1 : Int) sec e)]]) := by kernel_rfl
theorem ok_U8 : FunF B 75 1 U8S := by
  refine funF_of (N := 6) (f := ff_U8) env_R3 mixed fn_U8 (by kernel_rfl) (by kernel_rfl) ?_
  intro A k ys L hA hF
  obtain ⟨s, a, sec, e, rfl, rfl, ⟨h0, h1, h2⟩, hk⟩ := U8S_inv hF; clear hF
  refine ⟨by kernel_rfl, (hA.nf (nf_U8 A k s a sec e) ⟨⟨h0, h1, h2, rfl⟩, ?_⟩)⟩
  have hb := rdV_lt s a 1 e; have h256 : (256 ^ 1 : Nat) = 256 := by decide
  simp only [Int.cast_ofNat_Int, h256] at hb
  rw [wrap_id _ (by omega) (by omega)]; exact hk
end Go.Ab.T
