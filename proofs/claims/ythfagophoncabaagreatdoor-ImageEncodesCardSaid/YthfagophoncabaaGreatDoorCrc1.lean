import Derived.Test.YthfagophoncabaaGreatDoorTB
import Derived.Test.YthfagophoncabaaGreatDoorMaB
import Derived.Laws.BitsAllLaws
set_option linter.unusedVariables false
set_option linter.unusedSimpArgs false
set_option linter.unusedSectionVars false
namespace Go.Ab.T
open Go Go.Ab Go.Proofs
variable [DMode]
set_option maxRecDepth 100000
set_option maxHeartbeats 4000000
def stp02S : SpecS := fun ys Φ => match ys with
 | [.int .u32 v] => (0 <= v /\ v < 4294967296) /\ Φ [.int .u32 (stepN v.toNat)]
 | _ => False
theorem stp02S_mono : MonoS stp02S := by
 intro ys Φ Ψ h hF
 unfold stp02S at hF ⊢
 split at hF
 ·obtain ⟨hp, hk⟩ := hF; exact ⟨hp, h _ hk⟩
 ·exact hF.elim
theorem stp02S_inv {ys : List PV} {Φ : List PV -> Prop} (h : stp02S ys Φ) : ∃ (v : Int), ys = [.int .u32 v] /\ (0 <= v /\ v < 4294967296) /\ Φ [.int .u32 (stepN v.toNat)] := by
 unfold stp02S at h
 split at h
 ·exact ⟨_, rfl, h⟩
 ·exact h.elim
theorem fn_stp02 : FnOk Tryz.prog 87 Tryz.f87 (bodyOf Tryz.f87) := ⟨by kernel_rfl, by kernel_rfl, by kernel_rfl⟩
noncomputable def ff_stp02 : Fun := ⟨Tryz.f87.ntmps, 0, Tryz.f87.results.toList, fun _ => none, fun _ => false, fun _ => []⟩
theorem nf_stp02 (A : KA Kd) (k : List PV -> Heap Kd -> Prop) (v : Int) : evT B ff_stp02 A k 400 false [.code (bodyOf Tryz.f87)] (startEnv 11 [.int .u32 v]) [] = ((2 : Int) ≠ (0 : Int) /\ bif v.tmod (2 : Int) == (1 : Int) then (2 : Int) ≠ (0 : Int) /\ k [.int .u32 (bits BinOp.xor IntKind.u32 (IntKind.u32.wrap (v.tdiv (2 : Int))) (3988292384 : Int))] [] else (2 : Int) ≠ (0 : Int) /\ k [.int .u32 (IntKind.u32.wrap (v.tdiv (2 : Int)))] []) := by kernel_rfl
theorem u32_xorN (a b : Nat) (ha : a < 4294967296) (hb : b < 4294967296) : bits .xor .u32 (a : Int) (b : Int) = ((a ^^^ b : Nat) : Int) := Go.u32_xor_nat a b ha hb
theorem odd32 {v : Nat} (h : v < 4294967296) : bits .and .u32 (v : Int) (1 : Int) = ((v % 2 : Nat) : Int) := by
 have := Go.u32_and_nat v 1 h (by decide)
 rw [Nat.and_one_is_mod] at this
 exact this
theorem ok_stp02 : FunS B 87 stp02S := by
 refine funS_of (N := 11) (f := ff_stp02) env0 mixed fn_stp02 (by kernel_rfl) (by kernel_rfl) (by kernel_rfl) stp02S_mono ?_
 intro A k ys hA hF
 obtain ⟨v, rfl, ⟨h0, h1⟩, hk⟩ := stp02S_inv hF; clear hF
 obtain ⟨u, rfl⟩ : ∃ u : Nat, v = (u : Int) := ⟨v.toNat, by omega⟩
 refine ⟨by kernel_rfl, (hA.nf (nf_stp02 A k u) ?_)⟩
 have e1 : (u : Int).tmod 2 = ((u % 2 : Nat) : Int) := by rw [Int.tmod_eq_emod_of_nonneg (by omega)]; omega
 have e2 : IntKind.u32.wrap ((u : Int).tdiv 2) = ((u / 2 : Nat) : Int) := by
  rw [Int.tdiv_eq_ediv_of_nonneg (by omega), IntKind.wrap_u32]; omega
 rw [e1, e2]
 rw [Int.toNat_natCast] at hk
 refine ⟨by decide, ?_⟩
 unfold stepN at hk
 by_cases c : u % 2 = 1
 ·rw [if_pos c] at hk
  rw [c, show (((1 : Nat) : Int) == 1) = true from rfl, cond_true, show (3988292384 : Int) = ((3988292384 : Nat) : Int) from rfl, u32_xorN _ _ (by omega) (by decide)]
  exact ⟨by decide, hk⟩
 ·rw [if_neg c] at hk
  rw [show ((u % 2 : Nat) : Int) = 0 by omega, show ((0 : Int) == 1) = false from rfl, cond_false]
  exact ⟨by decide, hk⟩
noncomputable def CR0 := base (fun _ => none) (fun g => match g with | 87 => some stp02S | _ => none) (fun _ => none)
theorem env_CR0 : EnvOk CR0 := env_of (by
 intro g F h
 split at h
 ·cases h; exact ok_stp02
 ·cases h) (fun g F h => (by cases h)) (fun g F h => (by cases h))
def rSum02S : SpecS := fun ys Φ => match ys with
 | [.str s] => (s.size < 4611686018427387904) /\ Φ [.int .u32 (crcN s.data.toList)]
 | _ => False
theorem rSum02S_mono : MonoS rSum02S := by
 intro ys Φ Ψ h hF
 unfold rSum02S at hF ⊢
 split at hF
 ·obtain ⟨hp, hk⟩ := hF; exact ⟨hp, h _ hk⟩
 ·exact hF.elim
theorem rSum02S_inv {ys : List PV} {Φ : List PV -> Prop} (h : rSum02S ys Φ) : ∃ (s : ByteArray), ys = [.str s] /\ (s.size < 4611686018427387904) /\ Φ [.int .u32 (crcN s.data.toList)] := by
 unfold rSum02S at h
 split at h
 ·exact ⟨_, rfl, h⟩
 ·exact h.elim
theorem fn_rSum02 : FnOk Tryz.prog 32 Tryz.f32 (bodyOf Tryz.f32) := ⟨by kernel_rfl, by kernel_rfl, by kernel_rfl⟩
noncomputable def ff_rSum02 : Fun := ⟨Tryz.f32.ntmps, 0, Tryz.f32.results.toList, fun i => match i with | 7 => some [0, 3, 4, 5] | 3 => some [0, 3, 4] | _ => none, fun _ => false, fun _ => []⟩
theorem nf_rSum02_a (A : KA Kd) (k : List PV -> Heap Kd -> Prop) (s : ByteArray) : evT CR0 ff_rSum02 A k 400 false [.code (bodyOf Tryz.f32)] (startEnv 26 [.str s]) [] = (A (td Tryz.f32 3) (envAt 26 [(0, .str s), (3, .int .u32 4294967295), (4, .int .i64 0)]) []) := by kernel_rfl
theorem nf_rSum02_b (A : KA Kd) (k : List PV -> Heap Kd -> Prop) (s : ByteArray) (v i : Int) : evT CR0 ff_rSum02 A k 400 true (td Tryz.f32 3) (envAt 26 [(0, .str s), (3, .int .u32 v), (4, .int .i64 i)]) [] = (bif decide (i < (↑s.size : Int)) then (0 <= i /\ i < (↑s.size : Int)) /\ ∀ (b : UInt8), s[i.toNat]? = some b -> A (td Tryz.f32 7) (envAt 26 [(0, .str s), (3, .int .u32 (bits BinOp.xor IntKind.u32 v (IntKind.u32.wrap (↑b.toNat : Int)))), (4, .int .i64 i), (5, .int .i64 0)]) []
else k [PV.int IntKind.u32 (IntKind.u32.wrap ((4294967295 : Int) - v))] []) := by kernel_rfl
theorem nf_rSum02_c (A : KA Kd) (k : List PV -> Heap Kd -> Prop) (s : ByteArray) (v i j : Int) : evT CR0 ff_rSum02 A k 400 true (td Tryz.f32 7) (envAt 26 [(0, .str s), (3, .int .u32 v), (4, .int .i64 i), (5, .int .i64 j)]) [] = (bif decide (j < 8) then (0 <= v /\ v < 4294967296) /\ A (td Tryz.f32 7) (envAt 26 [(0, .str s), (3, .int .u32 (↑(stepN v.toNat) : Int)), (4, .int .i64 i), (5, .int .i64 (IntKind.i64.wrap (j + 1)))]) []
else A (td Tryz.f32 (3 : Nat)) (envAt (26 : Nat) [((0 : Nat), PV.str s), ((3 : Nat), PV.int IntKind.u32 v), ((4 : Nat), PV.int IntKind.i64 (IntKind.i64.wrap (i + (1 : Int))))]) []) := by kernel_rfl
theorem ok_rSum02 : FunS B 32 rSum02S := by
 refine funS_of (N := 26) (f := ff_rSum02) env_CR0 mixed fn_rSum02 (by kernel_rfl) (by kernel_rfl) (by kernel_rfl) rSum02S_mono ?_
 intro A k ys hA hF
 obtain ⟨s, rfl, hs, hk⟩ := rSum02S_inv hF; clear hF
 refine ⟨by kernel_rfl, (hA.nf (nf_rSum02_a A k s) ?_)⟩
 have inner : ∀ (m j i u : Nat), m + j = 8 -> u < 4294967296 -> i < s.size ->
  A (td Tryz.f32 3) (envAt 26 [(0, .str s), (3, .int .u32 ((stepIt m u : Nat) : Int)), (4, .int .i64 ((i + 1 : Nat) : Int))]) [] ->
  A (td Tryz.f32 7) (envAt 26 [(0, .str s), (3, .int .u32 (u : Int)), (4, .int .i64 (i : Int)), (5, .int .i64 (j : Int))]) [] := by
  intro m
  induction m with
  | zero =>
   intro j i u hj hu hi h
   refine (hA.nf (nf_rSum02_c A k s _ _ _) ?_)
   rw [decide_eq_false (by omega : ¬ (j : Int) < 8), cond_false, wrap_succ (by omega)]
   exact h
  | succ m ih =>
   intro j i u hj hu hi h
   refine (hA.nf (nf_rSum02_c A k s _ _ _) ?_)
   rw [decide_eq_true (by omega : (j : Int) < 8), cond_true, wrap_succ (by omega), Int.toNat_natCast]
   exact ⟨⟨by omega, by omega⟩, ih (j + 1) i (stepN u) (by omega) (stepN_lt hu) hi h⟩
 have hz : s.data.toList.length = s.size := rfl
 have key := down_loop s.data.toList (fun i => ∀ u : Nat, u < 4294967296 -> k [.int .u32 ((4294967295 - crcV u (s.data.toList.drop i) : Nat) : Int)] [] ->
  A (td Tryz.f32 3) (envAt 26 [(0, .str s), (3, .int .u32 (u : Int)), (4, .int .i64 (i : Int))]) []) ?_ ?_ 0 (Nat.zero_le _)
 ·exact key 4294967295 (by decide) hk
 ·intro u hu hk
  refine (hA.nf (nf_rSum02_b A k s _ _) ?_)
  rw [hz, ilt_false (Nat.lt_irrefl _), cond_false]
  rw [List.drop_length] at hk
  have e : IntKind.u32.wrap ((4294967295 : Int) - (u : Int)) = ((4294967295 - crcV u [] : Nat) : Int) := by
   show _ = ((4294967295 - u : Nat) : Int)
   rw [IntKind.wrap_u32]; omega
  rw [e]; exact hk
 ·intro i b hb ih u hu hk
  have hlt := lt_of_get hb
  rw [hz] at hlt
  refine (hA.nf (nf_rSum02_b A k s _ _) ?_)
  rw [ilt_true hlt, cond_true]
  refine ⟨⟨by omega, by omega⟩, fun c hc => ?_⟩
  rw [Int.toNat_natCast, bget, hb] at hc
  obtain rfl := Option.some.inj hc
  have hb2 := b.toNat_lt
  have e : IntKind.u32.wrap ((b.toNat : Nat) : Int) = ((b.toNat : Nat) : Int) := by rw [IntKind.wrap_u32]; omega
  rw [e, u32_xorN _ _ hu (by omega)]
  refine inner 8 0 i _ rfl (Nat.xor_lt_two_pow (n := 32) hu (by omega)) hlt (ih _ (upd_lt hu b) ?_)
  rw [drop_cons' hb] at hk
  exact hk
end Go.Ab.T
