import Derived.Test.YtjopocnnngbpiaaDoorDigits
import Derived.Test.YtjopocnnngbpiaaDoorFault
import Derived.Test.YtjopocnnngbpiaaDoorAs2
import Derived.Test.YtjopocnnngbpiaaDoorFmtU
import Derived.Test.YtjopocnnngbpiaaDoorMaB
set_option linter.unusedVariables false
set_option linter.unusedSimpArgs false
set_option linter.unusedSectionVars false
namespace Go.Ab.T
open Go Go.Ab Go.Proofs
variable [EV]
set_option maxRecDepth 100000
set_option maxHeartbeats 4000000
instance : DMode := ⟨false⟩
theorem val_int {Z : Nat → Prop} {w : World} {v : Value} {kd : IntKind} {n : Int} (h : RepF I Z w (.int kd n) v.cells.toList ∧ isAggV v = (PV.int kd n).isAgg) : v = .int kd n := by
  obtain ⟨h1, h2⟩ := h
  cases v <;> simp [RepF, Value.cells] at h1 <;> first | exact (by obtain ⟨rfl, rfl⟩ := h1; rfl) | (cases h2)
theorem val_str {Z : Nat → Prop} {w : World} {v : Value} {s : ByteArray} (h : RepF I Z w (.str s) v.cells.toList ∧ isAggV v = (PV.str s).isAgg) : v = .string s := by
  obtain ⟨h1, h2⟩ := h
  cases v <;> simp [RepF, Value.cells] at h1 <;> first | exact (by subst h1; rfl) | (cases h2)
theorem at_tab {Z : Nat → Prop} {w : World} (hg : GlobOk B Z w) : Lib.TabIs Tryd.prog w "internal/strconv.uint64pow10" .u64 Lib.pow10Tab :=
  tabIs_of (zs := Lib.pow10Tab) (show Tryd.prog.globalNamed "internal/strconv.uint64pow10" = some 1 by kernel_rfl) (hg _ _ rfl)
def itoaS : SpecS := fun ys Φ => match ys with
  | [.int .i64 n] => (-9223372036854775808 ≤ n ∧ n ≤ 9223372036854775807) ∧ Φ [.str (dB n)]
  | _ => False
theorem itoaS_mono : MonoS itoaS := by
  intro ys Φ Ψ h hF
  unfold itoaS at hF ⊢
  split at hF
  · obtain ⟨hp, hk⟩ := hF; exact ⟨hp, h _ hk⟩
  · exact hF.elim
theorem itoaS_inv {ys : List PV} {Φ : List PV → Prop} (h : itoaS ys Φ) : ∃ (n : Int), ys = [.int .i64 n] ∧ (-9223372036854775808 ≤ n ∧ n ≤ 9223372036854775807) ∧ Φ [.str (dB n)] := by
  unfold itoaS at h
  split at h
  · exact ⟨_, rfl, h⟩
  · exact h.elim
theorem fn_itoa : FnOk Tryd.prog 11 Tryd.f11 (bodyOf Tryd.f11) := ⟨by kernel_rfl, by kernel_rfl, by kernel_rfl⟩
noncomputable def ff_itoa : Fun := ⟨Tryd.f11.ntmps, 0, Tryd.f11.results.toList, fun _ => none, fun _ => false, fun _ => []⟩
theorem ok_itoa : FunS B 11 itoaS := by
  refine funS_ofCalls fn_itoa ?_
  intro Z ys Φ hF w vs hZ hg hv
  obtain ⟨n, rfl, ⟨h0, h1⟩, hk⟩ := itoaS_inv hF; clear hF
  obtain ⟨v, r, rfl, hv1, hv2⟩ := hv
  simp only [RepFs] at hv2; subst hv2
  have := val_int hv1
  subst this
  refine (Tryd.strconv_Itoa n h0 h1 w (at_tab hg)).mono ?_
  rintro e w' ⟨rfl, q, os, rfl⟩
  exact ⟨_, _, rfl, hk, .inr ⟨rfl, rfl⟩, More.grows _ _ _⟩
def ifmtS : SpecS := fun ys Φ => match ys with
  | [.int .u64 n, .int .i64 10] => (0 ≤ n ∧ n < 18446744073709551616) ∧ Φ [.str (dB n)]
  | _ => False
theorem ifmtS_mono : MonoS ifmtS := by
  intro ys Φ Ψ h hF
  unfold ifmtS at hF ⊢
  split at hF
  · obtain ⟨hp, hk⟩ := hF; exact ⟨hp, h _ hk⟩
  · exact hF.elim
theorem ifmtS_inv {ys : List PV} {Φ : List PV → Prop} (h : ifmtS ys Φ) : ∃ (n : Int), ys = [.int .u64 n, .int .i64 10] ∧ (0 ≤ n ∧ n < 18446744073709551616) ∧ Φ [.str (dB n)] := by
  unfold ifmtS at h
  split at h
  · exact ⟨_, rfl, h⟩
  · exact h.elim
theorem fn_ifmt : FnOk Tryd.prog 22 Tryd.f22 (bodyOf Tryd.f22) := ⟨by kernel_rfl, by kernel_rfl, by kernel_rfl⟩
noncomputable def ff_ifmt : Fun := ⟨Tryd.f22.ntmps, 0, Tryd.f22.results.toList, fun _ => none, fun _ => false, fun _ => []⟩
theorem ok_ifmt : FunS B 22 ifmtS := by
  refine funS_ofCalls fn_ifmt ?_
  intro Z ys Φ hF w vs hZ hg hv
  obtain ⟨n, rfl, ⟨h0, h1⟩, hk⟩ := ifmtS_inv hF; clear hF
  obtain ⟨v, r, rfl, hv1, u, r', rfl, hu1, hv2⟩ := hv
  simp only [RepFs] at hv2; subst hv2
  have := val_int hv1
  subst this
  have := val_int hu1
  subst this
  obtain ⟨m, rfl⟩ : ∃ m : Nat, n = (m : Int) := ⟨n.toNat, by omega⟩
  refine (fmtU_calls m (by omega) w (at_tab hg)).mono ?_
  rintro e w' ⟨rfl, q, os, rfl⟩
  refine ⟨_, _, rfl, hk, .inr ⟨rfl, ?_⟩, More.grows _ _ _⟩
  show [Value.string _] = [Value.string _]
  unfold dB
  rw [Lib.itoa_nonneg]
noncomputable def ST0 := base (fun g => match g with | 44 => some (lift 0 namesF) | _ => none) (fun g => match g with | 29 => some diS | 17 => some diS | 25 => some nameS | 13 => some newS | 8 => some ofS | 11 => some itoaS | 22 => some ifmtS | _ => none) (fun _ => none)
theorem env_ST0 : EnvOk ST0 := env_of (by
    intro g F h
    split at h
    · cases h; exact ok_dig
    · cases h; exact ok_digsF
    · cases h; exact ok_Name
    · cases h; exact ok_New
    · cases h; exact of_ok
    · cases h; exact ok_itoa
    · cases h; exact ok_ifmt
    · cases h) (by
    intro g F h
    split at h
    · cases h; exact (lift_ok ok_names)
    · cases h) (fun g F h => (by cases h))
theorem fn_fmtF : FnOk Tryd.prog 10 Tryd.f10 (bodyOf Tryd.f10) := ⟨by kernel_rfl, by kernel_rfl, by kernel_rfl⟩
noncomputable def ff_fmtF : Fun := ⟨Tryd.f10.ntmps, 0, Tryd.f10.results.toList, fun _ => none, fun _ => false, fun _ => []⟩
theorem nf_fmtF (A : KA Kd) (k : List PV → Heap Kd → Prop) (n : Int) : evT ST0 ff_fmtF A k 400 false [.code (bodyOf Tryd.f10)] (startEnv 8 [.int .u64 n, .int .i64 10]) [] = (((0 : Int) ≤ n ∧ n < (18446744073709551616 : Int)) ∧ k [PV.str (dB n)] []) := by kernel_rfl
theorem ok_fmtF : FunS B 10 ifmtS := by
  refine funS_of (N := 8) (f := ff_fmtF) env_ST0 mixed fn_fmtF (by kernel_rfl) (by kernel_rfl) (by kernel_rfl) ifmtS_mono ?_
  intro A k ys hA hF
  obtain ⟨n, rfl, h, hk⟩ := ifmtS_inv hF; clear hF
  exact ⟨by kernel_rfl, (hA.nf (nf_fmtF A k n) ⟨h, hk⟩)⟩
def join3S : SpecS := fun ys Φ => match ys with
  | [x_0, .str sep] => ∃ (l : List ByteArray), x_0 = .sl _ e_string l ∧ (l ≠ [] ∧ (Lib.join (l.map (·.data.toList)) sep.data.toList).length ≤ 140737488355328 ∧ l.length ≤ 140737488355328) ∧ Φ [.str ⟨(Lib.join (l.map (·.data.toList)) sep.data.toList).toArray⟩]
  | _ => False
theorem join3S_mono : MonoS join3S := by
  intro ys Φ Ψ h hF
  unfold join3S at hF ⊢
  split at hF
  · obtain ⟨a0, q0, hp, hk⟩ := hF; exact ⟨a0, q0, hp, h _ hk⟩
  · exact hF.elim
theorem join3S_inv {ys : List PV} {Φ : List PV → Prop} (h : join3S ys Φ) : ∃ (l : List ByteArray) (sep : ByteArray), ys = [.sl _ e_string l, .str sep] ∧ (l ≠ [] ∧ (Lib.join (l.map (·.data.toList)) sep.data.toList).length ≤ 140737488355328 ∧ l.length ≤ 140737488355328) ∧ Φ [.str ⟨(Lib.join (l.map (·.data.toList)) sep.data.toList).toArray⟩] := by
  unfold join3S at h
  split at h
  · obtain ⟨a0, q0, hz⟩ := h
    subst q0
    exact ⟨a0, _, rfl, hz⟩
  · exact h.elim
theorem fn_join3 : FnOk Tryd.prog 9 Tryd.f9 (bodyOf Tryd.f9) := ⟨by kernel_rfl, by kernel_rfl, by kernel_rfl⟩
noncomputable def ff_join3 : Fun := ⟨Tryd.f9.ntmps, 0, Tryd.f9.results.toList, fun i => match i with | 22 => some [1, 8, 63, 64, 65] | 12 => some [0, 1, 5, 39, 40, 41] | _ => none, fun _ => false, fun _ => []⟩
theorem ok_join3 : FunS B 9 join3S := by
  refine funS_ofCalls fn_join3 ?_
  intro Z ys Φ hF w vs hZ hg hv
  obtain ⟨l, sep, rfl, ⟨h1, h2, h3⟩, hk⟩ := join3S_inv hF; clear hF
  obtain ⟨v, r, rfl, ⟨hv1, hv1'⟩, u, r', rfl, hu1, hv2⟩ := hv
  simp only [RepFs] at hv2; subst hv2
  have := val_str hu1
  subst this
  obtain ⟨b, off, cap, rfl, hc, hb, hcell⟩ := strs_cells h1 hv1 hv1'
  refine (Tryd.strings_Join b off cap l sep w hcell hb h3 hc h2).mono ?_
  rintro e w' ⟨rfl, hbel⟩
  exact ⟨_, _, rfl, hk, .inr ⟨rfl, rfl⟩, More.below rfl hbel (Nat.le_refl _)⟩
def gspS : SpecS := fun ys Φ => match ys with
  | [.str s, .str p, .int .i64 a, .int .i64 b] => (p = ⟨#[32]⟩ ∧ a = 0 ∧ b = -1 ∧ s.size < 100000) ∧ Φ [.sl ByteArray e_string (words s)]
  | _ => False
theorem gspS_mono : MonoS gspS := by
  intro ys Φ Ψ h hF
  unfold gspS at hF ⊢
  split at hF
  · obtain ⟨hp, hk⟩ := hF; exact ⟨hp, h _ hk⟩
  · exact hF.elim
theorem gspS_inv {ys : List PV} {Φ : List PV → Prop} (h : gspS ys Φ) : ∃ (s : ByteArray) (p : ByteArray) (a : Int) (b : Int), ys = [.str s, .str p, .int .i64 a, .int .i64 b] ∧ (p = ⟨#[32]⟩ ∧ a = 0 ∧ b = -1 ∧ s.size < 100000) ∧ Φ [.sl ByteArray e_string (words s)] := by
  unfold gspS at h
  split at h
  · exact ⟨_, _, _, _, rfl, h⟩
  · exact h.elim
theorem fn_gsp : FnOk Tryd.prog 24 Tryd.f24 (bodyOf Tryd.f24) := ⟨by kernel_rfl, by kernel_rfl, by kernel_rfl⟩
noncomputable def ff_gsp : Fun := ⟨Tryd.f24.ntmps, 0, Tryd.f24.results.toList, fun i => match i with | 11 => some [0, 1, 2, 3, 9, 10] | _ => none, fun _ => false, fun _ => []⟩
theorem ok_gsp : FunS B 24 gspS := by
  refine funS_ofCalls fn_gsp ?_
  intro Z ys Φ hF w vs hZ hg hv
  obtain ⟨s, p, a, b, rfl, ⟨rfl, rfl, rfl, hs⟩, hk⟩ := gspS_inv hF; clear hF
  obtain ⟨v1, r1, rfl, hv1, v2, r2, rfl, hv2, v3, r3, rfl, hv3, v4, r4, rfl, hv4, hv5⟩ := hv
  simp only [RepFs] at hv5; subst hv5
  have := val_str hv1
  subst this
  have := val_str hv2
  subst this
  have := val_int hv3
  subst this
  have := val_int hv4
  subst this
  have hle := Lib.countB_le sp32 (by decide) s.size s (Nat.le_refl _)
  have hc := Any.strings_genSplit_core Tryd.lays221 (by kernel_rfl) s sp32 0 (-1) (Lib.countB s sp32 + 1) w (by omega) (by decide) (Nat.zero_le _)
    (fun x c _ => (Tryd.strings_Index_one x 32 _).mono fun e w' h => ⟨by rw [h.1]; show _ = Ending.returned (Value.int .i64 (Lib.index x.data.toList [32])); rw [Lib.index_one], h.2⟩)
    ((Tryd.strings_Count_one s 32 w).mono fun e w' h => ⟨by rw [h.1]; show _ = Ending.returned (Value.int .i64 ((Lib.count s.data.toList [32] : Nat) : Int)); rw [Lib.count_one]; rfl, h.2⟩)
    (by decide) (by decide) (by rw [if_pos (by decide)]; omega)
  refine hc.mono ?_
  rintro e w' ⟨rfl, rfl⟩
  have e1 : Lib.splitB sp32 0 (Lib.countB s sp32 + 1 - 1) s = words s := by rw [Nat.add_sub_cancel]; rfl
  have hl := words_len s
  have e2 : Lib.cellsOf (words s) (Lib.countB s sp32 + 1) = ((words s).map Value.string).toArray := by rw [← hl]; exact Lib.cellsOf_full _
  rw [e1, e2]
  refine ⟨_, _, rfl, hk, .inr ⟨rfl, Rep.ofF _ _ ?_⟩, More.alloc w _⟩
  refine ⟨some ⟨w.heap.size, 0, none⟩, Lib.countB s sp32 + 1, rfl, by omega, .inr ⟨w.heap.size, 0, 1, _, _, _, rfl, by decide, ?_, heap_new w _ _ rfl, ?_⟩⟩
  · rintro (⟨o, x, h1, _⟩ | h)
    · simp at h1
    · exact absurd (hZ _ h) (Nat.lt_irrefl _)
  · intro i x hx
    refine ⟨[.string x], rfl, rfl, fun j v hj => ?_⟩
    rcases j with _ | j
    · have hj : Value.string x = v := Option.some.inj hj
      subst hj
      simp [hx]
    · simp at hj
noncomputable def ST1 := base (fun g => match g with | 44 => some (lift 0 namesF) | _ => none) (fun g => match g with | 29 => some diS | 17 => some diS | 25 => some nameS | 13 => some newS | 8 => some ofS | 11 => some itoaS | 22 => some ifmtS | 10 => some ifmtS | 9 => some join3S | 24 => some gspS | _ => none) (fun _ => none)
theorem env_ST1 : EnvOk ST1 := env_of (by
    intro g F h
    split at h
    · cases h; exact ok_dig
    · cases h; exact ok_digsF
    · cases h; exact ok_Name
    · cases h; exact ok_New
    · cases h; exact of_ok
    · cases h; exact ok_itoa
    · cases h; exact ok_ifmt
    · cases h; exact ok_fmtF
    · cases h; exact ok_join3
    · cases h; exact ok_gsp
    · cases h) (by
    intro g F h
    split at h
    · cases h; exact (lift_ok ok_names)
    · cases h) (fun g F h => (by cases h))
def splS : SpecS := fun ys Φ => match ys with
  | [.str s, .str p] => (p = ⟨#[32]⟩ ∧ s.size < 100000) ∧ Φ [.sl ByteArray e_string (words s)]
  | _ => False
theorem splS_mono : MonoS splS := by
  intro ys Φ Ψ h hF
  unfold splS at hF ⊢
  split at hF
  · obtain ⟨hp, hk⟩ := hF; exact ⟨hp, h _ hk⟩
  · exact hF.elim
theorem splS_inv {ys : List PV} {Φ : List PV → Prop} (h : splS ys Φ) : ∃ (s : ByteArray) (p : ByteArray), ys = [.str s, .str p] ∧ (p = ⟨#[32]⟩ ∧ s.size < 100000) ∧ Φ [.sl ByteArray e_string (words s)] := by
  unfold splS at h
  split at h
  · exact ⟨_, _, rfl, h⟩
  · exact h.elim
theorem fn_spl : FnOk Tryd.prog 12 Tryd.f12 (bodyOf Tryd.f12) := ⟨by kernel_rfl, by kernel_rfl, by kernel_rfl⟩
noncomputable def ff_spl : Fun := ⟨Tryd.f12.ntmps, 0, Tryd.f12.results.toList, fun _ => none, fun _ => false, fun _ => []⟩
theorem nf_spl (A : KA Kd) (k : List PV → Heap Kd → Prop) (s p : ByteArray) : evT ST1 ff_spl A k 400 false [.code (bodyOf Tryd.f12)] (startEnv 8 [.str s, .str p]) [] = ((p = ByteArray.mk #[(32 : UInt8)] ∧ (0 : Int) = (0 : Int) ∧ (-1 : Int) = (-1 : Int) ∧ s.size < (100000 : Nat)) ∧ k [PV.sl ByteArray e_string (words s)] []) := by kernel_rfl
theorem ok_spl : FunS B 12 splS := by
  refine funS_of (N := 8) (f := ff_spl) env_ST1 mixed fn_spl (by kernel_rfl) (by kernel_rfl) (by kernel_rfl) splS_mono ?_
  intro A k ys hA hF
  obtain ⟨s, p, rfl, ⟨rfl, h⟩, hk⟩ := splS_inv hF; clear hF
  exact ⟨by kernel_rfl, (hA.nf (nf_spl A k s _) ⟨⟨rfl, rfl, rfl, h⟩, hk⟩)⟩
def puS : SpecS := fun ys Φ => match ys with
  | [.str s, .int .i64 b, .int .i64 z] => (b = 10 ∧ z = 64 ∧ s.size < 100000) ∧ (∀ u : Nat, Lib.parseUintB 64 s.data.toList = .ok u → Φ [.int .u64 (u : Int), .err .nil]) ∧ ((∀ u : Nat, Lib.parseUintB 64 s.data.toList ≠ .ok u) → ∀ v : Int, Φ [.int .u64 v, .iface 92 .junk])
  | _ => False
theorem err_rep {G : Sig} {L : Heap Kd} {η : Eta} {w : World} {kd : IntKind} {v : Int} {N : Nat} : RepV G L η w (retPV [.int kd v, .iface 92 .junk]) (.tuple #[.int kd v, .iface 92 (.pointer (some ⟨N, 0, none⟩))]) :=
  .inr ⟨rfl, _, rfl, _, _, rfl, .inl rfl, rfl, _, _, rfl, .inl rfl, ⟨_, rfl, rfl, trivial⟩, rfl⟩
theorem nil_rep {G : Sig} {L : Heap Kd} {η : Eta} {w : World} {kd : IntKind} {v : Int} : RepV G L η w (retPV [.int kd v, .err .nil]) (.tuple #[.int kd v, .nilIface]) :=
  .inr ⟨rfl, _, rfl, _, _, rfl, .inl rfl, rfl, _, _, rfl, .inl rfl, ⟨_, rfl, rfl⟩, rfl⟩
theorem fn_pu : FnOk Tryd.prog 14 Tryd.f14 (bodyOf Tryd.f14) := ⟨by kernel_rfl, by kernel_rfl, by kernel_rfl⟩
noncomputable def ff_pu : Fun := ⟨Tryd.f14.ntmps, 0, Tryd.f14.results.toList, fun _ => none, fun _ => false, fun _ => []⟩
theorem ok_pu : FunS B 14 puS := by
  refine funS_ofCalls fn_pu ?_
  intro Z ys Φ hF w vs hZ hg hv
  unfold puS at hF
  split at hF
  · rename_i s b z
    obtain ⟨⟨rfl, rfl, hs⟩, hk1, hk2⟩ := hF
    obtain ⟨v1, r1, rfl, hv1, v2, r2, rfl, hv2, v3, r3, rfl, hv3, hv5⟩ := hv
    simp only [RepFs] at hv5; subst hv5
    have := val_str hv1
    subst this
    have := val_int hv2
    subst this
    have := val_int hv3
    subst this
    rcases h : Lib.parseUintB 64 s.data.toList with u | _ | _
    ·
      refine (Tryd.strconv_ParseUint_10_at64_ok s (by omega) u h w).mono ?_
      rintro e w' ⟨rfl, hw⟩
      refine ⟨_, _, rfl, hk1 u h, nil_rep, ?_⟩
      rcases hw with rfl | rfl
      · exact More.refl _
      · exact More.below rfl (Lib.bytesWorld_below _ _ _) (Nat.le_refl _)
    ·
      refine (Tryd.strconv_ParseUint_10_at64_syntax s (by omega) h EV.s w (raw_cell (hg _ _ rfl)) (.inr EV.hs)).mono ?_
      rintro e w' ⟨N, rfl, _, _, hb⟩
      exact ⟨_, _, rfl, hk2 (by rw [h]; intro u e; cases e) _, err_rep, More.below rfl hb (Nat.le_refl _)⟩
    ·
      refine (Tryd.strconv_ParseUint_10_at64_range s (by omega) h EV.r w (raw_cell (hg _ _ rfl)) (.inr EV.hr)).mono ?_
      rintro e w' ⟨N, rfl, _, _, hb⟩
      exact ⟨_, _, rfl, hk2 (by rw [h]; intro u e; cases e) _, err_rep, More.below rfl hb (Nat.le_refl _)⟩
  · exact hF.elim
def aiS : SpecS := fun ys Φ => match ys with
  | [.str s] => s.size < 100000 ∧ (∀ u : Int, Lib.atoiAll s.data.toList = .ok u → Φ [.int .i64 u, .err .nil]) ∧ ((∀ u : Int, Lib.atoiAll s.data.toList ≠ .ok u) → ∀ v : Int, Φ [.int .i64 v, .iface 92 .junk])
  | _ => False
theorem fn_ai : FnOk Tryd.prog 15 Tryd.f15 (bodyOf Tryd.f15) := ⟨by kernel_rfl, by kernel_rfl, by kernel_rfl⟩
noncomputable def ff_ai : Fun := ⟨Tryd.f15.ntmps, 0, Tryd.f15.results.toList, fun _ => none, fun _ => false, fun _ => []⟩
theorem ok_ai : FunS B 15 aiS := by
  refine funS_ofCalls fn_ai ?_
  intro Z ys Φ hF w vs hZ hg hv
  unfold aiS at hF
  split at hF
  · rename_i s
    obtain ⟨hs, hk1, hk2⟩ := hF
    obtain ⟨v1, r1, rfl, hv1, hv5⟩ := hv
    simp only [RepFs] at hv5; subst hv5
    have := val_str hv1
    subst this
    rcases h : Lib.atoiAll s.data.toList with u | _ | _
    ·
      refine (Tryd.strconv_Atoi_ok s (by omega) u h w).mono ?_
      rintro e w' ⟨rfl, hw⟩
      refine ⟨_, _, rfl, hk1 u h, nil_rep, ?_⟩
      rcases hw with rfl | ⟨t, rfl⟩
      · exact More.refl _
      · exact More.below rfl (Lib.bytesWorld_below _ _ _) (Nat.le_refl _)
    ·
      refine (Tryd.strconv_Atoi_syntax s (by omega) h EV.s w (raw_cell (hg _ _ rfl)) (.inr EV.hs)).mono ?_
      rintro e w' ⟨N, rfl, _, _, hb⟩
      exact ⟨_, _, rfl, hk2 (by rw [h]; intro u e; cases e) _, err_rep, More.below rfl hb (Nat.le_refl _)⟩
    ·
      refine (Tryd.strconv_Atoi_range s (by omega) h EV.r w (raw_cell (hg _ _ rfl)) (.inr EV.hr)).mono ?_
      rintro e w' ⟨N, rfl, _, _, hb⟩
      exact ⟨_, _, rfl, hk2 (by rw [h]; intro u e; cases e) _, err_rep, More.below rfl hb (Nat.le_refl _)⟩
  · exact hF.elim
noncomputable def ST2 := base (fun g => match g with | 44 => some (lift 0 namesF) | _ => none) (fun g => match g with | 29 => some diS | 17 => some diS | 25 => some nameS | 13 => some newS | 8 => some ofS | 11 => some itoaS | 22 => some ifmtS | 10 => some ifmtS | 9 => some join3S | 24 => some gspS | 12 => some splS | 14 => some puS | 15 => some aiS | _ => none) (fun _ => none)
theorem env_ST2 : EnvOk ST2 := env_of (by
    intro g F h
    split at h
    · cases h; exact ok_dig
    · cases h; exact ok_digsF
    · cases h; exact ok_Name
    · cases h; exact ok_New
    · cases h; exact of_ok
    · cases h; exact ok_itoa
    · cases h; exact ok_ifmt
    · cases h; exact ok_fmtF
    · cases h; exact ok_join3
    · cases h; exact ok_gsp
    · cases h; exact ok_spl
    · cases h; exact ok_pu
    · cases h; exact ok_ai
    · cases h) (by
    intro g F h
    split at h
    · cases h; exact (lift_ok ok_names)
    · cases h) (fun g F h => (by cases h))
def stxS : SpecS := fun ys Φ => match ys with
  | [x_0] => ∃ (l : Int), ∃ (c : Int), ∃ (n : Int), x_0 = .agg [.int .u64 l, .int .i64 c, .int .i64 n] ∧ ((0 ≤ l ∧ l < 18446744073709551616) ∧ (-9223372036854775808 ≤ c ∧ c ≤ 9223372036854775807) ∧ (-9223372036854775808 ≤ n ∧ n ≤ 9223372036854775807)) ∧ Φ [.str (stT l c n)]
  | _ => False
theorem stxS_mono : MonoS stxS := by
  intro ys Φ Ψ h hF
  unfold stxS at hF ⊢
  split at hF
  · obtain ⟨a0, a1, a2, q0, hp, hk⟩ := hF; exact ⟨a0, a1, a2, q0, hp, h _ hk⟩
  · exact hF.elim
theorem stxS_inv {ys : List PV} {Φ : List PV → Prop} (h : stxS ys Φ) : ∃ (l : Int) (c : Int) (n : Int), ys = [.agg [.int .u64 l, .int .i64 c, .int .i64 n]] ∧ ((0 ≤ l ∧ l < 18446744073709551616) ∧ (-9223372036854775808 ≤ c ∧ c ≤ 9223372036854775807) ∧ (-9223372036854775808 ≤ n ∧ n ≤ 9223372036854775807)) ∧ Φ [.str (stT l c n)] := by
  unfold stxS at h
  split at h
  · obtain ⟨a0, a1, a2, q0, hz⟩ := h
    subst q0
    exact ⟨a0, a1, a2, rfl, hz⟩
  · exact h.elim
theorem fn_stx : FnOk Tryd.prog 5 Tryd.f5 (bodyOf Tryd.f5) := ⟨by kernel_rfl, by kernel_rfl, by kernel_rfl⟩
noncomputable def ff_stx : Fun := ⟨Tryd.f5.ntmps, 0, Tryd.f5.results.toList, fun _ => none, fun _ => false, fun _ => []⟩
theorem nf_stx (A : KA Kd) (k : List PV → Heap Kd → Prop) (l c n : Int) : evT ST2 ff_stx A k 400 false [.code (bodyOf Tryd.f5)] (startEnv 14 [.agg [.int .u64 l, .int .i64 c, .int .i64 n]]) [] = (((0 : Int) ≤ l ∧ l < (18446744073709551616 : Int)) ∧ ((-9223372036854775808 : Int) ≤ c ∧ c ≤ (9223372036854775807 : Int)) ∧ ((-9223372036854775808 : Int) ≤ n ∧ n ≤ (9223372036854775807 : Int)) ∧ ∃ (zs : List ByteArray), List.map e_string zs = [PV.str (ByteArray.mk #[(108 : UInt8), (97 : UInt8), (115 : UInt8), (116 : UInt8)]), PV.str (dB l), PV.str (ByteArray.mk #[(99 : UInt8), (117 : UInt8), (114 : UInt8), (114 : UInt8), (101 : UInt8), (110 : UInt8), (116 : UInt8)]), PV.str (dB c), PV.str (ByteArray.mk #[(110 : UInt8), (101 : UInt8), (120 : UInt8), (116 : UInt8)]), PV.str (dB n)] ∧ ∃ (l : List ByteArray), PV.sl ByteArray e_string zs = PV.sl ByteArray e_string l ∧ (l ≠ [] ∧ (Lib.join (List.map (fun (x : ByteArray) => x.data.toList) l) (ByteArray.mk #[(32 : UInt8)]).data.toList).length ≤ (140737488355328 : Nat) ∧ l.length ≤ (140737488355328 : Nat)) ∧ k [PV.str (ByteArray.mk (Lib.join (List.map (fun (x : ByteArray) => x.data.toList) l) (ByteArray.mk #[(32 : UInt8)]).data.toList).toArray)] []) := by kernel_rfl
theorem dBu_size {n : Int} (h0 : 0 ≤ n) (h1 : n < 18446744073709551616) : (dB n).data.toList.length ≤ 20 := by
  show (Go.Lib.itoa n).length ≤ 20
  unfold Go.Lib.itoa
  rw [if_neg (by omega), Go.Lib.decDigits_length]
  exact nDig_le 19 n.toNat (by have p : (10 : Nat) ^ 20 = 100000000000000000000 := by decide
                               omega)
theorem stT_len {l c n : Int} (hl : 0 ≤ l ∧ l < 18446744073709551616) (hc : -9223372036854775808 ≤ c ∧ c ≤ 9223372036854775807) (hn : -9223372036854775808 ≤ n ∧ n ≤ 9223372036854775807) : (stT l c n).data.toList.length ≤ 100 := by
  have h1 := dBu_size hl.1 hl.2
  have h2 : (dB c).data.toList.length ≤ 20 := dB_size hc.1 hc.2
  have h3 : (dB n).data.toList.length ≤ 20 := dB_size hn.1 hn.2
  rw [stT_list]
  simp only [List.length_append, List.length_cons, List.length_nil]
  omega
theorem ok_stx : FunS B 5 stxS := by
  refine funS_of (N := 14) (f := ff_stx) env_ST2 mixed fn_stx (by kernel_rfl) (by kernel_rfl) (by kernel_rfl) stxS_mono ?_
  intro A k ys hA hF
  obtain ⟨l, c, n, rfl, ⟨hl, hc, hn⟩, hk⟩ := stxS_inv hF; clear hF
  refine ⟨by kernel_rfl, (hA.nf (nf_stx A k l c n) ?_)⟩
  have hj : (⟨(Lib.join ((stWs l c n).map (fun x => x.data.toList)) (ByteArray.mk #[32]).data.toList).toArray⟩ : ByteArray) = stT l c n := join_ws l c n
  have hlen := stT_len hl hc hn
  refine ⟨hl, hc, hn, stWs l c n, rfl, stWs l c n, rfl, ⟨by simp [stWs], ?_, by show 6 ≤ _; decide⟩, ?_⟩
  · rw [← hj] at hlen
    have : (Lib.join ((stWs l c n).map (fun x => x.data.toList)) (ByteArray.mk #[32]).data.toList).length ≤ 100 := by simpa using hlen
    omega
  · rw [hj]; exact hk
noncomputable def ST3 := base (fun g => match g with | 44 => some (lift 0 namesF) | _ => none) (fun g => match g with | 29 => some diS | 17 => some diS | 25 => some nameS | 13 => some newS | 8 => some ofS | 11 => some itoaS | 22 => some ifmtS | 10 => some ifmtS | 9 => some join3S | 24 => some gspS | 12 => some splS | 14 => some puS | 15 => some aiS | 5 => some stxS | _ => none) (fun _ => none)
theorem env_ST3 : EnvOk ST3 := env_of (by
    intro g F h
    split at h
    · cases h; exact ok_dig
    · cases h; exact ok_digsF
    · cases h; exact ok_Name
    · cases h; exact ok_New
    · cases h; exact of_ok
    · cases h; exact ok_itoa
    · cases h; exact ok_ifmt
    · cases h; exact ok_fmtF
    · cases h; exact ok_join3
    · cases h; exact ok_gsp
    · cases h; exact ok_spl
    · cases h; exact ok_pu
    · cases h; exact ok_ai
    · cases h; exact ok_stx
    · cases h) (by
    intro g F h
    split at h
    · cases h; exact (lift_ok ok_names)
    · cases h) (fun g F h => (by cases h))
theorem fn_par : FnOk Tryd.prog 6 Tryd.f6 (bodyOf Tryd.f6) := ⟨by kernel_rfl, by kernel_rfl, by kernel_rfl⟩
noncomputable def ff_par : Fun := ⟨Tryd.f6.ntmps, 0, Tryd.f6.results.toList, fun _ => none, fun _ => false, fun _ => []⟩
theorem nf_par (A : KA Kd) (k : List PV → Heap Kd → Prop) (s : ByteArray) : evT ST3 ff_par A k 400 false [.code (bodyOf Tryd.f6)] (startEnv 63 [.str s]) [] = ((ByteArray.mk #[(32 : UInt8)] = ByteArray.mk #[(32 : UInt8)] ∧ s.size < (100000 : Nat)) ∧ bif (↑(words s).length : Int) != (6 : Int) then k [PV.agg [PV.int IntKind.u64 (0 : Int), PV.int IntKind.i64 (0 : Int), PV.int IntKind.i64 (0 : Int)], PV.err (newE (6 : Int))] [] else ((0 : Int) ≤ (1 : Int) ∧ (1 : Int) < (↑(words s).length : Int)) ∧ ∀ (y : ByteArray), (words s)[Int.toNat (1 : Int)]? = some y → ((10 : Int) = (10 : Int) ∧ (64 : Int) = (64 : Int) ∧ y.size < (100000 : Nat)) ∧ (∀ (u : Nat), Lib.parseUintB (64 : Nat) y.data.toList = Lib.NumEnd.ok u → ((0 : Int) ≤ (3 : Int) ∧ (3 : Int) < (↑(words s).length : Int)) ∧ ∀ (y : ByteArray), (words s)[Int.toNat (3 : Int)]? = some y → y.size < (100000 : Nat) ∧ (∀ (u_1 : Int), Lib.atoiAll y.data.toList = Lib.NumEnd.ok u_1 → ((0 : Int) ≤ (5 : Int) ∧ (5 : Int) < (↑(words s).length : Int)) ∧ ∀ (y : ByteArray), (words s)[Int.toNat (5 : Int)]? = some y → y.size < (100000 : Nat) ∧ (∀ (u_2 : Int), Lib.atoiAll y.data.toList = Lib.NumEnd.ok u_2 → ∃ (l : Int), ∃ (c : Int), ∃ (n : Int), PV.agg [PV.int IntKind.u64 (↑u : Int), PV.int IntKind.i64 u_1, PV.int IntKind.i64 u_2] = PV.agg [PV.int IntKind.u64 l, PV.int IntKind.i64 c, PV.int IntKind.i64 n] ∧ (((0 : Int) ≤ l ∧ l < (18446744073709551616 : Int)) ∧ ((-9223372036854775808 : Int) ≤ c ∧ c ≤ (9223372036854775807 : Int)) ∧ (-9223372036854775808 : Int) ≤ n ∧ n ≤ (9223372036854775807 : Int)) ∧ bif !(stT l c n).toList == s.toList then k [PV.agg [PV.int IntKind.u64 (0 : Int), PV.int IntKind.i64 (0 : Int), PV.int IntKind.i64 (0 : Int)], PV.err (newE (6 : Int))] [] else k [PV.agg [PV.int IntKind.u64 (↑u : Int), PV.int IntKind.i64 u_1, PV.int IntKind.i64 u_2], PV.err Err.nil] []) ∧ ((∀ (u : Int), Lib.atoiAll y.data.toList ≠ Lib.NumEnd.ok u) → ∀ (v : Int), k [PV.agg [PV.int IntKind.u64 (0 : Int), PV.int IntKind.i64 (0 : Int), PV.int IntKind.i64 (0 : Int)], PV.err (newE (6 : Int))] [])) ∧ ((∀ (u : Int), Lib.atoiAll y.data.toList ≠ Lib.NumEnd.ok u) → ∀ (v : Int), ((0 : Int) ≤ (5 : Int) ∧ (5 : Int) < (↑(words s).length : Int)) ∧ ∀ (y : ByteArray), (words s)[Int.toNat (5 : Int)]? = some y → y.size < (100000 : Nat) ∧ (∀ (u : Int), Lib.atoiAll y.data.toList = Lib.NumEnd.ok u → k [PV.agg [PV.int IntKind.u64 (0 : Int), PV.int IntKind.i64 (0 : Int), PV.int IntKind.i64 (0 : Int)], PV.err (newE (6 : Int))] []) ∧ ((∀ (u : Int), Lib.atoiAll y.data.toList ≠ Lib.NumEnd.ok u) → ∀ (v : Int), k [PV.agg [PV.int IntKind.u64 (0 : Int), PV.int IntKind.i64 (0 : Int), PV.int IntKind.i64 (0 : Int)], PV.err (newE (6 : Int))] []))) ∧ ((∀ (u : Nat), Lib.parseUintB (64 : Nat) y.data.toList ≠ Lib.NumEnd.ok u) → ∀ (v : Int), ((0 : Int) ≤ (3 : Int) ∧ (3 : Int) < (↑(words s).length : Int)) ∧ ∀ (y : ByteArray), (words s)[Int.toNat (3 : Int)]? = some y → y.size < (100000 : Nat) ∧ (∀ (u : Int), Lib.atoiAll y.data.toList = Lib.NumEnd.ok u → ((0 : Int) ≤ (5 : Int) ∧ (5 : Int) < (↑(words s).length : Int)) ∧ ∀ (y : ByteArray), (words s)[Int.toNat (5 : Int)]? = some y → y.size < (100000 : Nat) ∧ (∀ (u : Int), Lib.atoiAll y.data.toList = Lib.NumEnd.ok u → k [PV.agg [PV.int IntKind.u64 (0 : Int), PV.int IntKind.i64 (0 : Int), PV.int IntKind.i64 (0 : Int)], PV.err (newE (6 : Int))] []) ∧ ((∀ (u : Int), Lib.atoiAll y.data.toList ≠ Lib.NumEnd.ok u) → ∀ (v : Int), k [PV.agg [PV.int IntKind.u64 (0 : Int), PV.int IntKind.i64 (0 : Int), PV.int IntKind.i64 (0 : Int)], PV.err (newE (6 : Int))] [])) ∧ ((∀ (u : Int), Lib.atoiAll y.data.toList ≠ Lib.NumEnd.ok u) → ∀ (v : Int), ((0 : Int) ≤ (5 : Int) ∧ (5 : Int) < (↑(words s).length : Int)) ∧ ∀ (y : ByteArray), (words s)[Int.toNat (5 : Int)]? = some y → y.size < (100000 : Nat) ∧ (∀ (u : Int), Lib.atoiAll y.data.toList = Lib.NumEnd.ok u → k [PV.agg [PV.int IntKind.u64 (0 : Int), PV.int IntKind.i64 (0 : Int), PV.int IntKind.i64 (0 : Int)], PV.err (newE (6 : Int))] []) ∧ ((∀ (u : Int), Lib.atoiAll y.data.toList ≠ Lib.NumEnd.ok u) → ∀ (v : Int), k [PV.agg [PV.int IntKind.u64 (0 : Int), PV.int IntKind.i64 (0 : Int), PV.int IntKind.i64 (0 : Int)], PV.err (newE (6 : Int))] [])))) := by kernel_rfl
def parS : SpecS := fun ys Φ => match ys with
  | [.str s] => (s.size < 100000) ∧ Φ [.agg [.int .u64 (prL s), .int .i64 (prC s), .int .i64 (prN s)], .err (prE s)]
  | _ => False
theorem parS_mono : MonoS parS := by
  intro ys Φ Ψ h hF
  unfold parS at hF ⊢
  split at hF
  · obtain ⟨hp, hk⟩ := hF; exact ⟨hp, h _ hk⟩
  · exact hF.elim
theorem parS_inv {ys : List PV} {Φ : List PV → Prop} (h : parS ys Φ) : ∃ (s : ByteArray), ys = [.str s] ∧ (s.size < 100000) ∧ Φ [.agg [.int .u64 (prL s), .int .i64 (prC s), .int .i64 (prN s)], .err (prE s)] := by
  unfold parS at h
  split at h
  · exact ⟨_, rfl, h⟩
  · exact h.elim
theorem ok_par : FunS B 6 parS := by
  refine funS_of (N := 63) (f := ff_par) env_ST3 mixed fn_par (by kernel_rfl) (by kernel_rfl) (by kernel_rfl) parS_mono ?_
  intro A k ys hA hF
  obtain ⟨s, rfl, hs, hk⟩ := parS_inv hF; clear hF
  refine ⟨by kernel_rfl, (hA.nf (nf_par A k s) ?_)⟩
  have hn : prs s = none → k [PV.agg [PV.int IntKind.u64 (0 : Int), PV.int IntKind.i64 (0 : Int), PV.int IntKind.i64 (0 : Int)], PV.err (newE (6 : Int))] [] := fun h => by
    unfold prL prC prN prE at hk
    rw [h] at hk
    exact hk
  refine ⟨⟨rfl, hs⟩, ?_⟩
  cases hl : ((words s).length : Int) != 6 with
  | true =>
    refine hn ?_
    unfold prs
    split
    · rename_i h
      rw [h] at hl
      simp at hl
    · rfl
  | false =>
    obtain ⟨w0, a, w2, b, w4, c, hW⟩ : ∃ w0 a w2 b w4 c, words s = [w0, a, w2, b, w4, c] := by
      have hl : (words s).length = 6 := Int.ofNat.inj (by simpa using hl)
      match h : words s, hl with
      | [w0, a, w2, b, w4, c], _ => exact ⟨_, _, _, _, _, _, rfl⟩
    have hz : ∀ x, x ∈ words s → x.size < 100000 := fun x hx => Nat.lt_of_le_of_lt (words_size s x hx) hs
    have za := hz a (by simp [hW])
    have zb := hz b (by simp [hW])
    have zc := hz c (by simp [hW])
    have hp : prs s = (match Lib.parseUintB 64 a.data.toList, Lib.atoiAll b.data.toList, Lib.atoiAll c.data.toList with
      | .ok l, .ok x, .ok y => if stT l x y = s then some ((l : Int), x, y) else none
      | _, _, _ => none) := by unfold prs; rw [hW]; rfl
    have n1 : (∀ u, Lib.parseUintB 64 a.data.toList ≠ .ok u) → prs s = none := fun h => by
      rw [hp]
      rcases q : Lib.parseUintB 64 a.data.toList with u | _ | _
      · exact absurd q (h u)
      · rfl
      · rfl
    have n2 : (∀ u, Lib.atoiAll b.data.toList ≠ .ok u) → prs s = none := fun h => by
      rw [hp]
      rcases q : Lib.atoiAll b.data.toList with u | _ | _
      · exact absurd q (h u)
      · cases Lib.parseUintB 64 a.data.toList <;> rfl
      · cases Lib.parseUintB 64 a.data.toList <;> rfl
    have n3 : (∀ u, Lib.atoiAll c.data.toList ≠ .ok u) → prs s = none := fun h => by
      rw [hp]
      rcases q : Lib.atoiAll c.data.toList with u | _ | _
      · exact absurd q (h u)
      · cases Lib.parseUintB 64 a.data.toList <;> cases Lib.atoiAll b.data.toList <;> rfl
      · cases Lib.parseUintB 64 a.data.toList <;> cases Lib.atoiAll b.data.toList <;> rfl
    rw [cond_false, hW]
    have b1 : (0 : Int) ≤ 1 ∧ (1 : Int) < (([w0, a, w2, b, w4, c] : List ByteArray).length : Int) := ⟨by decide, by show (1 : Int) < 6; decide⟩
    have b3 : (0 : Int) ≤ 3 ∧ (3 : Int) < (([w0, a, w2, b, w4, c] : List ByteArray).length : Int) := ⟨by decide, by show (3 : Int) < 6; decide⟩
    have b5 : (0 : Int) ≤ 5 ∧ (5 : Int) < (([w0, a, w2, b, w4, c] : List ByteArray).length : Int) := ⟨by decide, by show (5 : Int) < 6; decide⟩
    refine ⟨b1, fun y hy => ?_⟩
    obtain rfl : a = y := Option.some.inj hy
    refine ⟨⟨rfl, rfl, za⟩, fun u hu => ⟨b3, fun y hy => ?_⟩, fun h v => ⟨b3, fun y hy => ?_⟩⟩
    · obtain rfl : b = y := Option.some.inj hy
      refine ⟨zb, fun x hx => ⟨b5, fun y hy => ?_⟩, fun h v => ⟨b5, fun y hy => ?_⟩⟩
      · obtain rfl : c = y := Option.some.inj hy
        refine ⟨zc, fun y hy => ?_, fun h v => hn (n3 h)⟩
        have hu' := Lib.parseUintB_le hu
        have p : (2 : Nat) ^ 64 - 1 = 18446744073709551615 := by decide
        rw [p] at hu'
        refine ⟨u, x, y, rfl, ⟨⟨by omega, by omega⟩, Lib.atoiAll_bounds hx, Lib.atoiAll_bounds hy⟩, ?_⟩
        rw [str_eq]
        rw [hu, hx, hy] at hp
        by_cases e : stT u x y = s
        · rw [decide_eq_true e, Bool.not_true, cond_false]
          have hp : prs s = some ((u : Int), x, y) := by rw [hp]; simp only [if_pos e]
          unfold prL prC prN prE at hk
          rw [hp] at hk
          exact hk
        · rw [decide_eq_false e, Bool.not_false, cond_true]
          exact hn (by rw [hp]; simp only [if_neg e])
      · obtain rfl : c = y := Option.some.inj hy
        exact ⟨zc, fun _ _ => hn (n2 h), fun _ _ => hn (n2 h)⟩
    · obtain rfl : b = y := Option.some.inj hy
      refine ⟨zb, fun x hx => ⟨b5, fun y hy => ?_⟩, fun _ v => ⟨b5, fun y hy => ?_⟩⟩
      · obtain rfl : c = y := Option.some.inj hy
        exact ⟨zc, fun _ _ => hn (n1 h), fun _ _ => hn (n1 h)⟩
      · obtain rfl : c = y := Option.some.inj hy
        exact ⟨zc, fun _ _ => hn (n1 h), fun _ _ => hn (n1 h)⟩
def bigS (m : Nat) : SpecS := fun ys Φ => match ys with
  | [.int .u64 n] => ((m ≠ 0 ∧ n.natAbs < 10 ^ m) ∧ 0 ≤ n ∧ n < 18446744073709551616) ∧ Φ [.str (dB n)]
  | _ => False
noncomputable def BG (m : Nat) := base (fun _ => none) (fun g => match g with | 16 => some (bigS m) | _ => none)
theorem bigS_mono (m : Nat) : MonoS (bigS m) := by
  intro ys Φ Ψ h hF
  unfold bigS at hF ⊢
  split at hF
  · exact ⟨hF.1, h _ hF.2⟩
  · exact hF.elim
theorem bigS_inv {m : Nat} {ys : List PV} {Φ : List PV → Prop} (h : bigS m ys Φ) : ∃ n, ys = [.int .u64 n] ∧ ((m ≠ 0 ∧ n.natAbs < 10 ^ m) ∧ 0 ≤ n ∧ n < 18446744073709551616) ∧ Φ [.str (dB n)] := by
  unfold bigS at h
  split at h
  · exact ⟨_, rfl, h⟩
  · exact h.elim
theorem env_BG (m : Nat) (h : FunS B 16 (bigS m)) : EnvOk (BG m) := env_of (by
    intro g F e
    split at e
    · cases e; exact h
    · cases e) (fun g F h => (by cases h)) (fun g F h => (by cases h))
theorem fn_bigF : FnOk Tryd.prog 16 Tryd.f16 (bodyOf Tryd.f16) := ⟨by kernel_rfl, by kernel_rfl, by kernel_rfl⟩
noncomputable def ff_bigF : Fun := ⟨Tryd.f16.ntmps, 0, Tryd.f16.results.toList, fun _ => none, fun _ => false, fun _ => []⟩
theorem nf_bigF (A : KA Kd) (k : List PV → Heap Kd → Prop) (m : Nat) (n : Int) : evT (BG m) ff_bigF A k 400 false [.code (bodyOf Tryd.f16)] (startEnv 22 [.int .u64 n]) [] = (bif decide (n < (10 : Int)) then ((0 : Int) ≤ n ∧ n ≤ IntKind.u64.wrap (n + (1 : Int)) ∧ IntKind.u64.wrap (n + (1 : Int)) ≤ (↑(ByteArray.mk #[(48 : UInt8), (49 : UInt8), (50 : UInt8), (51 : UInt8), (52 : UInt8), (53 : UInt8), (54 : UInt8), (55 : UInt8), (56 : UInt8), (57 : UInt8)]).size : Int)) ∧ k [PV.str ((ByteArray.mk #[(48 : UInt8), (49 : UInt8), (50 : UInt8), (51 : UInt8), (52 : UInt8), (53 : UInt8), (54 : UInt8), (55 : UInt8), (56 : UInt8), (57 : UInt8)]).extract n.toNat (IntKind.u64.wrap (n + (1 : Int))).toNat)] []
else (10 : Int) ≠ (0 : Int) ∧ (10 : Int) ≠ (0 : Int) ∧ (10 : Int) ≠ (0 : Int) ∧ (((m ≠ (0 : Nat) ∧ (IntKind.u64.wrap (n.tdiv (10 : Int))).natAbs < (10 : Nat) ^ m) ∧ (0 : Int) ≤ IntKind.u64.wrap (n.tdiv (10 : Int)) ∧ IntKind.u64.wrap (n.tdiv (10 : Int)) < (18446744073709551616 : Int)) ∧ ((0 : Int) ≤ n.tmod (10 : Int) ∧ n.tmod (10 : Int) ≤ IntKind.u64.wrap (n.tmod (10 : Int) + (1 : Int)) ∧ IntKind.u64.wrap (n.tmod (10 : Int) + (1 : Int)) ≤ (↑(ByteArray.mk #[(48 : UInt8), (49 : UInt8), (50 : UInt8), (51 : UInt8), (52 : UInt8), (53 : UInt8), (54 : UInt8), (55 : UInt8), (56 : UInt8), (57 : UInt8)]).size : Int)) ∧ (dB (IntKind.u64.wrap (n.tdiv (10 : Int)))).size + ((ByteArray.mk #[(48 : UInt8), (49 : UInt8), (50 : UInt8), (51 : UInt8), (52 : UInt8), (53 : UInt8), (54 : UInt8), (55 : UInt8), (56 : UInt8), (57 : UInt8)]).extract (n.tmod (10 : Int)).toNat (IntKind.u64.wrap (n.tmod (10 : Int) + (1 : Int))).toNat).size ≤ (9223372036854775807 : Nat) ∧ k [PV.str (dB (IntKind.u64.wrap (n.tdiv (10 : Int))) ++ (ByteArray.mk #[(48 : UInt8), (49 : UInt8), (50 : UInt8), (51 : UInt8), (52 : UInt8), (53 : UInt8), (54 : UInt8), (55 : UInt8), (56 : UInt8), (57 : UInt8)]).extract (n.tmod (10 : Int)).toNat (IntKind.u64.wrap (n.tmod (10 : Int) + (1 : Int))).toNat)] []) ∧ ((0 : Int) ≤ n.tmod (10 : Int) ∧ n.tmod (10 : Int) ≤ IntKind.u64.wrap (n.tmod (10 : Int) + (1 : Int)) ∧ IntKind.u64.wrap (n.tmod (10 : Int) + (1 : Int)) ≤ (↑(ByteArray.mk #[(48 : UInt8), (49 : UInt8), (50 : UInt8), (51 : UInt8), (52 : UInt8), (53 : UInt8), (54 : UInt8), (55 : UInt8), (56 : UInt8), (57 : UInt8)]).size : Int)) ∧ ((m ≠ (0 : Nat) ∧ (IntKind.u64.wrap (n.tdiv (10 : Int))).natAbs < (10 : Nat) ^ m) ∧ (0 : Int) ≤ IntKind.u64.wrap (n.tdiv (10 : Int)) ∧ IntKind.u64.wrap (n.tdiv (10 : Int)) < (18446744073709551616 : Int)) ∧ (dB (IntKind.u64.wrap (n.tdiv (10 : Int)))).size + ((ByteArray.mk #[(48 : UInt8), (49 : UInt8), (50 : UInt8), (51 : UInt8), (52 : UInt8), (53 : UInt8), (54 : UInt8), (55 : UInt8), (56 : UInt8), (57 : UInt8)]).extract (n.tmod (10 : Int)).toNat (IntKind.u64.wrap (n.tmod (10 : Int) + (1 : Int))).toNat).size ≤ (9223372036854775807 : Nat) ∧ k [PV.str (dB (IntKind.u64.wrap (n.tdiv (10 : Int))) ++ (ByteArray.mk #[(48 : UInt8), (49 : UInt8), (50 : UInt8), (51 : UInt8), (52 : UInt8), (53 : UInt8), (54 : UInt8), (55 : UInt8), (56 : UInt8), (57 : UInt8)]).extract (n.tmod (10 : Int)).toNat (IntKind.u64.wrap (n.tmod (10 : Int) + (1 : Int))).toNat)] []) := by kernel_rfl
theorem ok_bigs : ∀ m, FunS B 16 (bigS m) := by
  intro m
  induction m with
  | zero =>
    intro Z ys Φ hF
    obtain ⟨n, _, ⟨⟨h, _⟩, _⟩, _⟩ := bigS_inv hF
    exact absurd rfl h
  | succ m ih =>
  refine funS_of (N := 22) (f := ff_bigF) (env_BG m ih) mixed fn_bigF (by kernel_rfl) (by kernel_rfl) (by kernel_rfl) (bigS_mono _) ?_
  intro A k ys hA hF
  obtain ⟨n, rfl, ⟨⟨_, hm⟩, h0, h1⟩, hk⟩ := bigS_inv hF; clear hF
  refine ⟨by kernel_rfl, (hA.nf (nf_bigF A k m n) ?_)⟩
  have hdz : (ByteArray.mk #[48, 49, 50, 51, 52, 53, 54, 55, 56, 57]).size = 10 := rfl
  have hD : (ByteArray.mk #[48, 49, 50, 51, 52, 53, 54, 55, 56, 57]) = dgs := rfl
  have ws : ∀ j : Nat, j < 10 → IntKind.u64.wrap ((j : Int) + 1) = ((j + 1 : Nat) : Int) := fun j hj => by rw [u64_id _ (by omega) (by omega)]; omega
  have one : ∀ b : UInt8, (ByteArray.mk #[b]).size = 1 := fun _ => rfl
  have bnd : ∀ j : Nat, j < 10 → (0 : Int) ≤ (j : Int) ∧ (j : Int) ≤ ((j + 1 : Nat) : Int) ∧ ((j + 1 : Nat) : Int) ≤ ((10 : Nat) : Int) := fun j hj => ⟨by omega, by omega, by omega⟩
  have n10 : (10 : Int) ≠ 0 := by decide
  rw [hdz, hD]
  have hp : (10 : Nat) ^ (m + 1) = 10 ^ m * 10 := Nat.pow_succ _ _
  have hm0 : ∀ u : Nat, u < 10 ^ (m + 1) → 10 ≤ u → m ≠ 0 ∧ u / 10 < 10 ^ m := fun u hu h10 => by
    refine ⟨fun e => ?_, by omega⟩
    subst e
    simp at hu; omega
  obtain ⟨u, rfl⟩ : ∃ u : Nat, n = (u : Int) := ⟨n.toNat, by omega⟩
  cases c2 : decide ((u : Int) < 10) with
  | true =>
    rw [decide_eq_true_eq] at c2
    rw [cond_true, ws u (by omega), Int.toNat_natCast, Int.toNat_natCast, dig_at (by omega)]
    rw [dB_small (by omega)] at hk
    exact ⟨bnd u (by omega), hk⟩
  | false =>
    rw [decide_eq_false_iff_not] at c2
    have hu : ¬ u < 10 := by omega
    have hq : IntKind.u64.wrap ((u : Int).tdiv 10) = ((u / 10 : Nat) : Int) := by
      have e : (u : Int).tdiv 10 = ((u / 10 : Nat) : Int) := by rw [Int.tdiv_eq_ediv_of_nonneg (by omega)]; omega
      rw [e, u64_id _ (by omega) (by omega)]
    rw [cond_false, dig_pos_mod, hq, ws _ (by omega), Int.toNat_natCast, Int.toNat_natCast, dig_at (by omega), one]
    rw [dB_big hu] at hk
    have q : (dB ((u / 10 : Nat) : Int)).size ≤ 20 := dBu_size (n := ((u / 10 : Nat) : Int)) (by omega) (by omega)
    obtain ⟨m1, m2⟩ := hm0 u (by omega) (by omega)
    have f1 : (m ≠ 0 ∧ (((u / 10 : Nat) : Int)).natAbs < 10 ^ m) ∧ 0 ≤ (((u / 10 : Nat) : Int)) ∧ (((u / 10 : Nat) : Int)) < 18446744073709551616 := ⟨⟨m1, by omega⟩, by omega, by omega⟩
    have f2 := bnd (u % 10) (by omega)
    exact ⟨n10, n10, n10, ⟨f1, f2, by omega, hk⟩, f2, f1, by omega, hk⟩
def bgS : SpecS := fun ys Φ => match ys with
  | [.int .u64 n] => (0 ≤ n ∧ n < 18446744073709551616) ∧ Φ [.str (dB n)]
  | _ => False
theorem bgS_mono : MonoS bgS := by
  intro ys Φ Ψ h hF
  unfold bgS at hF ⊢
  split at hF
  · obtain ⟨hp, hk⟩ := hF; exact ⟨hp, h _ hk⟩
  · exact hF.elim
theorem bgS_inv {ys : List PV} {Φ : List PV → Prop} (h : bgS ys Φ) : ∃ (n : Int), ys = [.int .u64 n] ∧ (0 ≤ n ∧ n < 18446744073709551616) ∧ Φ [.str (dB n)] := by
  unfold bgS at h
  split at h
  · exact ⟨_, rfl, h⟩
  · exact h.elim
theorem ok_big : FunS B 16 bgS := by
  intro Z ys Φ hF
  obtain ⟨n, rfl, ⟨h0, h1⟩, hk⟩ := bgS_inv hF
  refine ok_bigs 20 Z _ Φ ⟨⟨⟨by decide, ?_⟩, h0, h1⟩, hk⟩
  have p : (10 : Nat) ^ 20 = 100000000000000000000 := by decide
  omega
noncomputable def ST4 := base (fun g => match g with | 44 => some (lift 0 namesF) | _ => none) (fun g => match g with | 29 => some diS | 17 => some diS | 25 => some nameS | 13 => some newS | 8 => some ofS | 11 => some itoaS | 22 => some ifmtS | 10 => some ifmtS | 9 => some join3S | 24 => some gspS | 12 => some splS | 14 => some puS | 15 => some aiS | 5 => some stxS | 6 => some parS | 16 => some bgS | _ => none) (fun _ => none)
theorem env_ST4 : EnvOk ST4 := env_of (by
    intro g F h
    split at h
    · cases h; exact ok_dig
    · cases h; exact ok_digsF
    · cases h; exact ok_Name
    · cases h; exact ok_New
    · cases h; exact of_ok
    · cases h; exact ok_itoa
    · cases h; exact ok_ifmt
    · cases h; exact ok_fmtF
    · cases h; exact ok_join3
    · cases h; exact ok_gsp
    · cases h; exact ok_spl
    · cases h; exact ok_pu
    · cases h; exact ok_ai
    · cases h; exact ok_stx
    · cases h; exact ok_par
    · cases h; exact ok_big
    · cases h) (by
    intro g F h
    split at h
    · cases h; exact (lift_ok ok_names)
    · cases h) (fun g F h => (by cases h))
theorem fn_rtx : FnOk Tryd.prog 7 Tryd.f7 (bodyOf Tryd.f7) := ⟨by kernel_rfl, by kernel_rfl, by kernel_rfl⟩
noncomputable def ff_rtx : Fun := ⟨Tryd.f7.ntmps, 0, Tryd.f7.results.toList, fun _ => none, fun _ => false, fun _ => []⟩
theorem nf_rtx (A : KA Kd) (k : List PV → Heap Kd → Prop) (l c n : Int) : evT ST4 ff_rtx A k 400 false [.code (bodyOf Tryd.f7)] (startEnv 17 [.agg [.int .u64 l, .int .i64 c, .int .i64 n]]) [] = (((0 : Int) ≤ l ∧ l < (18446744073709551616 : Int)) ∧ (ByteArray.mk #[(108 : UInt8), (97 : UInt8), (115 : UInt8), (116 : UInt8), (32 : UInt8)]).size + (dB l).size ≤ (9223372036854775807 : Nat) ∧ (ByteArray.mk #[(108 : UInt8), (97 : UInt8), (115 : UInt8), (116 : UInt8), (32 : UInt8)] ++ dB l).size + (ByteArray.mk #[(32 : UInt8), (99 : UInt8), (117 : UInt8), (114 : UInt8), (114 : UInt8), (101 : UInt8), (110 : UInt8), (116 : UInt8), (32 : UInt8)]).size ≤ (9223372036854775807 : Nat) ∧ ((-9223372036854775808 : Int) ≤ c ∧ c ≤ (9223372036854775807 : Int)) ∧ (ByteArray.mk #[(108 : UInt8), (97 : UInt8), (115 : UInt8), (116 : UInt8), (32 : UInt8)] ++ dB l ++ ByteArray.mk #[(32 : UInt8), (99 : UInt8), (117 : UInt8), (114 : UInt8), (114 : UInt8), (101 : UInt8), (110 : UInt8), (116 : UInt8), (32 : UInt8)]).size + (dB c).size ≤ (9223372036854775807 : Nat) ∧ (ByteArray.mk #[(108 : UInt8), (97 : UInt8), (115 : UInt8), (116 : UInt8), (32 : UInt8)] ++ dB l ++ ByteArray.mk #[(32 : UInt8), (99 : UInt8), (117 : UInt8), (114 : UInt8), (114 : UInt8), (101 : UInt8), (110 : UInt8), (116 : UInt8), (32 : UInt8)] ++ dB c).size + (ByteArray.mk #[(32 : UInt8), (110 : UInt8), (101 : UInt8), (120 : UInt8), (116 : UInt8), (32 : UInt8)]).size ≤ (9223372036854775807 : Nat) ∧ ((-9223372036854775808 : Int) ≤ n ∧ n ≤ (9223372036854775807 : Int)) ∧ (ByteArray.mk #[(108 : UInt8), (97 : UInt8), (115 : UInt8), (116 : UInt8), (32 : UInt8)] ++ dB l ++ ByteArray.mk #[(32 : UInt8), (99 : UInt8), (117 : UInt8), (114 : UInt8), (114 : UInt8), (101 : UInt8), (110 : UInt8), (116 : UInt8), (32 : UInt8)] ++ dB c ++ ByteArray.mk #[(32 : UInt8), (110 : UInt8), (101 : UInt8), (120 : UInt8), (116 : UInt8), (32 : UInt8)]).size + (dB n).size ≤ (9223372036854775807 : Nat) ∧ k [PV.str (ByteArray.mk #[(108 : UInt8), (97 : UInt8), (115 : UInt8), (116 : UInt8), (32 : UInt8)] ++ dB l ++ ByteArray.mk #[(32 : UInt8), (99 : UInt8), (117 : UInt8), (114 : UInt8), (114 : UInt8), (101 : UInt8), (110 : UInt8), (116 : UInt8), (32 : UInt8)] ++ dB c ++ ByteArray.mk #[(32 : UInt8), (110 : UInt8), (101 : UInt8), (120 : UInt8), (116 : UInt8), (32 : UInt8)] ++ dB n)] []) := by kernel_rfl
theorem ok_rtx : FunS B 7 stxS := by
  refine funS_of (N := 17) (f := ff_rtx) env_ST4 mixed fn_rtx (by kernel_rfl) (by kernel_rfl) (by kernel_rfl) stxS_mono ?_
  intro A k ys hA hF
  obtain ⟨l, c, n, rfl, ⟨hl, hc, hn⟩, hk⟩ := stxS_inv hF; clear hF
  refine ⟨by kernel_rfl, (hA.nf (nf_rtx A k l c n) ?_)⟩
  have h1 : (dB l).size ≤ 20 := dBu_size hl.1 hl.2
  have h2 : (dB c).size ≤ 20 := dB_size hc.1 hc.2
  have h3 : (dB n).size ≤ 20 := dB_size hn.1 hn.2
  have z1 : (ByteArray.mk #[108, 97, 115, 116, 32]).size = 5 := rfl
  have z2 : (ByteArray.mk #[32, 99, 117, 114, 114, 101, 110, 116, 32]).size = 9 := rfl
  have z3 : (ByteArray.mk #[32, 110, 101, 120, 116, 32]).size = 6 := rfl
  simp only [ByteArray.size_append, z1, z2, z3]
  exact ⟨hl, by omega, by omega, hc, by omega, by omega, hn, by omega, hk⟩
end Go.Ab.T
