import Derived.Test.YtajpmmjpkpgoeaaDoorAwake13
import Derived.Test.YtajpmmjpkpgoeaaDoorRight9
import Derived.Test.YtajpmmjpkpgoeaaDoorWinOwn
import Derived.Test.YtajpmmjpkpgoeaaDoorOp
set_option linter.unusedVariables false
set_option linter.unusedSimpArgs false
set_option linter.unusedSectionVars false
namespace Go.Ab.T
open Go Go.Ab Go.Proofs
set_option maxRecDepth 100000
set_option maxHeartbeats 4000000
noncomputable def CR1 := base (fun _ => none) (fun g => match g with | 6 => some CheckS | 5 => some trueS | 4 => some schRS | 7 => some OwnerS | 9 => some BusyS | 8 => some TouchS | _ => none) (fun _ => none)
theorem env_CR1 : EnvOk CR1 := env_of (by
 intro g F h
 split at h
 ·cases h; exact ok_Check
 ·cases h; exact ok_awake13
 ·cases h; exact ok_rschR
 ·cases h; exact ok_Owner
 ·cases h; exact ok_Busy
 ·cases h; exact ok_Touch
 ·cases h) (fun g F h => (by cases h)) (fun g F h => (by cases h))
theorem fn_WindowRight : FnOk Tryd.prog 3 Tryd.f3 (bodyOf Tryd.f3) := ⟨by kernel_rfl, by kernel_rfl, by kernel_rfl⟩
noncomputable def ff_WindowRight : Fun := ⟨Tryd.f3.ntmps, 0, Tryd.f3.results.toList, fun i => match i with | 10 => some [2, 5, 6, 7, 8, 35, 36, 37] | 7 => some [2, 5, 35, 36, 37] | _ => none, fun _ => false, fun _ => []⟩
theorem nf_WR_a (A : KA Kd) (k : List PV -> Heap Kd -> Prop) (id fr : Int) (ws ns : List Win) (ids : List Int) : evT CR1 ff_WindowRight A k 400 false [.code (bodyOf Tryd.f3)] (startEnv 83 [.agg [.int .i64 id, .int .i64 fr, .sl _ e_api_Window ws, .sl _ e_api_Need ns], .sl _ e_int ids]) [] = (∃ (id_1 : Int), ∃ (fr_1 : Int), ∃ (ws_1 : List W3), ∃ (ns_1 : List W3), PV.agg [PV.int IntKind.i64 id, PV.int IntKind.i64 fr, PV.sl (Int × Int × Int) e_api_Window ws, PV.sl (Int × Int × Int) e_api_Need ns] = PV.agg [PV.int IntKind.i64 id_1, PV.int IntKind.i64 fr_1, PV.sl (Int × Int × Int) e_api_Window ws_1, PV.sl (Int × Int × Int) e_api_Need ns_1] /\ (ws_1.length < 9223372036854775808 /\ ns_1.length < 9223372036854775808) /\ bif schR (id_1, fr_1, ws_1, ns_1) != 0 then k [.bool true] [] else bif decide (fr > 300) then k [.bool true] [] else bif decide ((↑ws.length : Int) > 40) then k [.bool true] [] else bif decide ((↑ids.length : Int) > 60) then k [.bool true] [] else ∃ (id_2 : Int), ∃ (fr_2 : Int), ∃ (ws_2 : List Win), ∃ (ns_2 : List Win), ∃ (ids_1 : List Int), PV.agg [PV.int IntKind.i64 id, PV.int IntKind.i64 fr, PV.sl (Int × Int × Int) e_api_Window ws, PV.sl (Int × Int × Int) e_api_Need ns] = PV.agg [PV.int IntKind.i64 id_2, PV.int IntKind.i64 fr_2, PV.sl (Int × Int × Int) e_api_Window ws_2, PV.sl (Int × Int × Int) e_api_Need ns_2] /\ PV.sl Int e_int ids = PV.sl Int e_int ids_1 /\ (ids_1.length < 4611686018427387904 /\ ws_2.length < 4611686018427387904) /\ bif !(errW (chkW fr_2 ids_1 ((0 : Int), (0 : Int), (0 : Int)) ws_2 (0 : Int))).isNil then k [.bool true] [] else A (td Tryd.f3 7) (envAt 83 [(2, .ptr 0 0), (5, .int .i64 0), (35, .sl (Int × Int × Int) e_api_Window ws), (36, .int .i64 (↑ws.length : Int)), (37, .int .i64 0)]) [.box [.int .i64 id, .int .i64 fr, .sl (Int × Int × Int) e_api_Window ws, .sl (Int × Int × Int) e_api_Need ns]]) := by kernel_rfl
theorem nf_WR_b (A : KA Kd) (k : List PV -> Heap Kd -> Prop) (id fr : Int) (ws ns : List Win) (n i : Int) : evT CR1 ff_WindowRight A k 400 true (td Tryd.f3 7) (envAt 83 [(2, .ptr 0 0), (5, .int .i64 n), (35, .sl _ e_api_Window ws), (36, .int .i64 ws.length), (37, .int .i64 i)]) [.box [.int .i64 id, .int .i64 fr, .sl _ e_api_Window ws, .sl _ e_api_Need ns]] = (bif decide (i < (↑ws.length : Int)) then (0 <= i /\ i < (↑ws.length : Int)) /\ ∀ (y : Int × Int × Int), ws[i.toNat]? = some y -> A (td Tryd.f3 10) (envAt 83 [(2, .ptr 0 0), (5, .int .i64 n), (6, .int .i64 i), (7, .ptr 1 0), (8, .int .i64 y.snd.fst), (35, .sl (Int × Int × Int) e_api_Window ws), (36, .int .i64 (↑ws.length : Int)), (37, .int .i64 i)]) [.box [.int .i64 id, .int .i64 fr, .sl (Int × Int × Int) e_api_Window ws, .sl (Int × Int × Int) e_api_Need ns], .box [.int .i64 y.fst, .int .i64 y.snd.fst, .int .i64 y.snd.snd]]
else ∃ (id_1 : Int), ∃ (fr_1 : Int), ∃ (n_1 : Nat), ∃ (ws_1 : List Win), ∃ (ns_1 : List Win), PV.agg [PV.int IntKind.i64 id, PV.int IntKind.i64 fr, PV.sl (Int × Int × Int) e_api_Window ws, PV.sl (Int × Int × Int) e_api_Need ns] = PV.agg [PV.int IntKind.i64 id_1, PV.int IntKind.i64 fr_1, PV.sl (Int × Int × Int) e_api_Window ws_1, PV.sl (Int × Int × Int) e_api_Need ns_1] /\ (fr_1 = (↑n_1 : Int) /\ n_1 < (1099511627776 : Nat) /\ ws_1.length < (4611686018427387904 : Nat)) /\ bif busyN (wordW fr_1 ws_1) == n then k [PV.bool true] [] else k [PV.bool false] []) := by kernel_rfl
theorem nf_WR_c (A : KA Kd) (k : List PV -> Heap Kd -> Prop) (id fr : Int) (ws ns : List Win) (n i t : Int) (w : Win) : evT CR1 ff_WindowRight A k 400 true (td Tryd.f3 10) (envAt 83 [(2, .ptr 0 0), (5, .int .i64 n), (6, .int .i64 i), (7, .ptr 1 0), (8, .int .i64 t), (35, .sl _ e_api_Window ws), (36, .int .i64 ws.length), (37, .int .i64 i)]) [.box [.int .i64 id, .int .i64 fr, .sl _ e_api_Window ws, .sl _ e_api_Need ns], .box [.int .i64 w.1, .int .i64 w.2.1, .int .i64 w.2.2]] = (bif decide (t < IntKind.i64.wrap (w.snd.fst + w.snd.snd)) then ∃ (id_1 : Int), ∃ (fr_1 : Int), ∃ (ws_1 : List Win), ∃ (ns_1 : List Win), PV.agg [PV.int IntKind.i64 id, PV.int IntKind.i64 fr, PV.sl (Int × Int × Int) e_api_Window ws, PV.sl (Int × Int × Int) e_api_Need ns] = PV.agg [PV.int IntKind.i64 id_1, PV.int IntKind.i64 fr_1, PV.sl (Int × Int × Int) e_api_Window ws_1, PV.sl (Int × Int × Int) e_api_Need ns_1] /\ ws_1.length < 4611686018427387904 /\ bif ownR fr_1 ws_1 t != w.fst then k [.bool false] [] else A (td Tryd.f3 10) (envAt 83 [(2, .ptr 0 0), (5, .int .i64 n), (6, .int .i64 i), (7, .ptr 1 0), (8, .int .i64 (IntKind.i64.wrap (t + 1))), (35, .sl (Int × Int × Int) e_api_Window ws), (36, .int .i64 (↑ws.length : Int)), (37, .int .i64 i)]) [.box [.int .i64 id, .int .i64 fr, .sl (Int × Int × Int) e_api_Window ws, .sl (Int × Int × Int) e_api_Need ns], .box [.int .i64 w.fst, .int .i64 w.snd.fst, .int .i64 w.snd.snd]]
else bif decide (i > (0 : Int)) then ((0 : Int) <= IntKind.i64.wrap (i - (1 : Int)) /\ IntKind.i64.wrap (i - (1 : Int)) < (↑ws.length : Int)) /\ ∀ (y : Int × Int × Int), ws[(IntKind.i64.wrap (i - (1 : Int))).toNat]? = some y -> bif decide (mmI true y.snd.fst w.snd.fst < mmI false (IntKind.i64.wrap (y.snd.fst + y.snd.snd)) (IntKind.i64.wrap (w.snd.fst + w.snd.snd))) then k [PV.bool false] [] else A (td Tryd.f3 (7 : Nat)) (envAt (83 : Nat) [((2 : Nat), PV.ptr (0 : Nat) (0 : Nat)), ((5 : Nat), PV.int IntKind.i64 (IntKind.i64.wrap (n + w.snd.snd))), ((35 : Nat), PV.sl (Int × Int × Int) e_api_Window ws), ((36 : Nat), PV.int IntKind.i64 (↑ws.length : Int)), ((37 : Nat), PV.int IntKind.i64 (IntKind.i64.wrap (i + (1 : Int))))]) [AObj.box [PV.int IntKind.i64 id, PV.int IntKind.i64 fr, PV.sl (Int × Int × Int) e_api_Window ws, PV.sl (Int × Int × Int) e_api_Need ns]] else A (td Tryd.f3 (7 : Nat)) (envAt (83 : Nat) [((2 : Nat), PV.ptr (0 : Nat) (0 : Nat)), ((5 : Nat), PV.int IntKind.i64 (IntKind.i64.wrap (n + w.snd.snd))), ((35 : Nat), PV.sl (Int × Int × Int) e_api_Window ws), ((36 : Nat), PV.int IntKind.i64 (↑ws.length : Int)), ((37 : Nat), PV.int IntKind.i64 (IntKind.i64.wrap (i + (1 : Int))))]) [AObj.box [PV.int IntKind.i64 id, PV.int IntKind.i64 fr, PV.sl (Int × Int × Int) e_api_Window ws, PV.sl (Int × Int × Int) e_api_Need ns]]) := by kernel_rfl
def lawWRS : SpecS := fun ys Φ => match ys with
 | [x_0, x_1] => ∃ (id : Int), ∃ (fr : Int), ∃ (ws : List Win), ∃ (ns : List Win), ∃ (ids : List Int), x_0 = .agg [.int .i64 id, .int .i64 fr, .sl _ e_api_Window ws, .sl _ e_api_Need ns] /\ x_1 = .sl _ e_int ids /\ (ws.length < 9223372036854775808 /\ ns.length < 9223372036854775808) /\ Φ [.bool true]
 | _ => False
theorem lawWRS_mono : MonoS lawWRS := by
 intro ys Φ Ψ h hF
 unfold lawWRS at hF ⊢
 split at hF
 ·obtain ⟨a0, a1, a2, a3, a4, q0, q1, hp, hk⟩ := hF; exact ⟨a0, a1, a2, a3, a4, q0, q1, hp, h _ hk⟩
 ·exact hF.elim
theorem lawWRS_inv {ys : List PV} {Φ : List PV -> Prop} (h : lawWRS ys Φ) : ∃ (id : Int) (fr : Int) (ws : List Win) (ns : List Win) (ids : List Int), ys = [.agg [.int .i64 id, .int .i64 fr, .sl _ e_api_Window ws, .sl _ e_api_Need ns], .sl _ e_int ids] /\ (ws.length < 9223372036854775808 /\ ns.length < 9223372036854775808) /\ Φ [.bool true] := by
 unfold lawWRS at h
 split at h
 ·obtain ⟨a0, a1, a2, a3, a4, q0, q1, hz⟩ := h
  subst q0
  subst q1
  exact ⟨a0, a1, a2, a3, a4, rfl, hz⟩
 ·exact h.elim
theorem isNil_errW' (c : Int × Int) : (errW c).isNil = (c.2 == 0) := by
 unfold errW
 cases c.2 == 0 <;> rfl
theorem touch_no {b e x y : Int} (h1 : x <= e) (h2 : b <= e) : decide (mmI true b e < mmI false x y) = false := by
 rw [mmI_max]
 have : mmI false x y <= x := by
  show (if y < x then y else x) <= x
  by_cases h : y < x
  ·rw [if_pos h]; omega
  ·rw [if_neg h]; omega
 exact decide_eq_false (by omega)
theorem ok_WR : FunS B 3 lawWRS := by
 refine funS_of (N := 83) (f := ff_WindowRight) env_CR1 mixed fn_WindowRight (by kernel_rfl) (by kernel_rfl) (by kernel_rfl) lawWRS_mono ?_
 intro A k ys hA hF
 obtain ⟨id, fr, ws, ns, ids, rfl, ⟨hlw, hln⟩, hk⟩ := lawWRS_inv hF; clear hF
 refine ⟨by kernel_rfl, (hA.nf (nf_WR_a A k id fr ws ns ids) ?_)⟩
 refine ⟨id, fr, ws, ns, rfl, ⟨hlw, hln⟩, ?_⟩
 cases h0 : schR (id, fr, ws, ns) != 0 with
 | true => exact hk
 | false =>
 cases h1 : decide (fr > 300) with
 | true => exact hk
 | false =>
 cases h2 : decide ((ws.length : Int) > 40) with
 | true => exact hk
 | false =>
 cases h3 : decide ((ids.length : Int) > 60) with
 | true => exact hk
 | false =>
 rw [decide_eq_false_iff_not] at h1 h2 h3
 refine ⟨id, fr, ws, ns, ids, rfl, rfl, ⟨by omega, by omega⟩, ?_⟩
 rw [isNil_errW']
 cases h4 : (chkW fr ids (0, 0, 0) ws 0).2 == 0 with
 | false => exact hk
 | true =>
 have h0 : schR (id, fr, ws, ns) = 0 := by simpa using h0
 have h4 : (chkW fr ids (0, 0, 0) ws 0).2 = 0 := by simpa using h4
 unfold schR at h0
 cases c1 : wiV id 0 255 with
 | false => simp only [c1] at h0; exact absurd (show (18 : Int) = 0 from h0) (by decide)
 | true =>
 cases c2 : wiV fr 1 1048576 with
 | false => simp only [c1, c2] at h0; exact absurd (show (18 : Int) = 0 from h0) (by decide)
 | true =>
 cases c3 : decide ((ws.length : Int) > 256) with
 | true => simp only [c1, c2, c3] at h0; exact absurd (show (8 : Int) = 0 from h0) (by decide)
 | false =>
 cases c4 : rowsR ws with
 | false => simp only [c1, c2, c3, c4] at h0; exact absurd (show (18 : Int) = 0 from h0) (by decide)
 | true =>
 clear h0 c1 c3
 obtain ⟨hf1, hf2⟩ := wiV_iff.1 c2
 have hR : RgtW fr 0 ws := rgt_of_chk fr ⟨by omega, hf2⟩ ids ws (0, 0, 0) 0 (Int.le_refl _) (by decide) (Int.le_refl _) (by decide) c4 h4
 have hlast : k [.bool true] [] := hk
 refine down_loop ws (fun i => ∀ n : Int, n = lenW (ws.take i) -> A (td Tryd.f3 7) (envAt 83 [(2, .ptr 0 0), (5, .int .i64 n), (35, .sl _ e_api_Window ws), (36, .int .i64 ws.length), (37, .int .i64 (i : Int))]) [.box [.int .i64 id, .int .i64 fr, .sl _ e_api_Window ws, .sl _ e_api_Need ns]]) ?_ ?_ 0 (Nat.zero_le _) 0 rfl
 ·intro n hn
  refine (hA.nf (nf_WR_b A k id fr ws ns n _) ?_)
  rw [ilt_false (Nat.lt_irrefl _)]
  refine ⟨id, fr, fr.toNat, ws, ns, rfl, ⟨by omega, by omega, by omega⟩, ?_⟩
  rw [busy_right (by omega) hf2 hR, hn, List.take_length, beq_self_eq_true]
  exact hlast
 ·intro i w hw ih n hn
  have hlt := lt_of_get hw
  have hm := hR.ends (List.mem_of_getElem? hw)
  refine (hA.nf (nf_WR_b A k id fr ws ns n _) ?_)
  rw [ilt_true hlt]
  refine get_at hw ?_
  have hwr : IntKind.i64.wrap (w.2.1 + w.2.2) = w.2.1 + w.2.2 := wrap_id _ (by omega) (by omega)
  have hb := lenW_bound ws c4
  have hsplit : lenW (ws.take (i + 1)) = lenW (ws.take i) + w.2.2 := by
   rw [List.take_add_one, hw, lenW_append]; simp [lenW]
  have hle : lenW (ws.take (i + 1)) <= lenW ws := by
   have h5 := lenW_append (ws.take (i + 1)) (ws.drop (i + 1))
   rw [List.take_append_drop] at h5
   have h6 := (lenW_bound (ws.drop (i + 1)) (by unfold rowsR at *; rw [List.all_eq_true] at *; exact fun x hx => c4 x (List.mem_of_mem_drop hx))).1
   omega
  have h7 := (lenW_bound (ws.take i) (by unfold rowsR at *; rw [List.all_eq_true] at *; exact fun x hx => c4 x (List.mem_of_mem_take hx))).1
  have hnext : A (td Tryd.f3 7) (envAt 83 [(2, .ptr 0 0), (5, .int .i64 (IntKind.i64.wrap (n + w.2.2))), (35, .sl _ e_api_Window ws), (36, .int .i64 ws.length), (37, .int .i64 (IntKind.i64.wrap ((i : Int) + 1)))]) [.box [.int .i64 id, .int .i64 fr, .sl _ e_api_Window ws, .sl _ e_api_Need ns]] := by
   rw [wrap_succ (by omega), wrap_id (n + w.2.2) (by omega) (by omega)]
   exact ih _ (by rw [hn, hsplit])
  have hin : ∀ (m : Nat) (t : Int), w.2.1 <= t -> t + (m : Int) = w.2.1 + w.2.2 -> A (td Tryd.f3 10) (envAt 83 [(2, .ptr 0 0), (5, .int .i64 n), (6, .int .i64 (i : Int)), (7, .ptr 1 0), (8, .int .i64 t), (35, .sl _ e_api_Window ws), (36, .int .i64 ws.length), (37, .int .i64 (i : Int))]) [.box [.int .i64 id, .int .i64 fr, .sl _ e_api_Window ws, .sl _ e_api_Need ns], .box [.int .i64 w.1, .int .i64 w.2.1, .int .i64 w.2.2]] := by
   intro m
   induction m with
   | zero =>
    intro t ht1 ht2
    refine (hA.nf (nf_WR_c A k id fr ws ns n _ t w) ?_)
    rw [hwr, decide_eq_false (by omega : ¬ t < w.2.1 + w.2.2)]
    cases i with
    | zero =>
     have hd : decide (((0 : Nat) : Int) > 0) = false := by decide
     rw [hd]
     exact hnext
    | succ j =>
     have hd : decide (((j + 1 : Nat) : Int) > 0) = true := decide_eq_true (by omega)
     rw [hd]
     obtain ⟨p, hp⟩ : ∃ p, ws[j]? = some p := ⟨ws[j], List.getElem?_eq_getElem (by omega)⟩
     have hpm := hR.ends (List.mem_of_getElem? hp)
     have hpw := rgt_prev ws 0 j p w hR hp hw
     refine get_at' (i := j) (wrap_nat (by omega) (by omega)) hp ?_
     rw [wrap_id (p.2.1 + p.2.2) (by omega) (by omega), touch_no hpw (by omega)]
     exact hnext
   | succ m ihm =>
    intro t ht1 ht2
    refine (hA.nf (nf_WR_c A k id fr ws ns n _ t w) ?_)
    rw [hwr, decide_eq_true (by omega : t < w.2.1 + w.2.2)]
    refine ⟨id, fr, ws, ns, rfl, by omega, ?_⟩
    have hown : ownR fr ws t = w.1 := by
     unfold ownR
     rw [decide_eq_false (by omega : ¬ t < 0), decide_eq_false (by omega : ¬ t >= fr)]
     exact own_right hf2 ws 0 i w t (Int.le_refl _) hR hw ht1 (by omega)
    have : (ownR fr ws t != w.1) = false := by rw [hown]; exact bne_self_eq_false _
    rw [this, wrap_id (t + 1) (by omega) (by omega)]
    exact ihm (t + 1) (by omega) (by omega)
  exact hin w.2.2.toNat w.2.1 (Int.le_refl _) (by omega)
theorem pre_WindowRight (x : Int × Int × List (Int × Int × Int) × List (Int × Int × Int)) (ids : List Int) (hx : g_o25 x) (_ : g_o26 ids) : lawWRS [a_o25 x, a_o26 ids] fun rs => rs = [.bool true] := by
 obtain ⟨_, _, h1, h2⟩ := hx
 have h1 := h1.2.2
 have h2 := h2.2.2
 unfold reachBytes at h1 h2
 exact ⟨_, _, _, _, _, rfl, rfl, ⟨by omega, by omega⟩, rfl⟩
end Go.Ab.T
