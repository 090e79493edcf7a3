import Derived.Test.YtiflhpcbnnnddaaDoorParts2
import Derived.Test.YtiflhpcbnnnddaaDoorNameGet
import Derived.Test.YtiflhpcbnnnddaaDoorAs2
set_option linter.unusedVariables false
set_option linter.unusedSimpArgs false
namespace Go.Ab.T
open Go Go.Ab Go.Proofs
set_option maxRecDepth 100000
set_option maxHeartbeats 4000000
noncomputable def PC0 := base (fun g => match g with | 40 => some (lift 0 namesF) | 54 => some (lift 0 namesF) | 20 => some (lift 0 cloneS) | 42 => some (eitherOwn (lift 1 putIS) (lift 0 putS)) | 44 => some (eitherOwn (lift 1 nPutIS) (lift 0 nPutS)) | 10 => some (lift 0 NewS) | 29 => some (lift 1 EnterS) | 51 => some (lift 1 FailS) | 33 => some (lift 1 NeedS) | 30 => some (lift 1 ErrS) | 50 => some (lift 1 numberS) | 32 => some (lift 1 U8S) | 53 => some (lift 1 U32S) | 52 => some (lift 1 TextS) | 23 => some (lift 1 pPutS) | 7 => some (frzAll B (lift 0 pPutAS)) | 34 => some (lift 1 truthS) | 35 => some (lift 1 nGetS) | _ => none) (fun g => match g with | 39 => some nameS | 18 => some nameS | 17 => some newS | 16 => some atS | 22 => some inS | 62 => some sizeS | 61 => some getS | 56 => some fitsS | 55 => some mayS | 57 => some letS | 41 => some rightS | 45 => some rightS | 26 => some r01TS | 43 => some bitS | 21 => some prtRS | 24 => some prtRS | 9 => some ofS | 31 => some PlaceS | 14 => some LeftS | 27 => some rTruS | 28 => some rTx6S | 8 => some rWrong8S | 11 => some rText8S | 37 => some rSC8S | _ => none) (fun _ => none)
theorem env_PC0 : EnvOk PC0 := env_of (by
    intro g F h
    split at h
    · cases h; exact ok_Name
    · cases h; exact ok_rName
    · cases h; exact ok_New
    · cases h; exact ok_At
    · cases h; exact ok_In
    · cases h; exact ok_size
    · cases h; exact ok_Get
    · cases h; exact ok_fits
    · cases h; exact ok_may
    · cases h; exact ok_letter
    · cases h; exact ok_right
    · cases h; exact ok_rright
    · cases h; exact ok_r01T
    · cases h; exact ok_bit
    · cases h; exact ok_prtR
    · cases h; exact ok_rprtR
    · cases h; exact of_ok
    · cases h; exact ok_Place
    · cases h; exact ok_Left
    · cases h; exact ok_rTru
    · cases h; exact ok_rTx6
    · cases h; exact ok_rWrong8
    · cases h; exact ok_rText8
    · cases h; exact ok_rSC8
    · cases h) (by
    intro g F h
    split at h
    · cases h; exact (lift_ok ok_rnames)
    · cases h; exact (lift_ok ok_names)
    · cases h; exact (lift_ok ok_clone)
    · cases h; exact (eitherOwn_ok (lift_ok ok_putI) (lift_ok ok_put))
    · cases h; exact (eitherOwn_ok (lift_ok ok_nPutI) (lift_ok ok_nPut))
    · cases h; exact (lift_ok ok_rNew)
    · cases h; exact (lift_ok ok_Enter)
    · cases h; exact (lift_ok ok_Fail)
    · cases h; exact (lift_ok ok_Need)
    · cases h; exact (lift_ok ok_rErr)
    · cases h; exact (lift_ok ok_number)
    · cases h; exact (lift_ok ok_U8)
    · cases h; exact (lift_ok ok_U32)
    · cases h; exact (lift_ok ok_Text)
    · cases h; exact (lift_ok ok_pPut)
    · cases h; exact (frzAll_ok (lift_ok ok_pPutA))
    · cases h; exact (lift_ok ok_truth)
    · cases h; exact (lift_ok ok_nGet)
    · cases h) (fun g F h => (by cases h))
def cellsS : List PV → Heap Kd → (List PV → Heap Kd → Prop) → Prop := fun ys L k => match ys, L with
  | [.ptr 0 0], [.box [.str s, .int .i64 a, .int .i64 sec, .err e]] => ∃ (l : List Cl), (e = .nil ∧ 0 ≤ a ∧ Has s a.toNat (beL 1 l.length ++ cellsB l) ∧ l.length ≤ 16 ∧ (∀ c, c ∈ l → OkC c) ∧ s.size < 4611686018427387904) ∧ k [.own 1] [.box [.str s, .int .i64 (a + 1 + 5 * (l.length : Int)), .int .i64 sec, .err .nil], .row 75 l]
  | _, _ => False
theorem cellsS_inv {ys : List PV} {L : Heap Kd} {k : List PV → Heap Kd → Prop} (h : cellsS ys L k) : ∃ (s : ByteArray) (a : Int) (sec : Int) (e : Err) (l : List Cl), ys = [.ptr 0 0] ∧ L = [.box [.str s, .int .i64 a, .int .i64 sec, .err e]] ∧ (e = .nil ∧ 0 ≤ a ∧ Has s a.toNat (beL 1 l.length ++ cellsB l) ∧ l.length ≤ 16 ∧ (∀ c, c ∈ l → OkC c) ∧ s.size < 4611686018427387904) ∧ k [.own 1] [.box [.str s, .int .i64 (a + 1 + 5 * (l.length : Int)), .int .i64 sec, .err .nil], .row 75 l] := by
  unfold cellsS at h
  split at h
  · obtain ⟨a0, hz⟩ := h
    exact ⟨_, _, _, _, a0, rfl, rfl, hz⟩
  · exact h.elim
theorem fn_cells : FnOk Tryd.prog 36 Tryd.f36 (bodyOf Tryd.f36) := ⟨by kernel_rfl, by kernel_rfl, by kernel_rfl⟩
noncomputable def ff_cells : Fun := ⟨Tryd.f36.ntmps, 1, Tryd.f36.results.toList, fun i => match i with | 5 => some [0, 3, 4, 5, 11, 12] | _ => none, fun _ => false, fun _ => []⟩
theorem nf_cells_a (A : KA Kd) (k : List PV → Heap Kd → Prop) (s : ByteArray) (a sec : Int) : evT PC0 ff_cells A k 400 false [.code (bodyOf Tryd.f36)] (startEnv 31 [.ptr 0 0]) [.box [.str s, .int .i64 a, .int .i64 sec, .err .nil]] = (((0 : Int) ≤ a ∧ a ≤ (↑s.size : Int) ∧ s.size < (4611686018427387904 : Nat)) ∧ A (td Tryd.f36 (5 : Nat)) (envAt (31 : Nat) [((0 : Nat), PV.ptr (0 : Nat) (0 : Nat)), ((3 : Nat), PV.int IntKind.i64 a), ((4 : Nat), PV.int IntKind.i64 (rdV s a (1 : Int) Err.nil)), ((5 : Nat), PV.own (1 : Nat)), ((11 : Nat), PV.int IntKind.i64 (rdV s a (1 : Int) Err.nil)), ((12 : Nat), PV.int IntKind.i64 (0 : Int))]) [AObj.box [PV.str s, PV.int IntKind.i64 (rdAt s a (1 : Int) Err.nil), PV.int IntKind.i64 sec, PV.err (rdE s a (1 : Int) sec Err.nil)], AObj.row (75 : Nat) []]) := by kernel_rfl
theorem nf_cells_b (A : KA Kd) (k : List PV → Heap Kd → Prop) (s : ByteArray) (a sec b n i : Int) (l : List Cl) : evT PC0 ff_cells A k 400 true (td Tryd.f36 5) (envAt 31 [(0, .ptr 0 0), (3, .int .i64 b), (4, .int .i64 n), (5, .own 1), (11, .int .i64 n), (12, .int .i64 i)]) [.box [.str s, .int .i64 a, .int .i64 sec, .err .nil], .row 75 l] = (bif decide (i < n) then bif !(needE Err.nil (decide (n ≤ (16 : Int))) sec (8 : Int) b).isNil then k [PV.own (1 : Nat)] [AObj.box [PV.str s, PV.int IntKind.i64 a, PV.int IntKind.i64 sec, PV.err (needE Err.nil (decide (n ≤ (16 : Int))) sec (8 : Int) b)], AObj.row (75 : Nat) []] else ∃ (v : Bool), (needE Err.nil (decide (n ≤ (16 : Int))) sec (8 : Int) b = Err.nil ∧ (0 : Int) ≤ a ∧ (∃ (pre : List UInt8), ∃ (post : List UInt8), s.data.toList = pre ++ (beL (1 : Nat) (bitN v) ++ post) ∧ pre.length = a.toNat) ∧ s.size < (4611686018427387904 : Nat)) ∧ ((0 : Int) ≤ a + (1 : Int) ∧ a + (1 : Int) ≤ (↑s.size : Int) ∧ s.size < (4611686018427387904 : Nat)) ∧ ∃ (zs : List (Int × Bool)), List.map e_api_Cell zs = [PV.agg [PV.int IntKind.u32 (rdV s (a + (1 : Int)) (4 : Int) Err.nil), PV.bool v]] ∧ (l.length + (zs).length) * (TInfo.mk (TD.struct [((0 : Nat), (73 : TypeId)), ((1 : Nat), (4 : TypeId))]) (2 : Nat) (8 : Nat) [PV.int IntKind.u32 (0 : Int), PV.bool false] true []).bytes ≤ (140737488355328 : Nat) ∧ A (td Tryd.f36 (5 : Nat)) (envAt (31 : Nat) [((0 : Nat), PV.ptr (0 : Nat) (0 : Nat)), ((3 : Nat), PV.int IntKind.i64 b), ((4 : Nat), PV.int IntKind.i64 n), ((5 : Nat), PV.own (1 : Nat)), ((11 : Nat), PV.int IntKind.i64 n), ((12 : Nat), PV.int IntKind.i64 (IntKind.i64.wrap (i + (1 : Int))))]) [AObj.box [PV.str s, PV.int IntKind.i64 (rdAt s (a + (1 : Int)) (4 : Int) Err.nil), PV.int IntKind.i64 sec, PV.err (rdE s (a + (1 : Int)) (4 : Int) sec Err.nil)], AObj.row (75 : Nat) (l ++ zs)]
else k [PV.own (1 : Nat)] [AObj.box [PV.str s, PV.int IntKind.i64 a, PV.int IntKind.i64 sec, PV.err Err.nil], AObj.row (75 : Nat) l]) := by kernel_rfl
theorem cells_loop (A : KA Kd) (k : List PV → Heap Kd → Prop) (hA : Closed PC0 ff_cells k A) (s : ByteArray) (hs : s.size < 4611686018427387904) (sec b : Int) (N : Nat) (hN : N ≤ 16) :
    ∀ (r : List Cl) (i a : Nat) (acc : List Cl), i + r.length = N → acc.length ≤ i → Has s a (cellsB r) → (∀ c, c ∈ r → OkC c) → k [.own 1] [.box [.str s, .int .i64 ((a + 5 * r.length : Nat) : Int), .int .i64 sec, .err .nil], .row 75 (addCl acc r)] →
      A (td Tryd.f36 5) (envAt 31 [(0, .ptr 0 0), (3, .int .i64 b), (4, .int .i64 (N : Int)), (5, .own 1), (11, .int .i64 (N : Int)), (12, .int .i64 (i : Int))]) [.box [.str s, .int .i64 (a : Int), .int .i64 sec, .err .nil], .row 75 acc] := by
  intro r
  induction r with
  | nil =>
    intro i a acc hi _ _ _ hk
    refine (hA.nf (nf_cells_b A k s _ sec b _ _ acc) ?_)
    have hi : i = N := hi
    rw [ilt_false (by omega), cond_false]
    have e : addCl acc [] = acc := List.append_nil acc
    rw [e] at hk; exact hk
  | cons c r ih =>
    intro i a acc hi hacc h hc hk
    rw [List.length_cons] at hi
    refine (hA.nf (nf_cells_b A k s _ sec b _ _ acc) ?_)
    rw [ilt_true (by omega), cond_true]
    have d : decide ((N : Int) ≤ 16) = true := decide_eq_true (by omega)
    have dn : needE .nil true sec 8 b = .nil := rfl
    have en : Err.nil.isNil = true := rfl
    rw [d, dn, en, Bool.not_true, cond_false]
    obtain ⟨c1, c2⟩ := hc c List.mem_cons_self
    rw [cellsB] at h
    have h1 : Has s a (beL 1 (bitN c.2)) := Has.left (m := beL 4 c.1.toNat) h.left
    have h4 : Has s (a + 1) (beL 4 c.1.toNat) := Has.right' (l := beL 1 (bitN c.2)) h.left (by rw [beL_len])
    have hsz := h4.size
    rw [beL_len] at hsz
    obtain ⟨r4, r4', r4''⟩ := h4.rd (by rw [q256_4]; omega) (x := (a : Int) + 1) (y := 4) (by omega) rfl
    rw [Int.toNat_of_nonneg c1] at r4
    have hh : Has s ((a : Nat) : Int).toNat (beL 1 (bitN c.2)) := by rw [Int.toNat_natCast]; exact h1
    refine ⟨c.2, ⟨rfl, by omega, hh, hs⟩, ⟨by omega, by omega, hs⟩, ?_⟩
    rw [r4, r4', r4'']
    refine ⟨[c], rfl, by show (acc.length + 1) * 8 ≤ _; omega, ?_⟩
    rw [wrap_succ (by omega)]
    refine ih (i + 1) (a + 1 + 4) (acc ++ [c]) (by omega) (by rw [List.length_append, List.length_singleton]; omega) (h.right' (by rw [cellB_len])) (fun z hz => hc z (List.mem_cons_of_mem _ hz)) ?_
    have e1 : a + 1 + 4 + 5 * r.length = a + 5 * (c :: r).length := by rw [List.length_cons]; omega
    have e2 : addCl (acc ++ [c]) r = addCl acc (c :: r) := by unfold addCl; rw [List.append_assoc]; rfl
    rw [e1, e2]; exact hk
theorem ok_cells : FunF B 36 1 cellsS := by
  refine funF_of (N := 31) (f := ff_cells) env_PC0 mixed fn_cells (by kernel_rfl) (by kernel_rfl) ?_
  intro A k ys L hA hF
  obtain ⟨s, a, sec, e, l, rfl, rfl, ⟨he, h0, h, hl, hc, hs⟩, hk⟩ := cellsS_inv hF; clear hF
  subst he
  refine ⟨by kernel_rfl, (hA.nf (nf_cells_a A k s a sec) ?_)⟩
  obtain ⟨n, rfl⟩ : ∃ n : Nat, a = n := ⟨a.toNat, by omega⟩
  rw [Int.toNat_natCast] at h
  have hsz := h.size
  rw [List.length_append, beL_len] at hsz
  obtain ⟨r, r', r''⟩ := h.left.rd (by rw [q256_1]; omega) (x := (n : Int)) (y := 1) rfl rfl
  refine ⟨⟨h0, by omega, hs⟩, ?_⟩
  rw [r, r', r'']
  refine cells_loop A k hA s hs sec _ l.length hl l 0 (n + 1) [] (by omega) (Nat.le_refl _) (h.right' (by rw [beL_len])) hc ?_
  have e1 : ((n + 1 + 5 * l.length : Nat) : Int) = (n : Int) + 1 + 5 * (l.length : Int) := by omega
  rw [e1]; exact hk
noncomputable def PC1 := base (fun g => match g with | 40 => some (lift 0 namesF) | 54 => some (lift 0 namesF) | 20 => some (lift 0 cloneS) | 42 => some (eitherOwn (lift 1 putIS) (lift 0 putS)) | 44 => some (eitherOwn (lift 1 nPutIS) (lift 0 nPutS)) | 10 => some (lift 0 NewS) | 29 => some (lift 1 EnterS) | 51 => some (lift 1 FailS) | 33 => some (lift 1 NeedS) | 30 => some (lift 1 ErrS) | 50 => some (lift 1 numberS) | 32 => some (lift 1 U8S) | 53 => some (lift 1 U32S) | 52 => some (lift 1 TextS) | 23 => some (lift 1 pPutS) | 7 => some (frzAll B (lift 0 pPutAS)) | 34 => some (lift 1 truthS) | 35 => some (lift 1 nGetS) | 36 => some (lift 1 cellsS) | _ => none) (fun g => match g with | 39 => some nameS | 18 => some nameS | 17 => some newS | 16 => some atS | 22 => some inS | 62 => some sizeS | 61 => some getS | 56 => some fitsS | 55 => some mayS | 57 => some letS | 41 => some rightS | 45 => some rightS | 26 => some r01TS | 43 => some bitS | 21 => some prtRS | 24 => some prtRS | 9 => some ofS | 31 => some PlaceS | 14 => some LeftS | 27 => some rTruS | 28 => some rTx6S | 8 => some rWrong8S | 11 => some rText8S | 37 => some rSC8S | _ => none) (fun _ => none)
theorem env_PC1 : EnvOk PC1 := env_of (by
    intro g F h
    split at h
    · cases h; exact ok_Name
    · cases h; exact ok_rName
    · cases h; exact ok_New
    · cases h; exact ok_At
    · cases h; exact ok_In
    · cases h; exact ok_size
    · cases h; exact ok_Get
    · cases h; exact ok_fits
    · cases h; exact ok_may
    · cases h; exact ok_letter
    · cases h; exact ok_right
    · cases h; exact ok_rright
    · cases h; exact ok_r01T
    · cases h; exact ok_bit
    · cases h; exact ok_prtR
    · cases h; exact ok_rprtR
    · cases h; exact of_ok
    · cases h; exact ok_Place
    · cases h; exact ok_Left
    · cases h; exact ok_rTru
    · cases h; exact ok_rTx6
    · cases h; exact ok_rWrong8
    · cases h; exact ok_rText8
    · cases h; exact ok_rSC8
    · cases h) (by
    intro g F h
    split at h
    · cases h; exact (lift_ok ok_rnames)
    · cases h; exact (lift_ok ok_names)
    · cases h; exact (lift_ok ok_clone)
    · cases h; exact (eitherOwn_ok (lift_ok ok_putI) (lift_ok ok_put))
    · cases h; exact (eitherOwn_ok (lift_ok ok_nPutI) (lift_ok ok_nPut))
    · cases h; exact (lift_ok ok_rNew)
    · cases h; exact (lift_ok ok_Enter)
    · cases h; exact (lift_ok ok_Fail)
    · cases h; exact (lift_ok ok_Need)
    · cases h; exact (lift_ok ok_rErr)
    · cases h; exact (lift_ok ok_number)
    · cases h; exact (lift_ok ok_U8)
    · cases h; exact (lift_ok ok_U32)
    · cases h; exact (lift_ok ok_Text)
    · cases h; exact (lift_ok ok_pPut)
    · cases h; exact (frzAll_ok (lift_ok ok_pPutA))
    · cases h; exact (lift_ok ok_truth)
    · cases h; exact (lift_ok ok_nGet)
    · cases h; exact (lift_ok ok_cells)
    · cases h) (fun g F h => (by cases h))
theorem fn_pRead : FnOk Tryd.prog 12 Tryd.f12 (bodyOf Tryd.f12) := ⟨by kernel_rfl, by kernel_rfl, by kernel_rfl⟩
noncomputable def ff_pRead : Fun := ⟨Tryd.f12.ntmps, 1, Tryd.f12.results.toList, fun i => match i with | 5 => some [0, 1, 6, 7, 8] | _ => none, fun _ => false, fun _ => []⟩
theorem nf_pRead_a (A : KA Kd) (k : List PV → Heap Kd → Prop) (s : ByteArray) (a sec n : Int) : evT PC1 ff_pRead A k 400 false [.code (bodyOf Tryd.f12)] (startEnv 57 [.ptr 0 0, .int .i64 n]) [.box [.str s, .int .i64 a, .int .i64 sec, .err .nil]] = (A (td Tryd.f12 (5 : Nat)) (envAt (57 : Nat) [((0 : Nat), PV.ptr (0 : Nat) (0 : Nat)), ((1 : Nat), PV.int IntKind.i64 n), ((6 : Nat), PV.own (1 : Nat)), ((7 : Nat), PV.int IntKind.i64 (-1 : Int)), ((8 : Nat), PV.int IntKind.i64 (0 : Int))]) [AObj.box [PV.str s, PV.int IntKind.i64 a, PV.int IntKind.i64 (2 : Int), PV.err Err.nil], AObj.row (52 : Nat) []]) := by kernel_rfl
theorem nf_pRead_b (A : KA Kd) (k : List PV → Heap Kd → Prop) (s : ByteArray) (a n last i : Int) (l : List Prt) : evT PC1 ff_pRead A k 400 true (td Tryd.f12 5) (envAt 57 [(0, .ptr 0 0), (1, .int .i64 n), (6, .own 1), (7, .int .i64 last), (8, .int .i64 i)]) [.box [.str s, .int .i64 a, .int .i64 2, .err .nil], .row 52 l] = (bif decide (i < n) then ((0 : Int) ≤ a ∧ a ≤ (↑s.size : Int) ∧ s.size < (4611686018427387904 : Nat)) ∧ ∃ (v : Bool), (needE (rdE s a (1 : Int) (2 : Int) Err.nil) (decide (rdV s a (1 : Int) Err.nil > last)) (2 : Int) (9 : Int) a = Err.nil ∧ (0 : Int) ≤ rdAt s a (1 : Int) Err.nil ∧ (∃ (pre : List UInt8), ∃ (post : List UInt8), s.data.toList = pre ++ (beL (1 : Nat) (bitN v) ++ post) ∧ pre.length = (rdAt s a (1 : Int) Err.nil).toNat) ∧ s.size < (4611686018427387904 : Nat)) ∧ ((0 : Int) ≤ rdAt s a (1 : Int) Err.nil + (1 : Int) ∧ rdAt s a (1 : Int) Err.nil + (1 : Int) ≤ (↑s.size : Int) ∧ s.size < (4611686018427387904 : Nat)) ∧ ∃ (l_1 : List Cl), (nmE s (rdAt s a (1 : Int) Err.nil + (1 : Int)) (2 : Int) Err.nil = Err.nil ∧ (0 : Int) ≤ nmAt s (rdAt s a (1 : Int) Err.nil + (1 : Int)) (2 : Int) Err.nil ∧ (∃ (pre : List UInt8), ∃ (post : List UInt8), s.data.toList = pre ++ (beL (1 : Nat) l_1.length ++ cellsB l_1 ++ post) ∧ pre.length = (nmAt s (rdAt s a (1 : Int) Err.nil + (1 : Int)) (2 : Int) Err.nil).toNat) ∧ l_1.length ≤ (16 : Nat) ∧ (∀ (c : Cl), c ∈ l_1 → (0 : Int) ≤ c.fst ∧ c.fst < (4294967296 : Int)) ∧ s.size < (4611686018427387904 : Nat)) ∧ ∃ (zs : List (Int × ByteArray × Bool × (List (Int × Bool)))), List.map e_api_Partition zs = [PV.agg [PV.int IntKind.i64 (rdV s a (1 : Int) Err.nil), PV.str (nmT s (rdAt s a (1 : Int) Err.nil + (1 : Int)) (2 : Int) Err.nil), PV.bool v, PV.sl (Int × Bool) e_api_Cell l_1]] ∧ (l.length + (zs).length) * (TInfo.mk (TD.struct [((0 : Nat), (3 : TypeId)), ((1 : Nat), (9 : TypeId)), ((2 : Nat), (4 : TypeId)), ((3 : Nat), (50 : TypeId))]) (4 : Nat) (56 : Nat) [PV.int IntKind.i64 (0 : Int), PV.str (ByteArray.mk #[]), PV.bool false, PV.raw nilSlice] true [((3 : Nat), (75 : TypeId))]).bytes ≤ (140737488355328 : Nat) ∧ A (td Tryd.f12 (5 : Nat)) (envAt (57 : Nat) [((0 : Nat), PV.ptr (0 : Nat) (0 : Nat)), ((1 : Nat), PV.int IntKind.i64 n), ((6 : Nat), PV.own (1 : Nat)), ((7 : Nat), PV.int IntKind.i64 (rdV s a (1 : Int) Err.nil)), ((8 : Nat), PV.int IntKind.i64 (IntKind.i64.wrap (i + (1 : Int))))]) [AObj.box [PV.str s, PV.int IntKind.i64 (nmAt s (rdAt s a (1 : Int) Err.nil + (1 : Int)) (2 : Int) Err.nil + (1 : Int) + (5 : Int) * (↑l_1.length : Int)), PV.int IntKind.i64 (2 : Int), PV.err Err.nil], AObj.row (52 : Nat) (l ++ zs)]
else k [PV.own (1 : Nat), PV.err Err.nil] [AObj.box [PV.str s, PV.int IntKind.i64 a, PV.int IntKind.i64 (2 : Int), PV.err Err.nil], AObj.row (52 : Nat) l]) := by kernel_rfl
theorem fn_rSame8 : FnOk Tryd.prog 13 Tryd.f13 (bodyOf Tryd.f13) := ⟨by kernel_rfl, by kernel_rfl, by kernel_rfl⟩
noncomputable def ff_rSame8 : Fun := ⟨Tryd.f13.ntmps, 0, Tryd.f13.results.toList, fun i => match i with | 4 => some [0, 1, 5] | _ => none, fun _ => false, fun _ => []⟩
theorem nf_rSame8_a (A : KA Kd) (k : List PV → Heap Kd → Prop) (l : List Prt) : evT PC1 ff_rSame8 A k 400 false [.code (bodyOf Tryd.f13)] (startEnv 68 [.sl _ e_api_Partition l, .sl _ e_api_Partition l]) [] = (bif (↑l.length : Int) != (↑l.length : Int) then k [PV.bool false] []
else A (td Tryd.f13 (4 : Nat)) (envAt (68 : Nat) [((0 : Nat), PV.sl (Int × ByteArray × Bool × List (Int × Bool)) e_api_Partition l), ((1 : Nat), PV.sl (Int × ByteArray × Bool × List (Int × Bool)) e_api_Partition l), ((5 : Nat), PV.int IntKind.i64 (0 : Int))]) []) := by kernel_rfl
theorem nf_rSame8_b (A : KA Kd) (k : List PV → Heap Kd → Prop) (l : List Prt) (i : Int) : evT PC1 ff_rSame8 A k 400 true (td Tryd.f13 4) (envAt 68 [(0, .sl _ e_api_Partition l), (1, .sl _ e_api_Partition l), (5, .int .i64 i)]) [] = (bif decide (i < (↑l.length : Int)) then ((0 : Int) ≤ i ∧ i < (↑l.length : Int)) ∧ ∀ (y : Int × ByteArray × Bool × List (Int × Bool)), l[i.toNat]? = some y → ((0 : Int) ≤ i ∧ i < (↑l.length : Int)) ∧ ∀ (y_1 : Int × ByteArray × Bool × List (Int × Bool)), l[i.toNat]? = some y_1 → bif y.fst != y_1.fst then k [PV.bool false] [] else ((0 : Int) ≤ i ∧ i < (↑l.length : Int)) ∧ ∀ (y : Int × ByteArray × Bool × List (Int × Bool)), l[i.toNat]? = some y → ((0 : Int) ≤ i ∧ i < (↑l.length : Int)) ∧ ∀ (y_2 : Int × ByteArray × Bool × List (Int × Bool)), l[i.toNat]? = some y_2 → bif !y.snd.fst.toList == y_2.snd.fst.toList then k [PV.bool false] [] else ((0 : Int) ≤ i ∧ i < (↑l.length : Int)) ∧ ∀ (y : Int × ByteArray × Bool × List (Int × Bool)), l[i.toNat]? = some y → ((0 : Int) ≤ i ∧ i < (↑l.length : Int)) ∧ ∀ (y_3 : Int × ByteArray × Bool × List (Int × Bool)), l[i.toNat]? = some y_3 → bif !y.snd.snd.fst == y_3.snd.snd.fst then k [PV.bool false] [] else ((0 : Int) ≤ i ∧ i < (↑l.length : Int)) ∧ ∀ (y : Int × ByteArray × Bool × List (Int × Bool)), l[i.toNat]? = some y → ((0 : Int) ≤ i ∧ i < (↑l.length : Int)) ∧ ∀ (y_4 : Int × ByteArray × Bool × List (Int × Bool)), l[i.toNat]? = some y_4 → ∃ (l_1 : List Cl), PV.sl (Int × Bool) e_api_Cell y.snd.snd.snd = PV.sl (Int × Bool) e_api_Cell l_1 ∧ PV.sl (Int × Bool) e_api_Cell y_4.snd.snd.snd = PV.sl (Int × Bool) e_api_Cell l_1 ∧ l_1.length < (4611686018427387904 : Nat) ∧ A (td Tryd.f13 (4 : Nat)) (envAt (68 : Nat) [((0 : Nat), PV.sl (Int × ByteArray × Bool × List (Int × Bool)) e_api_Partition l), ((1 : Nat), PV.sl (Int × ByteArray × Bool × List (Int × Bool)) e_api_Partition l), ((5 : Nat), PV.int IntKind.i64 (IntKind.i64.wrap (i + (1 : Int))))]) []
else k [PV.bool true] []) := by kernel_rfl
theorem fn_long8 : FnOk Tryd.prog 5 Tryd.f5 (bodyOf Tryd.f5) := ⟨by kernel_rfl, by kernel_rfl, by kernel_rfl⟩
noncomputable def ff_long8 : Fun := ⟨Tryd.f5.ntmps, 0, Tryd.f5.results.toList, fun i => match i with | 2 => some [0, 5, 6, 7] | _ => none, fun _ => false, fun _ => []⟩
theorem nf_long8_a (A : KA Kd) (k : List PV → Heap Kd → Prop) (l : List Prt) : evT PC1 ff_long8 A k 400 false [.code (bodyOf Tryd.f5)] (startEnv 25 [.sl _ e_api_Partition l]) [] = (A (td Tryd.f5 (2 : Nat)) (envAt (25 : Nat) [((0 : Nat), PV.sl (Int × ByteArray × Bool × List (Int × Bool)) e_api_Partition l), ((5 : Nat), PV.sl (Int × ByteArray × Bool × List (Int × Bool)) e_api_Partition l), ((6 : Nat), PV.int IntKind.i64 (↑l.length : Int)), ((7 : Nat), PV.int IntKind.i64 (0 : Int))]) []) := by kernel_rfl
theorem nf_long8_b (A : KA Kd) (k : List PV → Heap Kd → Prop) (l m : List Prt) (n i : Int) : evT PC1 ff_long8 A k 400 true (td Tryd.f5 2) (envAt 25 [(0, .sl _ e_api_Partition m), (5, .sl _ e_api_Partition l), (6, .int .i64 n), (7, .int .i64 i)]) [] = (bif decide (i < n) then ((0 : Int) ≤ i ∧ i < (↑l.length : Int)) ∧ ∀ (y : Int × ByteArray × Bool × List (Int × Bool)), l[i.toNat]? = some y → bif decide ((↑y.snd.fst.size : Int) > (100 : Int)) then k [PV.bool true] [] else bif decide ((↑y.snd.snd.snd.length : Int) > (40 : Int)) then k [PV.bool true] [] else A (td Tryd.f5 (2 : Nat)) (envAt (25 : Nat) [((0 : Nat), PV.sl (Int × ByteArray × Bool × List (Int × Bool)) e_api_Partition m), ((5 : Nat), PV.sl (Int × ByteArray × Bool × List (Int × Bool)) e_api_Partition l), ((6 : Nat), PV.int IntKind.i64 n), ((7 : Nat), PV.int IntKind.i64 (IntKind.i64.wrap (i + (1 : Int))))]) []
else k [PV.bool (decide ((↑m.length : Int) > (40 : Int)))] []) := by kernel_rfl
def pReadS : List PV → Heap Kd → (List PV → Heap Kd → Prop) → Prop := fun ys L k => match ys, L with
  | [.ptr 0 0, .int .i64 n], [.box [.str s, .int .i64 a, .int .i64 sec, .err e]] => ∃ (l : List Prt), (e = .nil ∧ 0 ≤ a ∧ n = (l.length : Int) ∧ l.length < 100000 ∧ Has s a.toNat (prtsB l) ∧ (prtsE none 0 l).isNil = true ∧ (∀ x, x ∈ l → ∀ c, c ∈ x.2.2.2 → OkC c) ∧ s.size < 4611686018427387904) ∧ k [.own 1, .err .nil] [.box [.str s, .int .i64 (a + ((prtsB l).length : Int)), .int .i64 2, .err .nil], .row 52 l]
  | _, _ => False
theorem pReadS_inv {ys : List PV} {L : Heap Kd} {k : List PV → Heap Kd → Prop} (h : pReadS ys L k) : ∃ (s : ByteArray) (a : Int) (sec : Int) (n : Int) (e : Err) (l : List Prt), ys = [.ptr 0 0, .int .i64 n] ∧ L = [.box [.str s, .int .i64 a, .int .i64 sec, .err e]] ∧ (e = .nil ∧ 0 ≤ a ∧ n = (l.length : Int) ∧ l.length < 100000 ∧ Has s a.toNat (prtsB l) ∧ (prtsE none 0 l).isNil = true ∧ (∀ x, x ∈ l → ∀ c, c ∈ x.2.2.2 → OkC c) ∧ s.size < 4611686018427387904) ∧ k [.own 1, .err .nil] [.box [.str s, .int .i64 (a + ((prtsB l).length : Int)), .int .i64 2, .err .nil], .row 52 l] := by
  unfold pReadS at h
  split at h
  · obtain ⟨a0, hz⟩ := h
    exact ⟨_, _, _, _, _, a0, rfl, rfl, hz⟩
  · exact h.elim
theorem pRead_loop (A : KA Kd) (k : List PV → Heap Kd → Prop) (hA : Closed PC1 ff_pRead k A) (s : ByteArray) (hs : s.size < 4611686018427387904) (N : Nat) (hN : N < 100000) :
    ∀ (r : List Prt) (i a : Nat) (acc : List Prt) (last : Int) (p : Option Int) (ix : Nat), i + r.length = N → acc.length ≤ i → Has s a (prtsB r) → (prtsE p ix r).isNil = true → (match p with | some q => last = q | none => last = -1) → (∀ x, x ∈ r → ∀ c, c ∈ x.2.2.2 → OkC c) →
      k [.own 1, .err .nil] [.box [.str s, .int .i64 ((a + (prtsB r).length : Nat) : Int), .int .i64 2, .err .nil], .row 52 (addPr acc r)] →
      A (td Tryd.f12 5) (envAt 57 [(0, .ptr 0 0), (1, .int .i64 (N : Int)), (6, .own 1), (7, .int .i64 last), (8, .int .i64 (i : Int))]) [.box [.str s, .int .i64 (a : Int), .int .i64 2, .err .nil], .row 52 acc] := by
  intro r
  induction r with
  | nil =>
    intro i a acc last p ix hi _ _ _ _ _ hk
    refine (hA.nf (nf_pRead_b A k s _ _ last _ acc) ?_)
    have hi : i = N := hi
    rw [ilt_false (by omega), cond_false]
    have e : addPr acc [] = acc := List.append_nil acc
    rw [e] at hk; exact hk
  | cons y r ih =>
    intro i a acc last p ix hi hacc h he hp hc hk
    rw [List.length_cons] at hi
    refine (hA.nf (nf_pRead_b A k s _ _ last _ acc) ?_)
    rw [ilt_true (by omega), cond_true]
    rw [prtsE_cons] at he
    cases cE : wE1 p y.1 (prtR y) == 0 with
    | false => rw [cE] at he; cases he
    | true =>
    rw [cE] at he
    obtain ⟨z1, z2⟩ := wE1_zero (eq_of_beq cE)
    obtain ⟨o1, o2, o3⟩ := prtR_ok z1
    have hlast : last < y.1 := by
      cases p with
      | none => simp only at hp; omega
      | some q => have := z2 q rfl; simp only at hp; omega
    have hlen := prtB_len y
    rw [prtsB] at h
    have hy := h.left
    have hyl := hy.size
    unfold prtB at hy
    have q1 := hy.right' (b := a + 1) (by rw [beL_len])
    have q2 := q1.right' (b := a + 2) (by rw [beL_len])
    have q3 := q2.right' (b := a + 2 + (y.2.1.size + 1)) (by rw [nameB_len])
    obtain ⟨r1, r1', r1''⟩ := hy.left.rd (by rw [q256_1]; omega) (x := (a : Int)) (y := 1) rfl rfl
    rw [Int.toNat_of_nonneg o1.1] at r1
    have d : decide (y.1 > last) = true := decide_eq_true hlast
    rw [r1, r1', r1'', d]
    have ea : ((a + 1 : Nat) : Int) + 1 = ((a + 2 : Nat) : Int) := by omega
    rw [ea]
    obtain ⟨n1, n2, n3⟩ := name_back (sec := 2) q2.left o2 (x := ((a + 2 : Nat) : Int)) rfl
    rw [n1, n2, n3]
    have h1 : Has s ((a + 1 : Nat) : Int).toNat (beL 1 (bitN y.2.2.1)) := by rw [Int.toNat_natCast]; exact q1.left
    have h3 : Has s ((a + 2 + (y.2.1.size + 1) : Nat) : Int).toNat (beL 1 y.2.2.2.length ++ cellsB y.2.2.2) := by rw [Int.toNat_natCast]; exact q3
    refine ⟨⟨by omega, by omega, hs⟩, y.2.2.1, ⟨rfl, by omega, h1, hs⟩, ⟨by omega, by omega, hs⟩, y.2.2.2, ⟨rfl, by omega, h3, o3, hc y List.mem_cons_self, hs⟩, [y], rfl, by show (acc.length + 1) * 56 ≤ _; omega, ?_⟩
    have e0 : ((a + 2 + (y.2.1.size + 1) : Nat) : Int) + 1 + 5 * (y.2.2.2.length : Int) = ((a + (prtB y).length : Nat) : Int) := by omega
    rw [wrap_succ (by omega), e0]
    refine ih (i + 1) (a + (prtB y).length) (acc ++ [y]) y.1 (some y.1) (ix + 1) (by omega) (by rw [List.length_append, List.length_singleton]; omega) h.right he rfl (fun x hx => hc x (List.mem_cons_of_mem _ hx)) ?_
    have e1 : a + (prtB y).length + (prtsB r).length = a + (prtsB (y :: r)).length := by rw [prtsB, List.length_append]; omega
    have e2 : addPr (acc ++ [y]) r = addPr acc (y :: r) := by unfold addPr; rw [List.append_assoc]; rfl
    rw [e1, e2]; exact hk
theorem ok_pRead : FunF B 12 1 pReadS := by
  refine funF_of (N := 57) (f := ff_pRead) env_PC1 mixed fn_pRead (by kernel_rfl) (by kernel_rfl) ?_
  intro A k ys L hA hF
  obtain ⟨s, a, sec, n, e, l, rfl, rfl, ⟨he, h0, rfl, hl, h, hE, hc, hs⟩, hk⟩ := pReadS_inv hF; clear hF
  subst he
  refine ⟨by kernel_rfl, (hA.nf (nf_pRead_a A k s a sec _) ?_)⟩
  obtain ⟨m, rfl⟩ : ∃ m : Nat, a = m := ⟨a.toNat, by omega⟩
  rw [Int.toNat_natCast] at h
  refine pRead_loop A k hA s hs l.length hl l 0 m [] (-1) none 0 (by omega) (Nat.le_refl _) h hE rfl hc ?_
  have e1 : ((m + (prtsB l).length : Nat) : Int) = (m : Int) + ((prtsB l).length : Int) := by omega
  rw [e1]; exact hk
def rSame8S : SpecS := fun ys Φ => match ys with
  | [x_0, x_1] => ∃ (l : List Prt), x_0 = .sl _ e_api_Partition l ∧ x_1 = .sl _ e_api_Partition l ∧ (l.length < 4611686018427387904 ∧ (∀ x, x ∈ l → x.2.2.2.length < 4611686018427387904)) ∧ Φ [.bool true]
  | _ => False
theorem rSame8S_mono : MonoS rSame8S := by
  intro ys Φ Ψ h hF
  unfold rSame8S at hF ⊢
  split at hF
  · obtain ⟨a0, q0, q1, hp, hk⟩ := hF; exact ⟨a0, q0, q1, hp, h _ hk⟩
  · exact hF.elim
theorem rSame8S_inv {ys : List PV} {Φ : List PV → Prop} (h : rSame8S ys Φ) : ∃ (l : List Prt), ys = [.sl _ e_api_Partition l, .sl _ e_api_Partition l] ∧ (l.length < 4611686018427387904 ∧ (∀ x, x ∈ l → x.2.2.2.length < 4611686018427387904)) ∧ Φ [.bool true] := by
  unfold rSame8S at h
  split at h
  · obtain ⟨a0, q0, q1, hz⟩ := h
    subst q0
    subst q1
    exact ⟨a0, rfl, hz⟩
  · exact h.elim
theorem ok_rSame8 : FunS B 13 rSame8S := by
  refine funS_of (N := 68) (f := ff_rSame8) env_PC1 mixed fn_rSame8 (by kernel_rfl) (by kernel_rfl) (by kernel_rfl) rSame8S_mono ?_
  intro A k ys hA hF
  obtain ⟨l, rfl, ⟨hl, hw⟩, hk⟩ := rSame8S_inv hF; clear hF
  refine ⟨by kernel_rfl, (hA.nf (nf_rSame8_a A k l) ?_)⟩
  have nb : ∀ n : Int, (n != n) = false := fun n => bne_self_eq_false n
  rw [nb, cond_false]
  refine down_loop l (fun i => A (td Tryd.f13 4) (envAt 68 [(0, .sl _ e_api_Partition l), (1, .sl _ e_api_Partition l), (5, .int .i64 (i : Int))]) []) ?_ ?_ 0 (Nat.zero_le _)
  · refine (hA.nf (nf_rSame8_b A k l _) ?_)
    rw [ilt_false (Nat.lt_irrefl _)]; exact hk
  · intro i y hy ih
    have hlt := lt_of_get hy
    refine (hA.nf (nf_rSame8_b A k l _) ?_)
    rw [ilt_true hlt, cond_true]
    refine get_at hy (get_at hy ?_)
    rw [nb, cond_false]
    refine get_at hy (get_at hy ?_)
    rw [beq_self_eq_true, Bool.not_true, cond_false]
    refine get_at hy (get_at hy ?_)
    rw [beq_self_eq_true, Bool.not_true, cond_false]
    refine get_at hy (get_at hy ⟨y.2.2.2, rfl, rfl, hw y (List.mem_of_getElem? hy), ?_⟩)
    rw [wrap_succ (by omega)]
    exact ih
def long8S : SpecS := fun ys Φ => match ys with
  | [x_0] => ∃ (l : List Prt), x_0 = .sl _ e_api_Partition l ∧ (l.length ≤ 9223372036854775807) ∧ Φ [.bool (longP l)]
  | _ => False
theorem long8S_mono : MonoS long8S := by
  intro ys Φ Ψ h hF
  unfold long8S at hF ⊢
  split at hF
  · obtain ⟨a0, q0, hp, hk⟩ := hF; exact ⟨a0, q0, hp, h _ hk⟩
  · exact hF.elim
theorem long8S_inv {ys : List PV} {Φ : List PV → Prop} (h : long8S ys Φ) : ∃ (l : List Prt), ys = [.sl _ e_api_Partition l] ∧ (l.length ≤ 9223372036854775807) ∧ Φ [.bool (longP l)] := by
  unfold long8S at h
  split at h
  · obtain ⟨a0, q0, hz⟩ := h
    subst q0
    exact ⟨a0, rfl, hz⟩
  · exact h.elim
theorem ok_long8 : FunS B 5 long8S := by
  refine funS_of (N := 25) (f := ff_long8) env_PC1 mixed fn_long8 (by kernel_rfl) (by kernel_rfl) (by kernel_rfl) long8S_mono ?_
  intro A k ys hA hF
  obtain ⟨l, rfl, hl, hk⟩ := long8S_inv hF; clear hF
  refine ⟨by kernel_rfl, (hA.nf (nf_long8_a A k l) ?_)⟩
  unfold longP at hk
  refine down_loop l (fun i => k [.bool (longRowsP (l.drop i) || decide ((l.length : Int) > 40))] [] → A (td Tryd.f5 2) (envAt 25 [(0, .sl _ e_api_Partition l), (5, .sl _ e_api_Partition l), (6, .int .i64 (l.length : Int)), (7, .int .i64 (i : Int))]) []) ?_ ?_ 0 (Nat.zero_le _) hk
  · intro hk
    refine (hA.nf (nf_long8_b A k l l _ _) ?_)
    rw [ilt_false (Nat.lt_irrefl _)]
    rw [List.drop_length] at hk; exact hk
  · intro i y hy ih hk
    have hlt := lt_of_get hy
    refine (hA.nf (nf_long8_b A k l l _ _) ?_)
    rw [ilt_true hlt, cond_true]
    refine get_at hy ?_
    rw [drop_cons' hy, longRowsP] at hk
    cases c1 : decide ((y.2.1.size : Int) > 100) with
    | true => rw [c1] at hk; exact hk
    | false =>
    cases c2 : decide ((y.2.2.2.length : Int) > 40) with
    | true => rw [c1, c2] at hk; exact hk
    | false =>
    rw [c1, c2] at hk
    rw [cond_false, cond_false, wrap_id _ (by omega) (by omega)]
    exact ih hk
end Go.Ab.T
