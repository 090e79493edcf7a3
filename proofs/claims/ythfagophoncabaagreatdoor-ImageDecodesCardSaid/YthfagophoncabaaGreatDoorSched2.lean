import Derived.Test.YthfagophoncabaaGreatDoorSched1
import Derived.Test.YthfagophoncabaaGreatDoorAbC
set_option linter.unusedVariables false
set_option linter.unusedSimpArgs false
set_option linter.unusedSectionVars false
namespace Go.Ab.T
open Go Go.Ab Go.Proofs
variable [DMode]
set_option maxRecDepth 100000
set_option maxHeartbeats 4000000
noncomputable def E0 := base (fun g => match g with | 117 => some (lift 0 cloneS) | 132 => some (lift 1 sPutS) | 133 => some (lift 1 prWindowS) | 134 => some (lift 1 prNeedS) | _ => none) (fun g => match g with | 111 => some newS | 110 => some atS | 109 => some inS | 86 => some num9S | 131 => some schRS | 81 => some schRS | _ => none) (fun _ => none)
theorem env_E0 : EnvOk E0 := env_of (by
 intro g F h
 split at h
 ·cases h; exact ok_New
 ·cases h; exact ok_At
 ·cases h; exact ok_In
 ·cases h; exact ok_num9
 ·cases h; exact ok_schR
 ·cases h; exact ok_rschR
 ·cases h) (by
 intro g F h
 split at h
 ·cases h; exact (lift_ok ok_clone)
 ·cases h; exact (lift_ok ok_sPut)
 ·cases h; exact (lift_ok ok_prWindow)
 ·cases h; exact (lift_ok ok_prNeed)
 ·cases h) (fun g F h => (by cases h))
theorem fn_sPutA : FnOk Tryz.prog 64 Tryz.f64 (bodyOf Tryz.f64) := ⟨by kernel_rfl, by kernel_rfl, by kernel_rfl⟩
noncomputable def ff_sPutA : Fun := ⟨Tryz.f64.ntmps, 0, Tryz.f64.results.toList, fun i => match i with | 3 => some [0, 1, 6, 12, 13, 14] | _ => none, fun _ => false, fun _ => []⟩
theorem nf_sPutA_a (A : KA Kd) (k : List PV -> Heap Kd -> Prop) (b : List UInt8) (l : List Sch) : evT E0 ff_sPutA A k 400 false [.code (bodyOf Tryz.f64)] (startEnv 73 [.sl _ e_uint8 b, .sl _ e_api_Schedule l]) [] = (∃ (l_1 : List UInt8), PV.sl UInt8 e_uint8 b = PV.sl UInt8 e_uint8 l_1 /\ l_1.length < 1099511627776 /\ A (td Tryz.f64 3) (envAt 73 [(0, .sl UInt8 e_uint8 b), (1, .sl (Int × Int × List (Int × Int × Int) × List (Int × Int × Int)) e_api_Schedule l), (6, .own 0), (12, .sl (Int × Int × List (Int × Int × Int) × List (Int × Int × Int)) e_api_Schedule l), (13, .int .i64 (↑l.length : Int)), (14, .int .i64 0)]) [.row 5 l_1]) := by kernel_rfl
theorem nf_sPutA_b (A : KA Kd) (k : List PV -> Heap Kd -> Prop) (b out : List UInt8) (l : List Sch) (n i : Int) : evT E0 ff_sPutA A k 400 true (td Tryz.f64 3) (envAt 73 [(0, .sl _ e_uint8 b), (1, .sl _ e_api_Schedule l), (6, .own 0), (12, .sl _ e_api_Schedule l), (13, .int .i64 n), (14, .int .i64 i)]) [.row 5 out] = (bif decide (i < n) then (0 <= i /\ i < (↑l.length : Int)) /\ ∀ (y : Int × Int × List (Int × Int × Int) × List (Int × Int × Int)), l[i.toNat]? = some y -> ∃ (id : Int), ∃ (fr : Int), ∃ (ws : List W3), ∃ (ns : List W3), PV.agg [PV.int IntKind.i64 y.fst, PV.int IntKind.i64 y.snd.fst, PV.sl (Int × Int × Int) e_api_Window y.snd.snd.fst, PV.sl (Int × Int × Int) e_api_Need y.snd.snd.snd] = PV.agg [PV.int IntKind.i64 id, PV.int IntKind.i64 fr, PV.sl (Int × Int × Int) e_api_Window ws, PV.sl (Int × Int × Int) e_api_Need ns] /\ (ws.length < 9223372036854775808 /\ ns.length < 9223372036854775808) /\ bif schR (id, fr, ws, ns) == 0 then bif decide (i > 0) then (0 <= IntKind.i64.wrap (i - 1) /\ IntKind.i64.wrap (i - 1) < (↑l.length : Int)) /\ ∀ (y_1 : Int × Int × List (Int × Int × Int) × List (Int × Int × Int)), l[(IntKind.i64.wrap (i - 1)).toNat]? = some y_1 -> bif decide (y.fst <= y_1.fst) then ∃ (l : List UInt8), PV.sl UInt8 e_uint8 b = PV.sl UInt8 e_uint8 l /\ l.length < 1099511627776 /\ k [.own 0, .err (inE (3 : Int) (atE i (newE (9 : Int))))] [.row 5 l] else bif schR (id, fr, ws, ns) != 0 then ∃ (l : List UInt8), PV.sl UInt8 e_uint8 b = PV.sl UInt8 e_uint8 l /\ l.length < 1099511627776 /\ k [.own 0, .err (inE (3 : Int) (atE i (newE (schR (id, fr, ws, ns)))))] [.row 5 l] else (sizeOk 1 = true /\ 0 <= y.fst /\ y.fst < 4611686018427387904 /\ y.fst < (↑((256 : Nat) ^ Int.toNat (1 : Int)) : Int) /\ out.length < 1099511627776) /\ (sizeOk 4 = true /\ 0 <= y.snd.fst /\ y.snd.fst < 4611686018427387904 /\ y.snd.fst < (↑((256 : Nat) ^ Int.toNat (4 : Int)) : Int) /\ (addN out y.fst (1 : Int)).length < 1099511627776) /\ (sizeOk 2 = true /\ 0 <= (↑y.snd.snd.fst.length : Int) /\ (↑y.snd.snd.fst.length : Int) < 4611686018427387904 /\ (↑y.snd.snd.fst.length : Int) < (↑((256 : Nat) ^ Int.toNat (2 : Int)) : Int) /\ (addN (addN out y.fst (1 : Int)) y.snd.fst (4 : Int)).length < 1099511627776) /\ ∃ (ws : List W3), PV.sl (Int × Int × Int) e_api_Window y.snd.snd.fst = PV.sl (Int × Int × Int) e_api_Window ws /\ ((∀ (w : W3), w ∈ ws -> okW w = true) /\ (addN (addN (addN out y.fst (1 : Int)) y.snd.fst (4 : Int)) (↑y.snd.snd.fst.length : Int) (2 : Int)).length + 9 * ws.length < 1099511627776) /\ (sizeOk 1 = true /\ 0 <= (↑y.snd.snd.snd.length : Int) /\ (↑y.snd.snd.snd.length : Int) < 4611686018427387904 /\ (↑y.snd.snd.snd.length : Int) < (↑((256 : Nat) ^ Int.toNat (1 : Int)) : Int) /\ (addR (addN (addN (addN out y.fst (1 : Int)) y.snd.fst (4 : Int)) (↑y.snd.snd.fst.length : Int) (2 : Int)) ws).length < 1099511627776) /\ ∃ (ws_1 : List W3), PV.sl (Int × Int × Int) e_api_Need y.snd.snd.snd = PV.sl (Int × Int × Int) e_api_Need ws_1 /\ ((∀ (w : W3), w ∈ ws_1 -> okW w = true) /\ (addN (addR (addN (addN (addN out y.fst (1 : Int)) y.snd.fst (4 : Int)) (↑y.snd.snd.fst.length : Int) (2 : Int)) ws) (↑y.snd.snd.snd.length : Int) (1 : Int)).length + 9 * ws_1.length < 1099511627776) /\ A (td Tryz.f64 3) (envAt 73 [(0, .sl UInt8 e_uint8 b), (1, .sl (Int × Int × List (Int × Int × Int) × List (Int × Int × Int)) e_api_Schedule l), (6, .own 0), (12, .sl (Int × Int × List (Int × Int × Int) × List (Int × Int × Int)) e_api_Schedule l), (13, .int .i64 n), (14, .int .i64 (IntKind.i64.wrap (i + 1)))]) [.row 5 (addR (addN (addR (addN (addN (addN out y.fst (1 : Int)) y.snd.fst (4 : Int)) (↑y.snd.snd.fst.length : Int) (2 : Int)) ws) (↑y.snd.snd.snd.length : Int) (1 : Int)) ws_1)] else bif schR (id, fr, ws, ns) != 0 then ∃ (l : List UInt8), PV.sl UInt8 e_uint8 b = PV.sl UInt8 e_uint8 l /\ l.length < 1099511627776 /\ k [.own 0, .err (inE (3 : Int) (atE i (newE (schR (id, fr, ws, ns)))))] [.row 5 l] else (sizeOk 1 = true /\ 0 <= y.fst /\ y.fst < 4611686018427387904 /\ y.fst < (↑((256 : Nat) ^ Int.toNat (1 : Int)) : Int) /\ out.length < 1099511627776) /\ (sizeOk 4 = true /\ 0 <= y.snd.fst /\ y.snd.fst < 4611686018427387904 /\ y.snd.fst < (↑((256 : Nat) ^ Int.toNat (4 : Int)) : Int) /\ (addN out y.fst (1 : Int)).length < 1099511627776) /\ (sizeOk 2 = true /\ 0 <= (↑y.snd.snd.fst.length : Int) /\ (↑y.snd.snd.fst.length : Int) < 4611686018427387904 /\ (↑y.snd.snd.fst.length : Int) < (↑((256 : Nat) ^ Int.toNat (2 : Int)) : Int) /\ (addN (addN out y.fst (1 : Int)) y.snd.fst (4 : Int)).length < 1099511627776) /\ ∃ (ws : List W3), PV.sl (Int × Int × Int) e_api_Window y.snd.snd.fst = PV.sl (Int × Int × Int) e_api_Window ws /\ ((∀ (w : W3), w ∈ ws -> okW w = true) /\ (addN (addN (addN out y.fst (1 : Int)) y.snd.fst (4 : Int)) (↑y.snd.snd.fst.length : Int) (2 : Int)).length + 9 * ws.length < 1099511627776) /\ (sizeOk 1 = true /\ 0 <= (↑y.snd.snd.snd.length : Int) /\ (↑y.snd.snd.snd.length : Int) < 4611686018427387904 /\ (↑y.snd.snd.snd.length : Int) < (↑((256 : Nat) ^ Int.toNat (1 : Int)) : Int) /\ (addR (addN (addN (addN out y.fst (1 : Int)) y.snd.fst (4 : Int)) (↑y.snd.snd.fst.length : Int) (2 : Int)) ws).length < 1099511627776) /\ ∃ (ws_1 : List W3), PV.sl (Int × Int × Int) e_api_Need y.snd.snd.snd = PV.sl (Int × Int × Int) e_api_Need ws_1 /\ ((∀ (w : W3), w ∈ ws_1 -> okW w = true) /\ (addN (addR (addN (addN (addN out y.fst (1 : Int)) y.snd.fst (4 : Int)) (↑y.snd.snd.fst.length : Int) (2 : Int)) ws) (↑y.snd.snd.snd.length : Int) (1 : Int)).length + 9 * ws_1.length < 1099511627776) /\ A (td Tryz.f64 3) (envAt 73 [(0, .sl UInt8 e_uint8 b), (1, .sl (Int × Int × List (Int × Int × Int) × List (Int × Int × Int)) e_api_Schedule l), (6, .own 0), (12, .sl (Int × Int × List (Int × Int × Int) × List (Int × Int × Int)) e_api_Schedule l), (13, .int .i64 n), (14, .int .i64 (IntKind.i64.wrap (i + 1)))]) [.row 5 (addR (addN (addR (addN (addN (addN out y.fst (1 : Int)) y.snd.fst (4 : Int)) (↑y.snd.snd.fst.length : Int) (2 : Int)) ws) (↑y.snd.snd.snd.length : Int) (1 : Int)) ws_1)] else bif schR (id, fr, ws, ns) != 0 then ∃ (l : List UInt8), PV.sl UInt8 e_uint8 b = PV.sl UInt8 e_uint8 l /\ l.length < 1099511627776 /\ k [.own 0, .err (inE (3 : Int) (atE i (newE (schR (id, fr, ws, ns)))))] [.row 5 l] else (sizeOk 1 = true /\ 0 <= y.fst /\ y.fst < 4611686018427387904 /\ y.fst < (↑((256 : Nat) ^ Int.toNat (1 : Int)) : Int) /\ out.length < 1099511627776) /\ (sizeOk 4 = true /\ 0 <= y.snd.fst /\ y.snd.fst < 4611686018427387904 /\ y.snd.fst < (↑((256 : Nat) ^ Int.toNat (4 : Int)) : Int) /\ (addN out y.fst (1 : Int)).length < 1099511627776) /\ (sizeOk 2 = true /\ 0 <= (↑y.snd.snd.fst.length : Int) /\ (↑y.snd.snd.fst.length : Int) < 4611686018427387904 /\ (↑y.snd.snd.fst.length : Int) < (↑((256 : Nat) ^ Int.toNat (2 : Int)) : Int) /\ (addN (addN out y.fst (1 : Int)) y.snd.fst (4 : Int)).length < 1099511627776) /\ ∃ (ws : List W3), PV.sl (Int × Int × Int) e_api_Window y.snd.snd.fst = PV.sl (Int × Int × Int) e_api_Window ws /\ ((∀ (w : W3), w ∈ ws -> okW w = true) /\ (addN (addN (addN out y.fst (1 : Int)) y.snd.fst (4 : Int)) (↑y.snd.snd.fst.length : Int) (2 : Int)).length + 9 * ws.length < 1099511627776) /\ (sizeOk 1 = true /\ 0 <= (↑y.snd.snd.snd.length : Int) /\ (↑y.snd.snd.snd.length : Int) < 4611686018427387904 /\ (↑y.snd.snd.snd.length : Int) < (↑((256 : Nat) ^ Int.toNat (1 : Int)) : Int) /\ (addR (addN (addN (addN out y.fst (1 : Int)) y.snd.fst (4 : Int)) (↑y.snd.snd.fst.length : Int) (2 : Int)) ws).length < 1099511627776) /\ ∃ (ws_1 : List W3), PV.sl (Int × Int × Int) e_api_Need y.snd.snd.snd = PV.sl (Int × Int × Int) e_api_Need ws_1 /\ ((∀ (w : W3), w ∈ ws_1 -> okW w = true) /\ (addN (addR (addN (addN (addN out y.fst (1 : Int)) y.snd.fst (4 : Int)) (↑y.snd.snd.fst.length : Int) (2 : Int)) ws) (↑y.snd.snd.snd.length : Int) (1 : Int)).length + 9 * ws_1.length < 1099511627776) /\ A (td Tryz.f64 3) (envAt 73 [(0, .sl UInt8 e_uint8 b), (1, .sl (Int × Int × List (Int × Int × Int) × List (Int × Int × Int)) e_api_Schedule l), (6, .own 0), (12, .sl (Int × Int × List (Int × Int × Int) × List (Int × Int × Int)) e_api_Schedule l), (13, .int .i64 n), (14, .int .i64 (IntKind.i64.wrap (i + 1)))]) [.row 5 (addR (addN (addR (addN (addN (addN out y.fst (1 : Int)) y.snd.fst (4 : Int)) (↑y.snd.snd.fst.length : Int) (2 : Int)) ws) (↑y.snd.snd.snd.length : Int) (1 : Int)) ws_1)]
else k [PV.own (0 : Nat), PV.err Err.nil] [AObj.row (5 : Nat) out]) := by kernel_rfl
def sPutAS : List PV -> Heap Kd -> (List PV -> Heap Kd -> Prop) -> Prop := fun ys L k => match ys, L with
 | [x_0, x_1], [] => ∃ (b : List UInt8), ∃ (l : List Sch), x_0 = .sl _ e_uint8 b /\ x_1 = .sl _ e_api_Schedule l /\ (b.length < 1000000 /\ l.length < 100000 /\ (∀ x, x ∈ l -> x.2.2.1.length < 9223372036854775808 /\ x.2.2.2.length < 9223372036854775808)) /\ k [.own 0, .err (schsE none 0 l)] [.row 5 (outS b (schsE none 0 l) b (schsB l))]
 | _, _ => False
theorem sPutAS_inv {ys : List PV} {L : Heap Kd} {k : List PV -> Heap Kd -> Prop} (h : sPutAS ys L k) : ∃ (b : List UInt8) (l : List Sch), ys = [.sl _ e_uint8 b, .sl _ e_api_Schedule l] /\ L = [] /\ (b.length < 1000000 /\ l.length < 100000 /\ (∀ x, x ∈ l -> x.2.2.1.length < 9223372036854775808 /\ x.2.2.2.length < 9223372036854775808)) /\ k [.own 0, .err (schsE none 0 l)] [.row 5 (outS b (schsE none 0 l) b (schsB l))] := by
 unfold sPutAS at h
 split at h
 ·obtain ⟨a0, a1, q0, q1, hz⟩ := h
  subst q0
  subst q1
  exact ⟨a0, a1, rfl, rfl, hz⟩
 ·exact h.elim
theorem sPutA_loop (A : KA Kd) (k : List PV -> Heap Kd -> Prop) (hA : Closed E0 ff_sPutA k A) (b : List UInt8) (l : List Sch) (hb : b.length < 1000000) (hl : l.length < 100000) (hw : ∀ x, x ∈ l -> x.2.2.1.length < 9223372036854775808 /\ x.2.2.2.length < 9223372036854775808) :
 ∀ i, i <= l.length -> ∀ out : List UInt8, out.length + 3000 * (l.length - i) < 1000000000 -> k [.own 0, .err (schsE (prevS l i) i (l.drop i))] [.row 5 (outS b (schsE (prevS l i) i (l.drop i)) out (schsB (l.drop i)))] ->
  A (td Tryz.f64 3) (envAt 73 [(0, .sl _ e_uint8 b), (1, .sl _ e_api_Schedule l), (6, .own 0), (12, .sl _ e_api_Schedule l), (13, .int .i64 (l.length : Int)), (14, .int .i64 (i : Int))]) [.row 5 out] := by
 refine down_loop l _ ?_ ?_
 ·intro out _ hk
  refine (hA.nf (nf_sPutA_b A k b out l _ _) ?_)
  rw [ilt_false (Nat.lt_irrefl _)]
  rw [List.drop_length] at hk
  have e : outS b (schsE (prevS l l.length) l.length []) out (schsB []) = out := by show out ++ [] = out; exact List.append_nil _
  rw [e] at hk; exact hk
 ·intro i y hy ih out ho hk
  have hlt := lt_of_get hy
  refine (hA.nf (nf_sPutA_b A k b out l _ _) ?_)
  have p1 : ((256 ^ Int.toNat 1 : Nat) : Int) = 256 := by decide
  have p2 : ((256 ^ Int.toNat 2 : Nat) : Int) = 65536 := by decide
  have p4 : ((256 ^ Int.toNat 4 : Nat) : Int) = 4294967296 := by decide
  rw [p1, p2, p4]
  rw [ilt_true hlt]
  obtain ⟨w1, w2⟩ := hw y (List.mem_of_getElem? hy)
  refine get_at hy ⟨y.1, y.2.1, y.2.2.1, y.2.2.2, rfl, ⟨w1, w2⟩, ?_⟩
  have hprev : prevS l (i + 1) = some y.1 := by show (l[i]?).map _ = _; rw [hy]; rfl
  rw [drop_cons' hy, schsE_cons] at hk
  show (bif schR y == 0 then _ else _ : Prop)
  have bne : ∀ v : Int, (v != 0) = !(v == 0) := fun _ => rfl
  cases c1 : schR y == 0 with
  | false =>
   rw [schE1_bad c1, c1] at hk
   have hT : ∀ {p q : Prop}, p -> (bif schR y != 0 then p else q) := fun {p q} h => by rw [bne, c1]; exact h
   refine hT ⟨b, rfl, by omega, ?_⟩
   rw [sch_err (by rcases schR_cases y with h | h | h <;> simp [h]) c1]; exact hk
  | true =>
   obtain ⟨o1, o2, o3, o4, o5, o6⟩ := schR_ok (eq_of_beq c1)
   have hF : ∀ {p q : Prop}, q -> (bif schR y != 0 then p else q) := fun {p q} h => by rw [bne, c1]; exact h
   rcases i with _ | i
   ·have hp : prevS l 0 = none := rfl
    rw [hp, schE1_none c1] at hk
    rw [cond_true]
    have d0 : decide (((0 : Nat) : Int) > 0) = false := rfl
    rw [d0, cond_false]
    refine hF ?_
    have q1 := addN_1 out y.1
    have q2 := addN_4 (addN out y.1 1) y.2.1
    have q3 := addN_2 (addN (addN out y.1 1) y.2.1 4) (y.2.2.1.length : Int)
    have q4 := addR_len (addN (addN (addN out y.1 1) y.2.1 4) (y.2.2.1.length : Int) 2) y.2.2.1
    have q5 := addN_1 (addR (addN (addN (addN out y.1 1) y.2.1 4) (y.2.2.1.length : Int) 2) y.2.2.1) (y.2.2.2.length : Int)
    have q6 := addR_len (addN (addR (addN (addN (addN out y.1 1) y.2.1 4) (y.2.2.1.length : Int) 2) y.2.2.1) (y.2.2.2.length : Int) 1) y.2.2.2
    refine ⟨⟨rfl, by omega, by omega, by omega, by omega⟩, ⟨rfl, by omega, by omega, by omega, by omega⟩, ⟨rfl, by omega, by omega, by omega, by omega⟩, y.2.2.1, rfl, ⟨o4, by omega⟩, ⟨rfl, by omega, by omega, by omega, by omega⟩, y.2.2.2, rfl, ⟨o6, by omega⟩, ?_⟩
    rw [wrap_succ9 (by omega)]
    refine ih _ (by omega) ?_
    rw [hprev, sch_bytes]; exact hk
   ·obtain ⟨z, hz⟩ : ∃ z, l[i]? = some z := ⟨l[i]'(by omega), List.getElem?_eq_getElem (by omega)⟩
    have hp : prevS l (i + 1) = some z.1 := by show (l[i]?).map _ = _; rw [hz]; rfl
    rw [hp, schE1_some c1] at hk
    rw [cond_true]
    have d0 : decide (((i + 1 : Nat) : Int) > 0) = true := decide_eq_true (by omega)
    rw [d0, cond_true]
    refine get_at' (i := i) (by rw [wrap_id _ (by omega) (by omega)]; omega) hz ?_
    cases c2 : decide (y.1 <= z.1) with
    | true =>
     rw [c2] at hk
     exact ⟨b, rfl, by omega, hk⟩
    | false =>
    rw [c2] at hk
    rw [cond_false]
    refine hF ?_
    have q1 := addN_1 out y.1
    have q2 := addN_4 (addN out y.1 1) y.2.1
    have q3 := addN_2 (addN (addN out y.1 1) y.2.1 4) (y.2.2.1.length : Int)
    have q4 := addR_len (addN (addN (addN out y.1 1) y.2.1 4) (y.2.2.1.length : Int) 2) y.2.2.1
    have q5 := addN_1 (addR (addN (addN (addN out y.1 1) y.2.1 4) (y.2.2.1.length : Int) 2) y.2.2.1) (y.2.2.2.length : Int)
    have q6 := addR_len (addN (addR (addN (addN (addN out y.1 1) y.2.1 4) (y.2.2.1.length : Int) 2) y.2.2.1) (y.2.2.2.length : Int) 1) y.2.2.2
    refine ⟨⟨rfl, by omega, by omega, by omega, by omega⟩, ⟨rfl, by omega, by omega, by omega, by omega⟩, ⟨rfl, by omega, by omega, by omega, by omega⟩, y.2.2.1, rfl, ⟨o4, by omega⟩, ⟨rfl, by omega, by omega, by omega, by omega⟩, y.2.2.2, rfl, ⟨o6, by omega⟩, ?_⟩
    rw [wrap_succ9 (by omega)]
    refine ih _ (by omega) ?_
    rw [hprev, sch_bytes]; exact hk
theorem ok_sPutA : FunF B 64 0 sPutAS := by
 refine funF_of (N := 73) (f := ff_sPutA) env_E0 mixed fn_sPutA (by kernel_rfl) (by kernel_rfl) ?_
 intro A k ys L hA hF
 obtain ⟨b, l, rfl, rfl, ⟨hb, hl, hw⟩, hk⟩ := sPutAS_inv hF; clear hF
 refine ⟨by kernel_rfl, (hA.nf (nf_sPutA_a A k b l) ?_)⟩
 exact ⟨b, rfl, by omega, sPutA_loop A k hA b l hb hl hw 0 (Nat.zero_le _) b (by omega) hk⟩
end Go.Ab.T
