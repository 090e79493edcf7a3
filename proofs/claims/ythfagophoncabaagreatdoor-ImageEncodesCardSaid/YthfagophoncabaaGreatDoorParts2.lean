import Derived.Test.YthfagophoncabaaGreatDoorParts1
import Derived.Test.YthfagophoncabaaGreatDoorReader
import Derived.Test.YthfagophoncabaaGreatDoorMaB
import Derived.Test.YthfagophoncabaaGreatDoorAbC
set_option linter.unusedVariables false
set_option linter.unusedSimpArgs false
set_option linter.unusedSectionVars false
namespace Go.Ab.T
open Go Go.Ab Go.Proofs
variable [DMode]
set_option maxRecDepth 100000
set_option maxHeartbeats 4000000
noncomputable def PB0 := base (fun g => match g with | 49 => some (eitherOwn (lift 1 putIS) (lift 0 putS)) | 162 => some (eitherOwn (lift 1 nPutIS) (lift 0 nPutS)) | _ => none) (fun g => match g with | 161 => some bitS | _ => none) (fun _ => none)
theorem env_PB0 : EnvOk PB0 := env_of (by
 intro g F h
 split at h
 ·cases h; exact ok_bit
 ·cases h) (by
 intro g F h
 split at h
 ·cases h; exact (eitherOwn_ok (lift_ok ok_putI) (lift_ok ok_put))
 ·cases h; exact (eitherOwn_ok (lift_ok ok_nPutI) (lift_ok ok_nPut))
 ·cases h) (fun g F h => (by cases h))
def pPutS : List PV -> Heap Kd -> (List PV -> Heap Kd -> Prop) -> Prop := fun ys L k => match ys, L with
 | [.own 0, x_1], [.row 5 l] => ∃ (id : Int), ∃ (nm : ByteArray), ∃ (may : Bool), ∃ (cs : List Cl), x_1 = .agg [.int .i64 id, .str nm, .bool may, .sl _ e_api_Cell cs] /\ (OkP (id, nm, may, cs) /\ (∀ c, c ∈ cs -> OkC c) /\ l.length < 1000000000) /\ k [.own 0] [.row 5 (addP l (id, nm, may, cs))]
 | _, _ => False
theorem pPutS_inv {ys : List PV} {L : Heap Kd} {k : List PV -> Heap Kd -> Prop} (h : pPutS ys L k) : ∃ (l : List UInt8) (id : Int) (nm : ByteArray) (may : Bool) (cs : List Cl), ys = [.own 0, .agg [.int .i64 id, .str nm, .bool may, .sl _ e_api_Cell cs]] /\ L = [.row 5 l] /\ (OkP (id, nm, may, cs) /\ (∀ c, c ∈ cs -> OkC c) /\ l.length < 1000000000) /\ k [.own 0] [.row 5 (addP l (id, nm, may, cs))] := by
 unfold pPutS at h
 split at h
 ·obtain ⟨a0, a1, a2, a3, q0, hz⟩ := h
  subst q0
  exact ⟨_, a0, a1, a2, a3, rfl, rfl, hz⟩
 ·exact h.elim
theorem fn_pPut : FnOk Tryz.prog 130 Tryz.f130 (bodyOf Tryz.f130) := ⟨by kernel_rfl, by kernel_rfl, by kernel_rfl⟩
noncomputable def ff_pPut : Fun := ⟨Tryz.f130.ntmps, 1, Tryz.f130.results.toList, fun i => match i with | 6 => some [0, 40, 41, 42] | _ => none, fun _ => false, fun _ => []⟩
theorem nf_pPut_a (A : KA Kd) (k : List PV -> Heap Kd -> Prop) (l : List UInt8) (id : Int) (nm : ByteArray) (may : Bool) (cs : List Cl) : evT PB0 ff_pPut A k 400 false [.code (bodyOf Tryz.f130)] (startEnv 64 [.own 0, .agg [.int .i64 id, .str nm, .bool may, .sl _ e_api_Cell cs]]) [.row 5 l] = ((0 <= IntKind.u64.wrap id /\ IntKind.u64.wrap id < 18446744073709551616 /\ l.length < 1099511627776) /\ (0 <= (↑(bitN may) : Int) /\ (↑(bitN may) : Int) < 18446744073709551616 /\ (putV l (IntKind.u64.wrap id) 1).length < 1099511627776) /\ (putV (putV l (IntKind.u64.wrap id) 1) (↑(bitN may) : Int) 1).length < 1099511627000 /\ (0 <= IntKind.u64.wrap (↑cs.length : Int) /\ IntKind.u64.wrap (↑cs.length : Int) < 18446744073709551616 /\ (nPutV (putV (putV l (IntKind.u64.wrap id) 1) (↑(bitN may) : Int) 1) nm).length < 1099511627776) /\ A (td Tryz.f130 6) (envAt 64 [(0, .own 0), (40, .sl (Int × Bool) e_api_Cell cs), (41, .int .i64 (↑cs.length : Int)), (42, .int .i64 0)]) [.row 5 (putV (nPutV (putV (putV l (IntKind.u64.wrap id) 1) (↑(bitN may) : Int) 1) nm) (IntKind.u64.wrap (↑cs.length : Int)) 1)]) := by kernel_rfl
theorem nf_pPut_b (A : KA Kd) (k : List PV -> Heap Kd -> Prop) (l : List UInt8) (cs : List Cl) (n i : Int) : evT PB0 ff_pPut A k 400 true (td Tryz.f130 6) (envAt 64 [(0, .own 0), (40, .sl _ e_api_Cell cs), (41, .int .i64 n), (42, .int .i64 i)]) [.row 5 l] = (bif decide (i < n) then (0 <= i /\ i < (↑cs.length : Int)) /\ ∀ (y : Int × Bool), cs[i.toNat]? = some y -> (0 <= (↑(bitN y.snd) : Int) /\ (↑(bitN y.snd) : Int) < 18446744073709551616 /\ l.length < 1099511627776) /\ (0 <= IntKind.u64.wrap y.fst /\ IntKind.u64.wrap y.fst < 18446744073709551616 /\ (putV l (↑(bitN y.snd) : Int) 1).length < 1099511627776) /\ A (td Tryz.f130 6) (envAt 64 [(0, .own 0), (40, .sl (Int × Bool) e_api_Cell cs), (41, .int .i64 n), (42, .int .i64 (IntKind.i64.wrap (i + 1)))]) [.row 5 (putV (putV l (↑(bitN y.snd) : Int) 1) (IntKind.u64.wrap y.fst) 4)]
else k [PV.own (0 : Nat)] [AObj.row (5 : Nat) l]) := by kernel_rfl
theorem pPut_loop (A : KA Kd) (k : List PV -> Heap Kd -> Prop) (hA : Closed PB0 ff_pPut k A) (cs : List Cl) (hn : cs.length <= 16) (hc : ∀ c, c ∈ cs -> OkC c) :
 ∀ i, i <= cs.length -> ∀ l : List UInt8, l.length + 5 * (cs.length - i) < 1099511000000 -> k [.own 0] [.row 5 (addC l (cs.drop i))] ->
  A (td Tryz.f130 6) (envAt 64 [(0, .own 0), (40, .sl _ e_api_Cell cs), (41, .int .i64 (cs.length : Int)), (42, .int .i64 (i : Int))]) [.row 5 l] := by
 refine down_loop cs _ ?_ ?_
 ·intro l _ hk
  refine (hA.nf (nf_pPut_b A k l cs _ _) ?_)
  rw [ilt_false (Nat.lt_irrefl _)]
  rw [List.drop_length, addC, cellsB, List.append_nil] at hk; exact hk
 ·intro i y hy ih l hl hk
  have hlt := lt_of_get hy
  refine (hA.nf (nf_pPut_b A k l cs _ _) ?_)
  rw [ilt_true hlt, cond_true]
  obtain ⟨c1, c2⟩ := hc y (List.mem_of_getElem? hy)
  obtain ⟨b1, b2, _⟩ := bitN_lt y.2
  have p1 : ((256 ^ Int.toNat 1 : Nat) : Int) = 256 := by decide
  have p4 : ((256 ^ Int.toNat 4 : Nat) : Int) = 4294967296 := by decide
  refine get_at hy ?_
  rw [u64_id y.1 c1 (by omega), putV_ok l (v := (bitN y.2 : Int)) rfl (by rw [p1]; omega), putV_ok _ (v := y.1) rfl (by rw [p4]; omega)]
  have e1 : Int.toNat 1 = 1 := rfl
  have e4 : Int.toNat 4 = 4 := rfl
  rw [e1, e4, Int.toNat_natCast]
  have q1 : (l ++ beL 1 (bitN y.2)).length = l.length + 1 := by rw [List.length_append, beL_len]
  have q2 : (l ++ beL 1 (bitN y.2) ++ beL 4 y.1.toNat).length = l.length + 5 := by rw [List.length_append, List.length_append, beL_len, beL_len]
  refine ⟨⟨by omega, by omega, by omega⟩, ⟨by omega, by omega, by omega⟩, ?_⟩
  rw [wrap_succ (by omega)]
  refine ih _ (by omega) ?_
  have e : addC (l ++ beL 1 (bitN y.2) ++ beL 4 y.1.toNat) (cs.drop (i + 1)) = addC l (cs.drop i) := by
   rw [drop_cons' hy]; unfold addC; rw [cellsB, cellB]
   simp only [List.append_assoc]
  rw [e]; exact hk
theorem ok_pPut : FunF B 130 1 pPutS := by
 refine funF_of (N := 64) (f := ff_pPut) env_PB0 mixed fn_pPut (by kernel_rfl) (by kernel_rfl) ?_
 intro A k ys L hA hF
 obtain ⟨l, id, nm, may, cs, rfl, rfl, ⟨⟨⟨o1, o1'⟩, o2, o3⟩, hc, hl⟩, hk⟩ := pPutS_inv hF; clear hF
 refine ⟨by kernel_rfl, (hA.nf (nf_pPut_a A k l id nm may cs) ?_)⟩
 simp only at o1 o1' o2 o3
 obtain ⟨r1, r2⟩ := right_len o2
 obtain ⟨b1, b2, _⟩ := bitN_lt may
 have p1 : ((256 ^ Int.toNat 1 : Nat) : Int) = 256 := by decide
 have e1 : Int.toNat 1 = 1 := rfl
 have hnm : ∀ l : List UInt8, nPutV l nm = l ++ nameB nm := fun l => by unfold nPutV; rw [o2]; rfl
 rw [u64_id id o1 (by omega), u64_id (cs.length : Int) (by omega) (by omega), putV_ok l (v := id) rfl (by rw [p1]; omega), putV_ok _ (v := (bitN may : Int)) rfl (by rw [p1]; omega), hnm, putV_ok _ (v := (cs.length : Int)) rfl (by rw [p1]; omega)]
 rw [e1, Int.toNat_natCast, Int.toNat_natCast]
 have q1 : (l ++ beL 1 id.toNat).length = l.length + 1 := by rw [List.length_append, beL_len]
 have q2 : (l ++ beL 1 id.toNat ++ beL 1 (bitN may)).length = l.length + 2 := by rw [List.length_append, List.length_append, beL_len, beL_len]
 have q3 : (l ++ beL 1 id.toNat ++ beL 1 (bitN may) ++ nameB nm).length = l.length + 3 + nm.size := by rw [List.length_append, q2, nameB_len]; omega
 have q4 : (l ++ beL 1 id.toNat ++ beL 1 (bitN may) ++ nameB nm ++ beL 1 cs.length).length = l.length + 4 + nm.size := by rw [List.length_append, q3, beL_len]; omega
 refine ⟨⟨by omega, by omega, by omega⟩, ⟨by omega, by omega, by omega⟩, by omega, ⟨by omega, by omega, by omega⟩, ?_⟩
 refine pPut_loop A k hA cs o3 hc 0 (Nat.zero_le _) _ (by omega) ?_
 have e : addC (l ++ beL 1 id.toNat ++ beL 1 (bitN may) ++ nameB nm ++ beL 1 cs.length) (cs.drop 0) = addP l (id, nm, may, cs) := by
  unfold addC addP prtB; simp only [List.append_assoc, List.drop_zero]
 rw [e]; exact hk
def rTruS : SpecS := fun ys Φ => match ys with
 | [.bool v] => Φ [.str ⟨(beL 1 (bitN v)).toArray⟩]
 | _ => False
theorem rTruS_mono : MonoS rTruS := by
 intro ys Φ Ψ h hF
 unfold rTruS at hF ⊢
 split at hF
 ·exact h _ hF
 ·exact hF.elim
theorem rTruS_inv {ys : List PV} {Φ : List PV -> Prop} (h : rTruS ys Φ) : ∃ (v : Bool), ys = [.bool v] /\ Φ [.str ⟨(beL 1 (bitN v)).toArray⟩] := by
 unfold rTruS at h
 split at h
 ·exact ⟨_, rfl, h⟩
 ·exact h.elim
theorem fn_rTru : FnOk Tryz.prog 84 Tryz.f84 (bodyOf Tryz.f84) := ⟨by kernel_rfl, by kernel_rfl, by kernel_rfl⟩
noncomputable def ff_rTru : Fun := ⟨Tryz.f84.ntmps, 0, Tryz.f84.results.toList, fun _ => none, fun _ => false, fun _ => []⟩
theorem nf_rTru (A : KA Kd) (k : List PV -> Heap Kd -> Prop) (v : Bool) : evT PB0 ff_rTru A k 400 false [.code (bodyOf Tryz.f84)] (startEnv 4 [.bool v]) [] = (bif v then k [.str (ByteArray.mk #[(1 : UInt8)])] [] else k [.str (ByteArray.mk #[(0 : UInt8)])] []) := by kernel_rfl
theorem ok_rTru : FunS B 84 rTruS := by
 refine funS_of (N := 4) (f := ff_rTru) env_PB0 mixed fn_rTru (by kernel_rfl) (by kernel_rfl) (by kernel_rfl) rTruS_mono ?_
 intro A k ys hA hF
 obtain ⟨v, rfl, hk⟩ := rTruS_inv hF; clear hF
 refine ⟨by kernel_rfl, (hA.nf (nf_rTru A k v) ?_)⟩
 cases v with
 | true => exact by_nf (q := k [.str ⟨(beL 1 (bitN true)).toArray⟩] []) (by kernel_rfl) hk
 | false => exact by_nf (q := k [.str ⟨(beL 1 (bitN false)).toArray⟩] []) (by kernel_rfl) hk
def rTx6S : SpecS := fun ys Φ => match ys with
 | [.str s] => (s.size < 256) /\ Φ [.str (ByteArray.mk (nameB s).toArray)]
 | _ => False
theorem rTx6S_mono : MonoS rTx6S := by
 intro ys Φ Ψ h hF
 unfold rTx6S at hF ⊢
 split at hF
 ·obtain ⟨hp, hk⟩ := hF; exact ⟨hp, h _ hk⟩
 ·exact hF.elim
theorem rTx6S_inv {ys : List PV} {Φ : List PV -> Prop} (h : rTx6S ys Φ) : ∃ (s : ByteArray), ys = [.str s] /\ (s.size < 256) /\ Φ [.str (ByteArray.mk (nameB s).toArray)] := by
 unfold rTx6S at h
 split at h
 ·exact ⟨_, rfl, h⟩
 ·exact h.elim
theorem fn_rTx6 : FnOk Tryz.prog 85 Tryz.f85 (bodyOf Tryz.f85) := ⟨by kernel_rfl, by kernel_rfl, by kernel_rfl⟩
noncomputable def ff_rTx6 : Fun := ⟨Tryz.f85.ntmps, 0, Tryz.f85.results.toList, fun _ => none, fun _ => false, fun _ => []⟩
theorem nf_rTx6 (A : KA Kd) (k : List PV -> Heap Kd -> Prop) (s : ByteArray) : evT PB0 ff_rTx6 A k 400 false [.code (bodyOf Tryz.f85)] (startEnv 10 [.str s]) [] = (∃ (zs : List UInt8), List.map e_uint8 zs = [PV.int IntKind.u8 (IntKind.u8.wrap (↑s.size : Int))] /\ (∀ (y : UInt8), y ∈ zs -> isU8 (e_uint8 y) = true) /\ (strPV (List.map e_uint8 zs)).size + s.size <= 9223372036854775807 /\ k [.str (strPV (List.map e_uint8 zs) ++ s)] []) := by kernel_rfl
theorem ok_rTx6 : FunS B 85 rTx6S := by
 refine funS_of (N := 10) (f := ff_rTx6) env_PB0 mixed fn_rTx6 (by kernel_rfl) (by kernel_rfl) (by kernel_rfl) rTx6S_mono ?_
 intro A k ys hA hF
 obtain ⟨s, rfl, h0, hk⟩ := rTx6S_inv hF; clear hF
 refine ⟨by kernel_rfl, (hA.nf (nf_rTx6 A k s) ?_)⟩
 have hb2 : (UInt8.ofNat s.size).toNat = s.size := by rw [UInt8.toNat_ofNat']; omega
 refine ⟨[UInt8.ofNat s.size], ?_, fun y _ => rfl, ?_, ?_⟩
 ·show [PV.int .u8 (((UInt8.ofNat s.size).toNat : Nat) : Int)] = _
  rw [hb2, u8_id _ (by omega) (by omega)]
 ·rw [strPV_e, mk_size]; show 1 + s.size <= _; omega
 ·rw [strPV_e]
  have e : (ByteArray.mk [UInt8.ofNat s.size].toArray ++ s) = ByteArray.mk (nameB s).toArray := by
   apply ByteArray.ext; apply Array.ext'; simp [nameB]
  rw [e]; exact hk
noncomputable def PB1 := base (fun g => match g with | 117 => some (lift 0 cloneS) | 89 => some (lift 1 NeedS) | 90 => some (lift 1 U8S) | 130 => some (lift 1 pPutS) | _ => none) (fun g => match g with | 111 => some newS | 110 => some atS | 109 => some inS | 31 => some r01TS | 129 => some prtRS | 80 => some prtRS | 43 => some PlaceS | 84 => some rTruS | 85 => some rTx6S | _ => none) (fun _ => none)
theorem env_PB1 : EnvOk PB1 := env_of (by
 intro g F h
 split at h
 ·cases h; exact ok_New
 ·cases h; exact ok_At
 ·cases h; exact ok_In
 ·cases h; exact ok_r01T
 ·cases h; exact ok_prtR
 ·cases h; exact ok_rprtR
 ·cases h; exact ok_Place
 ·cases h; exact ok_rTru
 ·cases h; exact ok_rTx6
 ·cases h) (by
 intro g F h
 split at h
 ·cases h; exact (lift_ok ok_clone)
 ·cases h; exact (lift_ok ok_Need)
 ·cases h; exact (lift_ok ok_U8)
 ·cases h; exact (lift_ok ok_pPut)
 ·cases h) (fun g F h => (by cases h))
theorem fn_pPutA : FnOk Tryz.prog 62 Tryz.f62 (bodyOf Tryz.f62) := ⟨by kernel_rfl, by kernel_rfl, by kernel_rfl⟩
noncomputable def ff_pPutA : Fun := ⟨Tryz.f62.ntmps, 0, Tryz.f62.results.toList, fun i => match i with | 3 => some [0, 1, 6, 12, 13, 14] | _ => none, fun _ => false, fun _ => []⟩
theorem nf_pPutA_a (A : KA Kd) (k : List PV -> Heap Kd -> Prop) (b : List UInt8) (l : List Prt) : evT PB1 ff_pPutA A k 400 false [.code (bodyOf Tryz.f62)] (startEnv 52 [.sl _ e_uint8 b, .sl _ e_api_Partition l]) [] = (∃ (l_1 : List UInt8), PV.sl UInt8 e_uint8 b = PV.sl UInt8 e_uint8 l_1 /\ l_1.length < 1099511627776 /\ A (td Tryz.f62 3) (envAt 52 [(0, .sl UInt8 e_uint8 b), (1, .sl (Int × ByteArray × Bool × List (Int × Bool)) e_api_Partition l), (6, .own 0), (12, .sl (Int × ByteArray × Bool × List (Int × Bool)) e_api_Partition l), (13, .int .i64 (↑l.length : Int)), (14, .int .i64 0)]) [.row 5 l_1]) := by kernel_rfl
theorem nf_pPutA_b (A : KA Kd) (k : List PV -> Heap Kd -> Prop) (b out : List UInt8) (l : List Prt) (n i : Int) : evT PB1 ff_pPutA A k 400 true (td Tryz.f62 3) (envAt 52 [(0, .sl _ e_uint8 b), (1, .sl _ e_api_Partition l), (6, .own 0), (12, .sl _ e_api_Partition l), (13, .int .i64 n), (14, .int .i64 i)]) [.row 5 out] = (bif decide (i < n) then (0 <= i /\ i < (↑l.length : Int)) /\ ∀ (y : Int × ByteArray × Bool × List (Int × Bool)), l[i.toNat]? = some y -> ∃ (id : Int), ∃ (nm : ByteArray), ∃ (may : Bool), ∃ (cs : List Cl), PV.agg [PV.int IntKind.i64 y.fst, PV.str y.snd.fst, PV.bool y.snd.snd.fst, PV.sl (Int × Bool) e_api_Cell y.snd.snd.snd] = PV.agg [PV.int IntKind.i64 id, PV.str nm, PV.bool may, PV.sl (Int × Bool) e_api_Cell cs] /\ bif prtR (id, nm, may, cs) == 0 then bif decide (i > 0) then (0 <= IntKind.i64.wrap (i - 1) /\ IntKind.i64.wrap (i - 1) < (↑l.length : Int)) /\ ∀ (y_1 : Int × ByteArray × Bool × List (Int × Bool)), l[(IntKind.i64.wrap (i - 1)).toNat]? = some y_1 -> bif decide (y.fst <= y_1.fst) then ∃ (l : List UInt8), PV.sl UInt8 e_uint8 b = PV.sl UInt8 e_uint8 l /\ l.length < 1099511627776 /\ k [.own 0, .err (inE (2 : Int) (atE i (newE (9 : Int))))] [.row 5 l] else bif prtR (id, nm, may, cs) != 0 then ∃ (l : List UInt8), PV.sl UInt8 e_uint8 b = PV.sl UInt8 e_uint8 l /\ l.length < 1099511627776 /\ k [.own 0, .err (inE (2 : Int) (atE i (newE (prtR (id, nm, may, cs)))))] [.row 5 l] else ∃ (id : Int), ∃ (nm : ByteArray), ∃ (may : Bool), ∃ (cs : List Cl), PV.agg [PV.int IntKind.i64 y.fst, PV.str y.snd.fst, PV.bool y.snd.snd.fst, PV.sl (Int × Bool) e_api_Cell y.snd.snd.snd] = PV.agg [PV.int IntKind.i64 id, PV.str nm, PV.bool may, PV.sl (Int × Bool) e_api_Cell cs] /\ (((0 <= (id, nm, may, cs).fst /\ (id, nm, may, cs).fst <= 255) /\ rightN (id, nm, may, cs).snd.fst = true /\ (id, nm, may, cs).snd.snd.snd.length <= 16) /\ (∀ (c : Cl), c ∈ cs -> 0 <= c.fst /\ c.fst < 4294967296) /\ out.length < 1000000000) /\ A (td Tryz.f62 3) (envAt 52 [(0, .sl UInt8 e_uint8 b), (1, .sl (Int × ByteArray × Bool × List (Int × Bool)) e_api_Partition l), (6, .own 0), (12, .sl (Int × ByteArray × Bool × List (Int × Bool)) e_api_Partition l), (13, .int .i64 n), (14, .int .i64 (IntKind.i64.wrap (i + 1)))]) [.row 5 (addP out (id, nm, may, cs))] else bif prtR (id, nm, may, cs) != 0 then ∃ (l : List UInt8), PV.sl UInt8 e_uint8 b = PV.sl UInt8 e_uint8 l /\ l.length < 1099511627776 /\ k [.own 0, .err (inE (2 : Int) (atE i (newE (prtR (id, nm, may, cs)))))] [.row 5 l] else ∃ (id : Int), ∃ (nm : ByteArray), ∃ (may : Bool), ∃ (cs : List Cl), PV.agg [PV.int IntKind.i64 y.fst, PV.str y.snd.fst, PV.bool y.snd.snd.fst, PV.sl (Int × Bool) e_api_Cell y.snd.snd.snd] = PV.agg [PV.int IntKind.i64 id, PV.str nm, PV.bool may, PV.sl (Int × Bool) e_api_Cell cs] /\ (((0 <= (id, nm, may, cs).fst /\ (id, nm, may, cs).fst <= 255) /\ rightN (id, nm, may, cs).snd.fst = true /\ (id, nm, may, cs).snd.snd.snd.length <= 16) /\ (∀ (c : Cl), c ∈ cs -> 0 <= c.fst /\ c.fst < 4294967296) /\ out.length < 1000000000) /\ A (td Tryz.f62 3) (envAt 52 [(0, .sl UInt8 e_uint8 b), (1, .sl (Int × ByteArray × Bool × List (Int × Bool)) e_api_Partition l), (6, .own 0), (12, .sl (Int × ByteArray × Bool × List (Int × Bool)) e_api_Partition l), (13, .int .i64 n), (14, .int .i64 (IntKind.i64.wrap (i + 1)))]) [.row 5 (addP out (id, nm, may, cs))] else bif prtR (id, nm, may, cs) != 0 then ∃ (l : List UInt8), PV.sl UInt8 e_uint8 b = PV.sl UInt8 e_uint8 l /\ l.length < 1099511627776 /\ k [.own 0, .err (inE (2 : Int) (atE i (newE (prtR (id, nm, may, cs)))))] [.row 5 l] else ∃ (id : Int), ∃ (nm : ByteArray), ∃ (may : Bool), ∃ (cs : List Cl), PV.agg [PV.int IntKind.i64 y.fst, PV.str y.snd.fst, PV.bool y.snd.snd.fst, PV.sl (Int × Bool) e_api_Cell y.snd.snd.snd] = PV.agg [PV.int IntKind.i64 id, PV.str nm, PV.bool may, PV.sl (Int × Bool) e_api_Cell cs] /\ (((0 <= (id, nm, may, cs).fst /\ (id, nm, may, cs).fst <= 255) /\ rightN (id, nm, may, cs).snd.fst = true /\ (id, nm, may, cs).snd.snd.snd.length <= 16) /\ (∀ (c : Cl), c ∈ cs -> 0 <= c.fst /\ c.fst < 4294967296) /\ out.length < 1000000000) /\ A (td Tryz.f62 3) (envAt 52 [(0, .sl UInt8 e_uint8 b), (1, .sl (Int × ByteArray × Bool × List (Int × Bool)) e_api_Partition l), (6, .own 0), (12, .sl (Int × ByteArray × Bool × List (Int × Bool)) e_api_Partition l), (13, .int .i64 n), (14, .int .i64 (IntKind.i64.wrap (i + 1)))]) [.row 5 (addP out (id, nm, may, cs))]
else k [PV.own (0 : Nat), PV.err Err.nil] [AObj.row (5 : Nat) out]) := by kernel_rfl
theorem fn_rWrong8 : FnOk Tryz.prog 22 Tryz.f22 (bodyOf Tryz.f22) := ⟨by kernel_rfl, by kernel_rfl, by kernel_rfl⟩
noncomputable def ff_rWrong8 : Fun := ⟨Tryz.f22.ntmps, 0, Tryz.f22.results.toList, fun i => match i with | 2 => some [0, 2, 3] | _ => none, fun _ => false, fun _ => []⟩
theorem nf_rWrong8_a (A : KA Kd) (k : List PV -> Heap Kd -> Prop) (l : List Prt) : evT PB1 ff_rWrong8 A k 400 false [.code (bodyOf Tryz.f22)] (startEnv 42 [.sl _ e_api_Partition l]) [] = (A (td Tryz.f22 2) (envAt 42 [(0, .sl (Int × ByteArray × Bool × List (Int × Bool)) e_api_Partition l), (2, .ptr 0 0), (3, .int .i64 0)]) [.box [.int .i64 0, .int .i64 0, .int .i64 0]]) := by kernel_rfl
theorem nf_rWrong8_b (A : KA Kd) (k : List PV -> Heap Kd -> Prop) (l : List Prt) (i : Int) : evT PB1 ff_rWrong8 A k 400 true (td Tryz.f22 2) (envAt 42 [(0, .sl _ e_api_Partition l), (2, .ptr 0 0), (3, .int .i64 i)]) [.box [.int .i64 0, .int .i64 0, .int .i64 0]] = (bif decide (i < (↑l.length : Int)) then (0 <= i /\ i < (↑l.length : Int)) /\ ∀ (y : Int × ByteArray × Bool × List (Int × Bool)), l[i.toNat]? = some y -> ∃ (id : Int), ∃ (nm : ByteArray), ∃ (may : Bool), ∃ (cs : List Cl), PV.agg [PV.int IntKind.i64 y.fst, PV.str y.snd.fst, PV.bool y.snd.snd.fst, PV.sl (Int × Bool) e_api_Cell y.snd.snd.snd] = PV.agg [PV.int IntKind.i64 id, PV.str nm, PV.bool may, PV.sl (Int × Bool) e_api_Cell cs] /\ bif prtR (id, nm, may, cs) == 0 then bif decide (i > 0) then (0 <= i /\ i < (↑l.length : Int)) /\ ∀ (y : Int × ByteArray × Bool × List (Int × Bool)), l[i.toNat]? = some y -> (0 <= IntKind.i64.wrap (i - 1) /\ IntKind.i64.wrap (i - 1) < (↑l.length : Int)) /\ ∀ (y_1 : Int × ByteArray × Bool × List (Int × Bool)), l[(IntKind.i64.wrap (i - 1)).toNat]? = some y_1 -> bif decide (y.fst <= y_1.fst) then k [.agg [.int .i64 9, .int .i64 2, .int .i64 i]] [] else bif prtR (id, nm, may, cs) != 0 then k [.agg [.int .i64 (prtR (id, nm, may, cs)), .int .i64 2, .int .i64 i]] [] else A (td Tryz.f22 2) (envAt 42 [(0, .sl (Int × ByteArray × Bool × List (Int × Bool)) e_api_Partition l), (2, .ptr 0 0), (3, .int .i64 (IntKind.i64.wrap (i + 1)))]) [.box [.int .i64 0, .int .i64 0, .int .i64 0]] else bif prtR (id, nm, may, cs) != 0 then k [.agg [.int .i64 (prtR (id, nm, may, cs)), .int .i64 2, .int .i64 i]] [] else A (td Tryz.f22 2) (envAt 42 [(0, .sl (Int × ByteArray × Bool × List (Int × Bool)) e_api_Partition l), (2, .ptr 0 0), (3, .int .i64 (IntKind.i64.wrap (i + 1)))]) [.box [.int .i64 0, .int .i64 0, .int .i64 0]] else bif prtR (id, nm, may, cs) != 0 then k [.agg [.int .i64 (prtR (id, nm, may, cs)), .int .i64 2, .int .i64 i]] [] else A (td Tryz.f22 2) (envAt 42 [(0, .sl (Int × ByteArray × Bool × List (Int × Bool)) e_api_Partition l), (2, .ptr 0 0), (3, .int .i64 (IntKind.i64.wrap (i + 1)))]) [.box [.int .i64 0, .int .i64 0, .int .i64 0]]
else k [PV.agg [PV.int IntKind.i64 (0 : Int), PV.int IntKind.i64 (0 : Int), PV.int IntKind.i64 (0 : Int)]] []) := by kernel_rfl
theorem fn_rText8 : FnOk Tryz.prog 26 Tryz.f26 (bodyOf Tryz.f26) := ⟨by kernel_rfl, by kernel_rfl, by kernel_rfl⟩
noncomputable def ff_rText8 : Fun := ⟨Tryz.f26.ntmps, 0, Tryz.f26.results.toList, fun i => match i with | 8 => some [0, 3, 4, 5, 6] | 3 => some [0, 3, 4] | _ => none, fun _ => false, fun _ => []⟩
theorem nf_rText8_a (A : KA Kd) (k : List PV -> Heap Kd -> Prop) (l : List Prt) : evT PB1 ff_rText8 A k 400 false [.code (bodyOf Tryz.f26)] (startEnv 63 [.sl _ e_api_Partition l]) [] = (A (td Tryz.f26 3) (envAt 63 [(0, .sl (Int × ByteArray × Bool × List (Int × Bool)) e_api_Partition l), (3, .str ⟨#[]⟩), (4, .int .i64 0)]) []) := by kernel_rfl
theorem nf_rText8_b (A : KA Kd) (k : List PV -> Heap Kd -> Prop) (l : List Prt) (s : ByteArray) (i : Int) : evT PB1 ff_rText8 A k 400 true (td Tryz.f26 3) (envAt 63 [(0, .sl _ e_api_Partition l), (3, .str s), (4, .int .i64 i)]) [] = (bif decide (i < (↑l.length : Int)) then (0 <= i /\ i < (↑l.length : Int)) /\ ∀ (y : Int × ByteArray × Bool × List (Int × Bool)), l[i.toNat]? = some y -> ((0 <= IntKind.u64.wrap y.fst /\ IntKind.u64.wrap y.fst < 18446744073709551616) /\ (0 : Int) <= (1 : Int) /\ (1 : Int) <= (100 : Int)) /\ (ByteArray.mk (beL (Int.toNat (1 : Int)) (IntKind.u64.wrap y.fst).toNat).toArray).size + (ByteArray.mk (beL (1 : Nat) (bitN y.snd.snd.fst)).toArray).size <= 9223372036854775807 /\ y.snd.fst.size < 256 /\ (ByteArray.mk (beL (Int.toNat (1 : Int)) (IntKind.u64.wrap y.fst).toNat).toArray ++ ByteArray.mk (beL (1 : Nat) (bitN y.snd.snd.fst)).toArray).size + (ByteArray.mk (nameB y.snd.fst).toArray).size <= 9223372036854775807 /\ ((0 <= IntKind.u64.wrap (↑y.snd.snd.snd.length : Int) /\ IntKind.u64.wrap (↑y.snd.snd.snd.length : Int) < 18446744073709551616) /\ (0 : Int) <= (1 : Int) /\ (1 : Int) <= (100 : Int)) /\ (ByteArray.mk (beL (Int.toNat (1 : Int)) (IntKind.u64.wrap y.fst).toNat).toArray ++ ByteArray.mk (beL (1 : Nat) (bitN y.snd.snd.fst)).toArray ++ ByteArray.mk (nameB y.snd.fst).toArray).size + (ByteArray.mk (beL (Int.toNat (1 : Int)) (IntKind.u64.wrap (↑y.snd.snd.snd.length : Int)).toNat).toArray).size <= 9223372036854775807 /\ s.size + (ByteArray.mk (beL (Int.toNat (1 : Int)) (IntKind.u64.wrap y.fst).toNat).toArray ++ ByteArray.mk (beL (1 : Nat) (bitN y.snd.snd.fst)).toArray ++ ByteArray.mk (nameB y.snd.fst).toArray ++ ByteArray.mk (beL (Int.toNat (1 : Int)) (IntKind.u64.wrap (↑y.snd.snd.snd.length : Int)).toNat).toArray).size <= 9223372036854775807 /\ A (td Tryz.f26 8) (envAt 63 [(0, .sl (Int × ByteArray × Bool × List (Int × Bool)) e_api_Partition l), (3, .str (s ++ (ByteArray.mk (beL (Int.toNat (1 : Int)) (IntKind.u64.wrap y.fst).toNat).toArray ++ ByteArray.mk (beL (1 : Nat) (bitN y.snd.snd.fst)).toArray ++ ByteArray.mk (nameB y.snd.fst).toArray ++ ByteArray.mk (beL (Int.toNat (1 : Int)) (IntKind.u64.wrap (↑y.snd.snd.snd.length : Int)).toNat).toArray))), (4, .int .i64 i), (5, .ptr 0 0), (6, .int .i64 0)]) [.box [.int .i64 y.fst, .str y.snd.fst, .bool y.snd.snd.fst, .sl (Int × Bool) e_api_Cell y.snd.snd.snd]]
else k [PV.str s] []) := by kernel_rfl
theorem nf_rText8_c (A : KA Kd) (k : List PV -> Heap Kd -> Prop) (l : List Prt) (s : ByteArray) (i j id : Int) (nm : ByteArray) (may : Bool) (cs : List Cl) : evT PB1 ff_rText8 A k 400 true (td Tryz.f26 8) (envAt 63 [(0, .sl _ e_api_Partition l), (3, .str s), (4, .int .i64 i), (5, .ptr 0 0), (6, .int .i64 j)]) [.box [.int .i64 id, .str nm, .bool may, .sl _ e_api_Cell cs]] = (bif decide (j < (↑cs.length : Int)) then (0 <= j /\ j < (↑cs.length : Int)) /\ ∀ (y : Int × Bool), cs[j.toNat]? = some y -> (0 <= j /\ j < (↑cs.length : Int)) /\ ∀ (y_1 : Int × Bool), cs[j.toNat]? = some y_1 -> ((0 <= IntKind.u64.wrap y_1.fst /\ IntKind.u64.wrap y_1.fst < 18446744073709551616) /\ (0 : Int) <= (4 : Int) /\ (4 : Int) <= (100 : Int)) /\ (ByteArray.mk (beL (1 : Nat) (bitN y.snd)).toArray).size + (ByteArray.mk (beL (Int.toNat (4 : Int)) (IntKind.u64.wrap y_1.fst).toNat).toArray).size <= 9223372036854775807 /\ s.size + (ByteArray.mk (beL (1 : Nat) (bitN y.snd)).toArray ++ ByteArray.mk (beL (Int.toNat (4 : Int)) (IntKind.u64.wrap y_1.fst).toNat).toArray).size <= 9223372036854775807 /\ A (td Tryz.f26 8) (envAt 63 [(0, .sl (Int × ByteArray × Bool × List (Int × Bool)) e_api_Partition l), (3, .str (s ++ (ByteArray.mk (beL (1 : Nat) (bitN y.snd)).toArray ++ ByteArray.mk (beL (Int.toNat (4 : Int)) (IntKind.u64.wrap y_1.fst).toNat).toArray))), (4, .int .i64 i), (5, .ptr 0 0), (6, .int .i64 (IntKind.i64.wrap (j + 1)))]) [.box [.int .i64 id, .str nm, .bool may, .sl (Int × Bool) e_api_Cell cs]]
else A (td Tryz.f26 (3 : Nat)) (envAt (63 : Nat) [((0 : Nat), PV.sl (Int × ByteArray × Bool × List (Int × Bool)) e_api_Partition l), ((3 : Nat), PV.str s), ((4 : Nat), PV.int IntKind.i64 (IntKind.i64.wrap (i + (1 : Int))))]) []) := by kernel_rfl
def pPutAS : List PV -> Heap Kd -> (List PV -> Heap Kd -> Prop) -> Prop := fun ys L k => match ys, L with
 | [x_0, x_1], [] => ∃ (b : List UInt8), ∃ (l : List Prt), x_0 = .sl _ e_uint8 b /\ x_1 = .sl _ e_api_Partition l /\ (b.length < 1000000 /\ l.length < 100000 /\ (∀ x, x ∈ l -> ∀ c, c ∈ x.2.2.2 -> OkC c)) /\ k [.own 0, .err (prtsE none 0 l)] [.row 5 (outP b (prtsE none 0 l) b (prtsB l))]
 | _, _ => False
theorem pPutAS_inv {ys : List PV} {L : Heap Kd} {k : List PV -> Heap Kd -> Prop} (h : pPutAS ys L k) : ∃ (b : List UInt8) (l : List Prt), ys = [.sl _ e_uint8 b, .sl _ e_api_Partition l] /\ L = [] /\ (b.length < 1000000 /\ l.length < 100000 /\ (∀ x, x ∈ l -> ∀ c, c ∈ x.2.2.2 -> OkC c)) /\ k [.own 0, .err (prtsE none 0 l)] [.row 5 (outP b (prtsE none 0 l) b (prtsB l))] := by
 unfold pPutAS at h
 split at h
 ·obtain ⟨a0, a1, q0, q1, hz⟩ := h
  subst q0
  subst q1
  exact ⟨a0, a1, rfl, rfl, hz⟩
 ·exact h.elim
theorem pPutA_loop (A : KA Kd) (k : List PV -> Heap Kd -> Prop) (hA : Closed PB1 ff_pPutA k A) (b : List UInt8) (l : List Prt) (hb : b.length < 1000000) (hl : l.length < 100000) (hw : ∀ x, x ∈ l -> ∀ c, c ∈ x.2.2.2 -> OkC c) :
 ∀ i, i <= l.length -> ∀ out : List UInt8, out.length + 1000 * (l.length - i) < 1000000000 -> k [.own 0, .err (prtsE (prevP l i) i (l.drop i))] [.row 5 (outP b (prtsE (prevP l i) i (l.drop i)) out (prtsB (l.drop i)))] ->
  A (td Tryz.f62 3) (envAt 52 [(0, .sl _ e_uint8 b), (1, .sl _ e_api_Partition l), (6, .own 0), (12, .sl _ e_api_Partition l), (13, .int .i64 (l.length : Int)), (14, .int .i64 (i : Int))]) [.row 5 out] := by
 refine down_loop l _ ?_ ?_
 ·intro out _ hk
  refine (hA.nf (nf_pPutA_b A k b out l _ _) ?_)
  rw [ilt_false (Nat.lt_irrefl _)]
  rw [List.drop_length] at hk
  have e : outP b (prtsE (prevP l l.length) l.length []) out (prtsB []) = out := by show out ++ [] = out; exact List.append_nil _
  rw [e] at hk; exact hk
 ·intro i y hy ih out ho hk
  have hlt := lt_of_get hy
  refine (hA.nf (nf_pPutA_b A k b out l _ _) ?_)
  rw [ilt_true hlt, cond_true]
  refine get_at hy ⟨y.1, y.2.1, y.2.2.1, y.2.2.2, rfl, ?_⟩
  have hprev : prevP l (i + 1) = some y.1 := by show (l[i]?).map _ = _; rw [hy]; rfl
  rw [drop_cons' hy, prtsE_cons] at hk
  show (bif prtR y == 0 then _ else _ : Prop)
  have bne : ∀ v : Int, (v != 0) = !(v == 0) := fun _ => rfl
  cases c1 : prtR y == 0 with
  | false =>
   rw [wE1_bad c1, c1] at hk
   have hT : ∀ {p q : Prop}, p -> (bif prtR y != 0 then p else q) := fun {p q} h => by rw [bne, c1]; exact h
   refine hT ⟨b, rfl, by omega, ?_⟩
   rw [prt_err (prtR_cases y) c1]; exact hk
  | true =>
   have okp := prtR_ok (eq_of_beq c1)
   have hlen : (addP out y).length = out.length + (4 + y.2.1.size + 5 * y.2.2.2.length) := by unfold addP; rw [List.length_append, prtB_len]
   obtain ⟨_, o2, o3⟩ := okp
   obtain ⟨_, r2⟩ := right_len o2
   have okp := prtR_ok (eq_of_beq c1)
   have hF : ∀ {p q : Prop}, q -> (bif prtR y != 0 then p else q) := fun {p q} h => by rw [bne, c1]; exact h
   rcases i with _ | i
   ·have hp : prevP l 0 = none := rfl
    rw [hp, wE1_none c1] at hk
    rw [cond_true]
    have d0 : decide (((0 : Nat) : Int) > 0) = false := rfl
    rw [d0, cond_false]
    refine hF ?_
    refine ⟨y.1, y.2.1, y.2.2.1, y.2.2.2, rfl, ⟨okp, hw y (List.mem_of_getElem? hy), by omega⟩, ?_⟩
    rw [wrap_succ (by omega)]
    refine ih _ (by rw [hlen]; omega) ?_
    rw [hprev, prt_bytes]; exact hk
   ·obtain ⟨z, hz⟩ : ∃ z, l[i]? = some z := ⟨l[i]'(by omega), List.getElem?_eq_getElem (by omega)⟩
    have hp : prevP l (i + 1) = some z.1 := by show (l[i]?).map _ = _; rw [hz]; rfl
    rw [hp, wE1_some c1] at hk
    rw [cond_true]
    have d0 : decide (((i + 1 : Nat) : Int) > 0) = true := decide_eq_true (by omega)
    rw [d0, cond_true]
    refine get_at' (i := i) (by rw [wrap_id _ (by omega) (by omega)]; omega) hz ?_
    cases c2 : decide (y.1 <= z.1) with
    | true =>
     rw [c2] at hk
     exact ⟨b, rfl, by omega, hk⟩
    | false =>
    rw [c2] at hk
    rw [cond_false]
    refine hF ?_
    refine ⟨y.1, y.2.1, y.2.2.1, y.2.2.2, rfl, ⟨okp, hw y (List.mem_of_getElem? hy), by omega⟩, ?_⟩
    rw [wrap_succ (by omega)]
    refine ih _ (by rw [hlen]; omega) ?_
    rw [hprev, prt_bytes]; exact hk
theorem ok_pPutA : FunF B 62 0 pPutAS := by
 refine funF_of (N := 52) (f := ff_pPutA) env_PB1 mixed fn_pPutA (by kernel_rfl) (by kernel_rfl) ?_
 intro A k ys L hA hF
 obtain ⟨b, l, rfl, rfl, ⟨hb, hl, hw⟩, hk⟩ := pPutAS_inv hF; clear hF
 refine ⟨by kernel_rfl, (hA.nf (nf_pPutA_a A k b l) ?_)⟩
 exact ⟨b, rfl, by omega, pPutA_loop A k hA b l hb hl hw 0 (Nat.zero_le _) b (by omega) hk⟩
def rWrong8S : SpecS := fun ys Φ => match ys with
 | [x_0] => ∃ (l : List Prt), x_0 = .sl _ e_api_Partition l /\ (l.length < 100000) /\ Φ [.agg [.int .i64 (ofE (prtsE none 0 l)).1, .int .i64 (ofE (prtsE none 0 l)).2.1, .int .i64 (ofE (prtsE none 0 l)).2.2]]
 | _ => False
theorem rWrong8S_mono : MonoS rWrong8S := by
 intro ys Φ Ψ h hF
 unfold rWrong8S at hF ⊢
 split at hF
 ·obtain ⟨a0, q0, hp, hk⟩ := hF; exact ⟨a0, q0, hp, h _ hk⟩
 ·exact hF.elim
theorem rWrong8S_inv {ys : List PV} {Φ : List PV -> Prop} (h : rWrong8S ys Φ) : ∃ (l : List Prt), ys = [.sl _ e_api_Partition l] /\ (l.length < 100000) /\ Φ [.agg [.int .i64 (ofE (prtsE none 0 l)).1, .int .i64 (ofE (prtsE none 0 l)).2.1, .int .i64 (ofE (prtsE none 0 l)).2.2]] := by
 unfold rWrong8S at h
 split at h
 ·obtain ⟨a0, q0, hz⟩ := h
  subst q0
  exact ⟨a0, rfl, hz⟩
 ·exact h.elim
theorem ok_rWrong8 : FunS B 22 rWrong8S := by
 refine funS_of (N := 42) (f := ff_rWrong8) env_PB1 mixed fn_rWrong8 (by kernel_rfl) (by kernel_rfl) (by kernel_rfl) rWrong8S_mono ?_
 intro A k ys hA hF
 obtain ⟨l, rfl, hl, hk⟩ := rWrong8S_inv hF; clear hF
 refine ⟨by kernel_rfl, (hA.nf (nf_rWrong8_a A k l) ?_)⟩
 refine down_loop l (fun i => k [.agg [.int .i64 (ofE (prtsE (prevP l i) i (l.drop i))).1, .int .i64 (ofE (prtsE (prevP l i) i (l.drop i))).2.1, .int .i64 (ofE (prtsE (prevP l i) i (l.drop i))).2.2]] [] -> A (td Tryz.f22 2) (envAt 42 [(0, .sl _ e_api_Partition l), (2, .ptr 0 0), (3, .int .i64 (i : Int))]) [.box [.int .i64 0, .int .i64 0, .int .i64 0]]) ?_ ?_ 0 (Nat.zero_le _) hk
 ·intro hk
  refine (hA.nf (nf_rWrong8_b A k l _) ?_)
  rw [ilt_false (Nat.lt_irrefl _)]
  rw [List.drop_length] at hk; exact hk
 ·intro i y hy ih hk
  have hlt := lt_of_get hy
  refine (hA.nf (nf_rWrong8_b A k l _) ?_)
  rw [ilt_true hlt, cond_true]
  refine get_at hy ⟨y.1, y.2.1, y.2.2.1, y.2.2.2, rfl, ?_⟩
  have hprev : prevP l (i + 1) = some y.1 := by show (l[i]?).map _ = _; rw [hy]; rfl
  rw [drop_cons' hy, prtsE_cons] at hk
  show (bif prtR y == 0 then _ else _ : Prop)
  have bne : ∀ v : Int, (v != 0) = !(v == 0) := fun _ => rfl
  rw [hprev] at ih
  cases c1 : prtR y == 0 with
  | false =>
   rw [wE1_bad c1, c1] at hk
   have hT : ∀ {p q : Prop}, p -> (bif prtR y != 0 then p else q) := fun {p q} h => by rw [bne, c1]; exact h
   exact hT hk
  | true =>
   have hF : ∀ {p q : Prop}, q -> (bif prtR y != 0 then p else q) := fun {p q} h => by rw [bne, c1]; exact h
   rcases i with _ | i
   ·have hp : prevP l 0 = none := rfl
    rw [hp, wE1_none c1] at hk
    rw [cond_true]
    have d0 : decide (((0 : Nat) : Int) > 0) = false := rfl
    rw [d0, cond_false]
    refine hF ?_
    rw [wrap_succ (by omega)]
    exact ih hk
   ·obtain ⟨z, hz⟩ : ∃ z, l[i]? = some z := ⟨l[i]'(by omega), List.getElem?_eq_getElem (by omega)⟩
    have hp : prevP l (i + 1) = some z.1 := by show (l[i]?).map _ = _; rw [hz]; rfl
    rw [hp, wE1_some c1] at hk
    rw [cond_true]
    have d0 : decide (((i + 1 : Nat) : Int) > 0) = true := decide_eq_true (by omega)
    rw [d0, cond_true]
    refine get_at hy (get_at' (i := i) (by rw [wrap_id _ (by omega) (by omega)]; omega) hz ?_)
    cases c2 : decide (y.1 <= z.1) with
    | true => rw [c2] at hk; exact hk
    | false =>
     rw [c2] at hk
     rw [cond_false]
     refine hF ?_
     rw [wrap_succ (by omega)]
     exact ih hk
def rText8S : SpecS := fun ys Φ => match ys with
 | [x_0] => ∃ (l : List Prt), x_0 = .sl _ e_api_Partition l /\ (l.length < 100000 /\ (∀ x, x ∈ l -> OkP x) /\ (∀ x, x ∈ l -> ∀ c, c ∈ x.2.2.2 -> OkC c)) /\ Φ [.str ⟨(prtsB l).toArray⟩]
 | _ => False
theorem rText8S_mono : MonoS rText8S := by
 intro ys Φ Ψ h hF
 unfold rText8S at hF ⊢
 split at hF
 ·obtain ⟨a0, q0, hp, hk⟩ := hF; exact ⟨a0, q0, hp, h _ hk⟩
 ·exact hF.elim
theorem rText8S_inv {ys : List PV} {Φ : List PV -> Prop} (h : rText8S ys Φ) : ∃ (l : List Prt), ys = [.sl _ e_api_Partition l] /\ (l.length < 100000 /\ (∀ x, x ∈ l -> OkP x) /\ (∀ x, x ∈ l -> ∀ c, c ∈ x.2.2.2 -> OkC c)) /\ Φ [.str ⟨(prtsB l).toArray⟩] := by
 unfold rText8S at h
 split at h
 ·obtain ⟨a0, q0, hz⟩ := h
  subst q0
  exact ⟨a0, rfl, hz⟩
 ·exact h.elim
theorem rText8_c (A : KA Kd) (k : List PV -> Heap Kd -> Prop) (hA : Closed PB1 ff_rText8 k A) (l : List Prt) (i id : Int) (nm : ByteArray) (may : Bool) (cs : List Cl) (hlen : cs.length < 1000) (hok : ∀ c, c ∈ cs -> OkC c) (P : ByteArray -> Prop)
 (hend : ∀ s : ByteArray, P s -> A (td Tryz.f26 8) (envAt 63 [(0, .sl _ e_api_Partition l), (3, .str s), (4, .int .i64 i), (5, .ptr 0 0), (6, .int .i64 (cs.length : Int))]) [.box [.int .i64 id, .str nm, .bool may, .sl _ e_api_Cell cs]]) :
 ∀ j, j <= cs.length -> ∀ s : ByteArray, s.size + 5 * (cs.length - j) < 1000000000000 -> P (s ++ ⟨(cellsB (cs.drop j)).toArray⟩) -> A (td Tryz.f26 8) (envAt 63 [(0, .sl _ e_api_Partition l), (3, .str s), (4, .int .i64 i), (5, .ptr 0 0), (6, .int .i64 (j : Int))]) [.box [.int .i64 id, .str nm, .bool may, .sl _ e_api_Cell cs]] := by
 refine down_loop cs _ ?_ ?_
 ·intro s _ hp
  rw [List.drop_length] at hp
  have : s ++ ByteArray.mk (cellsB []).toArray = s := by apply ByteArray.ext; apply Array.ext'; simp [cellsB]
  rw [this] at hp
  exact hend s hp
 ·intro j y hy ih s hs hp
  have hlt := lt_of_get hy
  refine (hA.nf (nf_rText8_c A k l s i _ id nm may cs) ?_)
  rw [ilt_true hlt, cond_true]
  obtain ⟨c1, c2⟩ := hok y (List.mem_of_getElem? hy)
  have e4 : Int.toNat 4 = 4 := rfl
  have z3 := beSize 1 (bitN y.2)
  have z4 := beSize 4 y.1.toNat
  have z : (ByteArray.mk (beL 1 (bitN y.2)).toArray ++ ByteArray.mk (beL 4 y.1.toNat).toArray).size = 5 := by simp only [ByteArray.size_append, beSize]
  refine get_at hy (get_at hy ?_)
  rw [e4, u64_id y.1 c1 (by omega)]
  refine ⟨⟨⟨by omega, by omega⟩, by decide, by decide⟩, by omega, by omega, ?_⟩
  rw [wrap_succ (by omega)]
  refine ih _ ?_ ?_
  ·rw [ByteArray.size_append, z]; omega
  ·have : (s ++ (ByteArray.mk (beL 1 (bitN y.2)).toArray ++ ByteArray.mk (beL 4 y.1.toNat).toArray) ++ ByteArray.mk (cellsB (cs.drop (j + 1))).toArray) = s ++ ByteArray.mk (cellsB (cs.drop j)).toArray := by
    rw [drop_cons' hy]
    apply ByteArray.ext; apply Array.ext'; simp [cellsB, cellB]
   rw [this]; exact hp
theorem ok_rText8 : FunS B 26 rText8S := by
 refine funS_of (N := 63) (f := ff_rText8) env_PB1 mixed fn_rText8 (by kernel_rfl) (by kernel_rfl) (by kernel_rfl) rText8S_mono ?_
 intro A k ys hA hF
 obtain ⟨l, rfl, ⟨hl, hw, hc⟩, hk⟩ := rText8S_inv hF; clear hF
 refine ⟨by kernel_rfl, (hA.nf (nf_rText8_a A k l) ?_)⟩
 have hs : ∀ i, i <= l.length -> ∀ s : ByteArray, s.size + 1000 * (l.length - i) < 1000000000 -> k [.str (s ++ ⟨(prtsB (l.drop i)).toArray⟩)] [] -> A (td Tryz.f26 3) (envAt 63 [(0, .sl _ e_api_Partition l), (3, .str s), (4, .int .i64 (i : Int))]) [] := by
  refine down_loop l _ ?_ ?_
  ·intro s _ hp
   refine (hA.nf (nf_rText8_b A k l s _) ?_)
   rw [ilt_false (Nat.lt_irrefl _)]
   rw [List.drop_length] at hp
   have : s ++ ByteArray.mk (prtsB []).toArray = s := by apply ByteArray.ext; apply Array.ext'; simp [prtsB]
   rw [this] at hp
   exact hp
  ·intro i y hy ih s hs hp
   have hlt := lt_of_get hy
   obtain ⟨o1, o2, o3⟩ := hw y (List.mem_of_getElem? hy)
   obtain ⟨r1, r2⟩ := right_len o2
   refine (hA.nf (nf_rText8_b A k l s _) ?_)
   rw [ilt_true hlt, cond_true]
   have e1 : Int.toNat 1 = 1 := rfl
   refine get_at hy ?_
   rw [e1, u64_id y.1 o1.1 (by omega), u64_id (y.2.2.2.length : Int) (by omega) (by omega), Int.toNat_natCast]
   have z1 := beSize 1 y.1.toNat
   have z2 := beSize 1 (bitN y.2.2.1)
   have z3 := mk_size (nameB y.2.1)
   rw [nameB_len] at z3
   have z4 := beSize 1 y.2.2.2.length
   have w2 : (ByteArray.mk (beL 1 y.1.toNat).toArray ++ ByteArray.mk (beL 1 (bitN y.2.2.1)).toArray).size = 2 := by rw [ByteArray.size_append, z1, z2]
   have w3 : (ByteArray.mk (beL 1 y.1.toNat).toArray ++ ByteArray.mk (beL 1 (bitN y.2.2.1)).toArray ++ ByteArray.mk (nameB y.2.1).toArray).size = 3 + y.2.1.size := by rw [ByteArray.size_append, w2, z3]; omega
   have w4 : (ByteArray.mk (beL 1 y.1.toNat).toArray ++ ByteArray.mk (beL 1 (bitN y.2.2.1)).toArray ++ ByteArray.mk (nameB y.2.1).toArray ++ ByteArray.mk (beL 1 y.2.2.2.length).toArray).size = 4 + y.2.1.size := by rw [ByteArray.size_append, w3, z4]; omega
   refine ⟨⟨⟨o1.1, by omega⟩, by decide, by decide⟩, by omega, by omega, by omega, ⟨⟨by omega, by omega⟩, by decide, by decide⟩, by omega, by omega, ?_⟩
   obtain ⟨head, hhead⟩ : ∃ t, t = (ByteArray.mk (beL 1 y.1.toNat).toArray ++ ByteArray.mk (beL 1 (bitN y.2.2.1)).toArray ++ ByteArray.mk (nameB y.2.1).toArray ++ ByteArray.mk (beL 1 y.2.2.2.length).toArray) := ⟨_, rfl⟩
   rw [<- hhead] at w4 ⊢
   refine rText8_c A k hA l i y.1 y.2.1 y.2.2.1 y.2.2.2 (by omega) (hc y (List.mem_of_getElem? hy)) (fun t => t = s ++ head ++ ⟨(cellsB y.2.2.2).toArray⟩) ?_ 0 (Nat.zero_le _) _ (by rw [ByteArray.size_append, w4]; omega) rfl
   rintro _ rfl
   refine (hA.nf (nf_rText8_c A k l _ _ _ y.1 y.2.1 y.2.2.1 y.2.2.2) ?_)
   rw [ilt_false (Nat.lt_irrefl _), cond_false]
   rw [wrap_succ (by omega)]
   have w5 : (s ++ head ++ ByteArray.mk (cellsB y.2.2.2).toArray).size = s.size + 4 + y.2.1.size + 5 * y.2.2.2.length := by
    rw [ByteArray.size_append, ByteArray.size_append, w4, mk_size (cellsB y.2.2.2), cellsB_len]; omega
   refine ih _ (by rw [w5]; omega) ?_
   have : (s ++ head ++ ByteArray.mk (cellsB y.2.2.2).toArray ++ ByteArray.mk (prtsB (l.drop (i + 1))).toArray) = s ++ ByteArray.mk (prtsB (l.drop i)).toArray := by
    rw [drop_cons' hy, hhead]
    apply ByteArray.ext; apply Array.ext'; simp [prtsB, prtB]
   rw [this]; exact hp
 refine hs 0 (Nat.zero_le _) _ (by show 0 + _ < _; omega) ?_
 have : (ByteArray.mk #[] ++ ByteArray.mk (prtsB (l.drop 0)).toArray) = ByteArray.mk (prtsB l).toArray := by apply ByteArray.ext; apply Array.ext'; simp
 rw [this]; exact hk
end Go.Ab.T
