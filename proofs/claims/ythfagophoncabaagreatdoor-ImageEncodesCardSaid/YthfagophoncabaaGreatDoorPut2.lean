import Derived.Test.YthfagophoncabaaGreatDoorPut
import Derived.Test.YthfagophoncabaaGreatDoorMaB
import Derived.Test.YthfagophoncabaaGreatDoorAbC
set_option linter.unusedVariables false
set_option linter.unusedSimpArgs false
set_option linter.unusedSectionVars false
namespace Go.Ab.T
open Go Go.Ab Go.Proofs
variable [DMode]
set_option maxRecDepth 100000
set_option maxHeartbeats 4000000
def putIS : List PV -> Heap Kd -> (List PV -> Heap Kd -> Prop) -> Prop := fun ys L k => match ys, L with
 | [.own 0, .int .u64 v, .int .i64 n], [.row 5 l] => (0 <= v /\ v < 18446744073709551616 /\ l.length < 1099511627776) /\ k [.own 0, .bool (fitsV v n)] [.row 5 (putV l v n)]
 | _, _ => False
theorem putIS_inv {ys : List PV} {L : Heap Kd} {k : List PV -> Heap Kd -> Prop} (h : putIS ys L k) : ∃ (l : List UInt8) (v : Int) (n : Int), ys = [.own 0, .int .u64 v, .int .i64 n] /\ L = [.row 5 l] /\ (0 <= v /\ v < 18446744073709551616 /\ l.length < 1099511627776) /\ k [.own 0, .bool (fitsV v n)] [.row 5 (putV l v n)] := by
 unfold putIS at h
 split at h
 ·exact ⟨_, _, _, rfl, rfl, h⟩
 ·exact h.elim
theorem ok_putI : FunF B 49 1 putIS := by
 refine (inPl_ok (e := 5) (funF_ofG (ownArg_ok (lift_ok ok_put)) 1)).imp ?_
 intro ys L k h
 obtain ⟨l, v, n, rfl, rfl, hp, hk⟩ := putIS_inv h
 refine ⟨⟨l, rfl⟩, ?_⟩
 refine by_nf (q := ∃ l1 : List UInt8, PV.sl UInt8 e_uint8 l = PV.sl UInt8 e_uint8 l1 /\ (0 <= v /\ v < 18446744073709551616 /\ l1.length < 1099511627776) /\ ∃ (xs : List UInt8) (r : List PV), [PV.own 1, PV.bool (fitsV v n)] = PV.own 1 :: r /\ PV.flat.go r = true /\ ([.gone, .row 5 (putV l1 v n)] : Heap Kd) = [.gone, .row 5 xs] /\ k (.own 0 :: r) [.row 5 xs]) (by kernel_rfl) ?_
 exact ⟨l, rfl, hp, putV l v n, [.bool (fitsV v n)], rfl, rfl, rfl, hk⟩
end Go.Ab.T
