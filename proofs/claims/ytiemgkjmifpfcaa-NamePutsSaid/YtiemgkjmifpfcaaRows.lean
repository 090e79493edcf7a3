/-
  No cell of these rows narrows 'for every input' (looked for: loops, veiled, ifaces, maps, wideKeys, modest, calm, conditions, laid).
  DERIVED. THE GIVEN ROWS OF THIS SEAT. 4 by the template 'for every input the law returns true; each argument reads behind the call as it read before'; 0 by the template 'total and deterministic' (their statements: YtiemgkjmifpfcaaTotals.lean).
  GIVEN WITH THE SEED: the statements are not yours to turn. If you find one false, say at which input.
  Laid BY PROGRAM, IN A SANDBOX (cutbox-rows.mjs): the forced cells as the released guide's own fill.sh prints them over the translation 768c757d7246ca76… (all of the seat's roots in one cut). By AI agents, Wed Nov 11 2026. No macro, syntax, notation, axiom, sorry.
-/
import Derived.Test.YtiemgkjmifpfcaaChecked
import GoSem.Claim
import GoSem.ClaimJoined
import GoSem.ClaimMapViews
import Derived.JoinedTies
import Derived.KernelRfl
namespace Go.Proofs.Ytiemgkjmifpfcaa
/- THE CELL 'sum', in the pinned program and in every row, IS THE sha256 OF THE DUMP (.gsa) THAT YtiemgkjmifpfcaaProg.lean LOADS. Nothing in Lean hashes anything: it is a label: what it is worth is what the hold of that sum in a sandbox is worth. -/
noncomputable def Try.pinned : Pinned := { name := "ytiemgkjmifpfcaa", sum := "768c757d7246ca76d2eb779cf965030cce05e85f87bc4ebd6639340903b11544", checked := Try.checked }
namespace Rows
def none {H : Type} : Left H := { results := [], args := [] }

/-- 'countwheellaw06.NamePuts': WHATEVER THE INPUT: true; the input reads as it did. -/
def namePutsSpec : ChangeSpec := { name := "namePuts", fn := fun _ => fun
  | [d1, d2] => { results := [.lit (.bool true)], args := [d1, d2] }
  | _ => none }
def namePutsRow : OpenClaim := { program := "ytiemgkjmifpfcaa", sum := "768c757d7246ca76d2eb779cf965030cce05e85f87bc4ebd6639340903b11544", func := "countwheel/countwheellaw06.NamePuts", spec := "namePuts", apart := false }
def NamePutsSaid : Prop := namePutsRow.holds Try.pinned (OpenSpec.ofChange namePutsSpec)

/-- ITS FALSE NEIGHBOUR: 'it returns false'. Refute it at one input. -/
def namePutsWrong : ChangeSpec := { name := "namePuts", fn := fun _ => fun
  | [d1, d2] => { results := [.lit (.bool false)], args := [d1, d2] }
  | _ => none }
def NamePutsWrongFalsely : Prop := namePutsRow.holds Try.pinned (OpenSpec.ofChange namePutsWrong)

/-- 'countwheellaw09.SchedsFinds': WHATEVER THE INPUT: true; the input reads as it did. -/
def schedsFindsSpec : ChangeSpec := { name := "schedsFinds", fn := fun _ => fun
  | [d1, d2, d3, d4] => { results := [.lit (.bool true)], args := [d1, d2, d3, d4] }
  | _ => none }
def schedsFindsRow : OpenClaim := { program := "ytiemgkjmifpfcaa", sum := "768c757d7246ca76d2eb779cf965030cce05e85f87bc4ebd6639340903b11544", func := "countwheel/countwheellaw09.SchedsFinds", spec := "schedsFinds", unfollowed := true, recurses := true, apart := false }
def SchedsFindsSaid : Prop := schedsFindsRow.holds Try.pinned (OpenSpec.ofChange schedsFindsSpec)

/-- ITS FALSE NEIGHBOUR: 'it returns false'. Refute it at one input. -/
def schedsFindsWrong : ChangeSpec := { name := "schedsFinds", fn := fun _ => fun
  | [d1, d2, d3, d4] => { results := [.lit (.bool false)], args := [d1, d2, d3, d4] }
  | _ => none }
def SchedsFindsWrongFalsely : Prop := schedsFindsRow.holds Try.pinned (OpenSpec.ofChange schedsFindsWrong)

/-- 'countwheellaw08.PartsFinds': WHATEVER THE INPUT: true; the input reads as it did. -/
def partsFindsSpec : ChangeSpec := { name := "partsFinds", fn := fun _ => fun
  | [d1, d2, d3, d4] => { results := [.lit (.bool true)], args := [d1, d2, d3, d4] }
  | _ => none }
def partsFindsRow : OpenClaim := { program := "ytiemgkjmifpfcaa", sum := "768c757d7246ca76d2eb779cf965030cce05e85f87bc4ebd6639340903b11544", func := "countwheel/countwheellaw08.PartsFinds", spec := "partsFinds", unfollowed := true, recurses := true, apart := false }
def PartsFindsSaid : Prop := partsFindsRow.holds Try.pinned (OpenSpec.ofChange partsFindsSpec)

/-- ITS FALSE NEIGHBOUR: 'it returns false'. Refute it at one input. -/
def partsFindsWrong : ChangeSpec := { name := "partsFinds", fn := fun _ => fun
  | [d1, d2, d3, d4] => { results := [.lit (.bool false)], args := [d1, d2, d3, d4] }
  | _ => none }
def PartsFindsWrongFalsely : Prop := partsFindsRow.holds Try.pinned (OpenSpec.ofChange partsFindsWrong)

/-- 'countwheellaw03.FaultNames': WHATEVER THE INPUT: true; the input reads as it did. -/
def faultNamesSpec : ChangeSpec := { name := "faultNames", fn := fun _ => fun
  | [d1, d2] => { results := [.lit (.bool true)], args := [d1, d2] }
  | _ => none }
def faultNamesRow : OpenClaim := { program := "ytiemgkjmifpfcaa", sum := "768c757d7246ca76d2eb779cf965030cce05e85f87bc4ebd6639340903b11544", func := "countwheel/countwheellaw03.FaultNames", spec := "faultNames", unfollowed := true, recurses := true, apart := false }
def FaultNamesSaid : Prop := faultNamesRow.holds Try.pinned (OpenSpec.ofChange faultNamesSpec)

/-- ITS FALSE NEIGHBOUR: 'it returns false'. Refute it at one input. -/
def faultNamesWrong : ChangeSpec := { name := "faultNames", fn := fun _ => fun
  | [d1, d2] => { results := [.lit (.bool false)], args := [d1, d2] }
  | _ => none }
def FaultNamesWrongFalsely : Prop := faultNamesRow.holds Try.pinned (OpenSpec.ofChange faultNamesWrong)

/- THE SECOND FORM. 'bulk': how many values and letters a reading holds, each counted each time it is reached (what is shared counts as often as it is met; a slice's spare places count too). A statement '..UptoSaid' is the law's where the arguments, and the package variables that the reading takes, are together of bulk at most 1048576: NARROWER than '..Said'. Prove '..Said' where nothing that the law and all that it calls make is longer than what came in: it says more and counts as full. Else prove '..UptoSaid'. A law counts once. -/
mutual
def uptoBulk {H : Type} : DataW H → Nat
  | .lit (.string bytes) => bytes.length + 1
  | .lit _ => 1
  | .nil => 1
  | .ptr d => uptoBulk d + 1
  | .slice elems spare => uptoBulkAll elems + uptoBulkAll spare + 1
  | .agg parts => uptoBulkAll parts + 1
  | .iface _ d => uptoBulk d + 1
  | .map entries => uptoBulkEntries entries + 1
  | .held _ => 1
def uptoBulkAll {H : Type} : List (DataW H) → Nat
  | [] => 0
  | d :: r => uptoBulk d + uptoBulkAll r
def uptoBulkEntries {H : Type} : List (Lit × DataW H) → Nat
  | [] => 0
  | x :: r => uptoBulkEntry x + uptoBulkEntries r
def uptoBulkEntry {H : Type} : Lit × DataW H → Nat
  | (.string bytes, d) => bytes.length + uptoBulk d + 1
  | (_, d) => uptoBulk d + 1
 end
def uptoSmall : (H : Type) → List (DataW H) → Bool := fun _ ds => decide (uptoBulkAll ds ≤ 1048576)
def OpenSpec.upto (s : _root_.Go.ChangeSpec) : _root_.Go.OpenSpec := { _root_.Go.OpenSpec.ofChange s with cond := some uptoSmall }

/-- 'countwheellaw06.NamePuts', WHERE WHAT IT READS IS OF BULK AT MOST 1048576: true; the input reads as it did. -/
def namePutsUptoRow : OpenClaim := { program := "ytiemgkjmifpfcaa", sum := "768c757d7246ca76d2eb779cf965030cce05e85f87bc4ebd6639340903b11544", func := "countwheel/countwheellaw06.NamePuts", spec := "namePuts", apart := false, narrowed := true }
def NamePutsUptoSaid : Prop := namePutsUptoRow.holds Try.pinned (OpenSpec.upto namePutsSpec)

/-- 'countwheellaw09.SchedsFinds', WHERE WHAT IT READS IS OF BULK AT MOST 1048576: true; the input reads as it did. -/
def schedsFindsUptoRow : OpenClaim := { program := "ytiemgkjmifpfcaa", sum := "768c757d7246ca76d2eb779cf965030cce05e85f87bc4ebd6639340903b11544", func := "countwheel/countwheellaw09.SchedsFinds", spec := "schedsFinds", unfollowed := true, recurses := true, apart := false, narrowed := true }
def SchedsFindsUptoSaid : Prop := schedsFindsUptoRow.holds Try.pinned (OpenSpec.upto schedsFindsSpec)

/-- 'countwheellaw08.PartsFinds', WHERE WHAT IT READS IS OF BULK AT MOST 1048576: true; the input reads as it did. -/
def partsFindsUptoRow : OpenClaim := { program := "ytiemgkjmifpfcaa", sum := "768c757d7246ca76d2eb779cf965030cce05e85f87bc4ebd6639340903b11544", func := "countwheel/countwheellaw08.PartsFinds", spec := "partsFinds", unfollowed := true, recurses := true, apart := false, narrowed := true }
def PartsFindsUptoSaid : Prop := partsFindsUptoRow.holds Try.pinned (OpenSpec.upto partsFindsSpec)

/-- 'countwheellaw03.FaultNames', WHERE WHAT IT READS IS OF BULK AT MOST 1048576: true; the input reads as it did. -/
def faultNamesUptoRow : OpenClaim := { program := "ytiemgkjmifpfcaa", sum := "768c757d7246ca76d2eb779cf965030cce05e85f87bc4ebd6639340903b11544", func := "countwheel/countwheellaw03.FaultNames", spec := "faultNames", unfollowed := true, recurses := true, apart := false, narrowed := true }
def FaultNamesUptoSaid : Prop := faultNamesUptoRow.holds Try.pinned (OpenSpec.upto faultNamesSpec)

end Rows
end Go.Proofs.Ytiemgkjmifpfcaa
