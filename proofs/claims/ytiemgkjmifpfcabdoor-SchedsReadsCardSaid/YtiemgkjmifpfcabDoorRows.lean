/-
  NARROWER THAN 'FOR EVERY INPUT', by the rows' own cells (each row's printed sentence says how): NameGets: laid · HeaderPuts: laid · SchedsPuts: laid · SchedsReads: laid.
  DERIVED. THE GIVEN ROWS OF THIS SEAT. 4 by the template 'for every input the law returns true; each argument reads behind the call as it read before'; 0 by the template 'total and deterministic' (their statements: YtiemgkjmifpfcabDoorTotals.lean).
  GIVEN WITH THE SEED: the statements are not yours to turn. If you find one false, say at which input.
  Laid BY PROGRAM, IN A SANDBOX (cutbox-rows.mjs): the forced cells as the released guide's own fill.sh prints them over the translation cd037797ef6b8e1a… (all of the seat's roots in one cut). By AI agents, Wed Nov 11 2026. No macro, syntax, notation, axiom, sorry.
-/
import Derived.Test.YtiemgkjmifpfcabDoorChecked
import GoSem.Claim
import GoSem.ClaimJoined
import GoSem.ClaimMapViews
import Derived.JoinedTies
import Derived.KernelRfl
namespace Go.Proofs.YtiemgkjmifpfcabDoor
/- THE CELL 'sum', in the pinned program and in every row, IS THE sha256 OF THE DUMP (.gsa) THAT YtiemgkjmifpfcabDoorProg.lean LOADS. Nothing in Lean hashes anything: it is a label: what it is worth is what the hold of that sum in a sandbox is worth. -/
noncomputable def Tryd.pinned : Pinned := { name := "ytiemgkjmifpfcabdoor", sum := "cd037797ef6b8e1a0fd7bea9c257bbbc08b9b2df4f592397c21e86056072d9ef", checked := Tryd.checked }
namespace Rows
def none {H : Type} : Left H := { results := [], args := [] }

/- WHAT THE LISTED PACKAGE-LEVEL VARIABLES READ AS WHEN THE CALL BEGINS. Each datum BY PROGRAM (the guide's laid-datum.mjs) off the statement by which the dump's own 'gosem.cut.vars' lays the variable. In a bare row this is a premise. The card (YtiemgkjmifpfcabDoorCards.lean) ties it to the program's text. -/
def laid_errors_errorType {H : Type} : DataW H := .iface "internal/reflectlite.rtype" (.agg [.ptr (.lit (.string [101, 114, 114, 111, 114]))])

/-- 'countwheellaw06.NameGets': WHATEVER THE INPUT: true; the input reads as it did. -/
def nameGetsSpec : ChangeSpec := { name := "nameGets", fn := fun _ => fun
  | [d1, d2] => { results := [.lit (.bool true)], args := [d1, d2] }
  | _ => none }
def nameGetsRow : OpenClaim := { program := "ytiemgkjmifpfcabdoor", sum := "cd037797ef6b8e1a0fd7bea9c257bbbc08b9b2df4f592397c21e86056072d9ef", func := "countwheel/countwheellaw06.NameGets", spec := "nameGets", inPlace := ["internal/reflectlite.ValueOf", "(internal/reflectlite.Value).Type", "(internal/reflectlite.Value).IsNil", "internal/reflectlite.TypeOf", "(internal/reflectlite.Value).Elem", "(internal/reflectlite.Value).Set"], unfollowed := true, recurses := true, named := ["errors.errorType"], apart := false, laid := [("errors.errorType", laid_errors_errorType)] }
def NameGetsSaid : Prop := nameGetsRow.holds Tryd.pinned (OpenSpec.ofChange nameGetsSpec)

/-- ITS FALSE NEIGHBOUR: 'it returns false'. Refute it at one input. -/
def nameGetsWrong : ChangeSpec := { name := "nameGets", fn := fun _ => fun
  | [d1, d2] => { results := [.lit (.bool false)], args := [d1, d2] }
  | _ => none }
def NameGetsWrongFalsely : Prop := nameGetsRow.holds Tryd.pinned (OpenSpec.ofChange nameGetsWrong)

/-- 'countwheellaw07.HeaderPuts': WHATEVER THE INPUT: true; the input reads as it did. -/
def headerPutsSpec : ChangeSpec := { name := "headerPuts", fn := fun _ => fun
  | [d1, d2] => { results := [.lit (.bool true)], args := [d1, d2] }
  | _ => none }
def headerPutsRow : OpenClaim := { program := "ytiemgkjmifpfcabdoor", sum := "cd037797ef6b8e1a0fd7bea9c257bbbc08b9b2df4f592397c21e86056072d9ef", func := "countwheel/countwheellaw07.HeaderPuts", spec := "headerPuts", inPlace := ["internal/reflectlite.ValueOf", "(internal/reflectlite.Value).Type", "(internal/reflectlite.Value).IsNil", "internal/reflectlite.TypeOf", "(internal/reflectlite.Value).Elem", "(internal/reflectlite.Value).Set"], unfollowed := true, recurses := true, named := ["errors.errorType"], apart := false, laid := [("errors.errorType", laid_errors_errorType)] }
def HeaderPutsSaid : Prop := headerPutsRow.holds Tryd.pinned (OpenSpec.ofChange headerPutsSpec)

/-- ITS FALSE NEIGHBOUR: 'it returns false'. Refute it at one input. -/
def headerPutsWrong : ChangeSpec := { name := "headerPuts", fn := fun _ => fun
  | [d1, d2] => { results := [.lit (.bool false)], args := [d1, d2] }
  | _ => none }
def HeaderPutsWrongFalsely : Prop := headerPutsRow.holds Tryd.pinned (OpenSpec.ofChange headerPutsWrong)

/-- 'countwheellaw09.SchedsPuts': WHATEVER THE INPUT: true; the input reads as it did. -/
def schedsPutsSpec : ChangeSpec := { name := "schedsPuts", fn := fun _ => fun
  | [d1, d2] => { results := [.lit (.bool true)], args := [d1, d2] }
  | _ => none }
def schedsPutsRow : OpenClaim := { program := "ytiemgkjmifpfcabdoor", sum := "cd037797ef6b8e1a0fd7bea9c257bbbc08b9b2df4f592397c21e86056072d9ef", func := "countwheel/countwheellaw09.SchedsPuts", spec := "schedsPuts", inPlace := ["internal/reflectlite.ValueOf", "(internal/reflectlite.Value).Type", "(internal/reflectlite.Value).IsNil", "internal/reflectlite.TypeOf", "(internal/reflectlite.Value).Elem", "(internal/reflectlite.Value).Set"], unfollowed := true, recurses := true, named := ["errors.errorType"], apart := false, laid := [("errors.errorType", laid_errors_errorType)] }
def SchedsPutsSaid : Prop := schedsPutsRow.holds Tryd.pinned (OpenSpec.ofChange schedsPutsSpec)

/-- ITS FALSE NEIGHBOUR: 'it returns false'. Refute it at one input. -/
def schedsPutsWrong : ChangeSpec := { name := "schedsPuts", fn := fun _ => fun
  | [d1, d2] => { results := [.lit (.bool false)], args := [d1, d2] }
  | _ => none }
def SchedsPutsWrongFalsely : Prop := schedsPutsRow.holds Tryd.pinned (OpenSpec.ofChange schedsPutsWrong)

/-- 'countwheellaw09.SchedsReads': WHATEVER THE INPUT: true; the input reads as it did. -/
def schedsReadsSpec : ChangeSpec := { name := "schedsReads", fn := fun _ => fun
  | [d1, d2] => { results := [.lit (.bool true)], args := [d1, d2] }
  | _ => none }
def schedsReadsRow : OpenClaim := { program := "ytiemgkjmifpfcabdoor", sum := "cd037797ef6b8e1a0fd7bea9c257bbbc08b9b2df4f592397c21e86056072d9ef", func := "countwheel/countwheellaw09.SchedsReads", spec := "schedsReads", inPlace := ["internal/reflectlite.ValueOf", "(internal/reflectlite.Value).Type", "(internal/reflectlite.Value).IsNil", "internal/reflectlite.TypeOf", "(internal/reflectlite.Value).Elem", "(internal/reflectlite.Value).Set"], unfollowed := true, recurses := true, named := ["errors.errorType"], apart := false, laid := [("errors.errorType", laid_errors_errorType)] }
def SchedsReadsSaid : Prop := schedsReadsRow.holds Tryd.pinned (OpenSpec.ofChange schedsReadsSpec)

/-- ITS FALSE NEIGHBOUR: 'it returns false'. Refute it at one input. -/
def schedsReadsWrong : ChangeSpec := { name := "schedsReads", fn := fun _ => fun
  | [d1, d2] => { results := [.lit (.bool false)], args := [d1, d2] }
  | _ => none }
def SchedsReadsWrongFalsely : Prop := schedsReadsRow.holds Tryd.pinned (OpenSpec.ofChange schedsReadsWrong)

/- THE SECOND FORM. 'bulk': how many values and letters a reading holds, each counted each time it is reached (what is shared counts as often as it is met; a slice's spare places count too). A statement '..UptoSaid' is the law's where the arguments, and the package variables that the reading takes, are together of bulk at most 1048576: NARROWER than '..Said'. Prove '..Said' where nothing that the law and all that it calls make is longer than what came in: it says more and counts as full. Else prove '..UptoSaid'. A law counts once. -/
mutual
def uptoBulk {H : Type} : DataW H → Nat
  | .lit (.string bytes) => bytes.length + 1
  | .lit _ => 1
  | .nil => 1
  | .ptr d => uptoBulk d + 1
  | .slice elems spare => uptoBulkAll elems + uptoBulkAll spare + 1
  | .agg parts => uptoBulkAll parts + 1
  | .iface _ d => uptoBulk d + 1
  | .map entries => uptoBulkEntries entries + 1
  | .held _ => 1
def uptoBulkAll {H : Type} : List (DataW H) → Nat
  | [] => 0
  | d :: r => uptoBulk d + uptoBulkAll r
def uptoBulkEntries {H : Type} : List (Lit × DataW H) → Nat
  | [] => 0
  | x :: r => uptoBulkEntry x + uptoBulkEntries r
def uptoBulkEntry {H : Type} : Lit × DataW H → Nat
  | (.string bytes, d) => bytes.length + uptoBulk d + 1
  | (_, d) => uptoBulk d + 1
 end
def uptoSmall : (H : Type) → List (DataW H) → Bool := fun _ ds => decide (uptoBulkAll ds ≤ 1048576)
def OpenSpec.upto (s : _root_.Go.ChangeSpec) : _root_.Go.OpenSpec := { _root_.Go.OpenSpec.ofChange s with cond := some uptoSmall }

/-- 'countwheellaw06.NameGets', WHERE WHAT IT READS IS OF BULK AT MOST 1048576: true; the input reads as it did. -/
def nameGetsUptoRow : OpenClaim := { program := "ytiemgkjmifpfcabdoor", sum := "cd037797ef6b8e1a0fd7bea9c257bbbc08b9b2df4f592397c21e86056072d9ef", func := "countwheel/countwheellaw06.NameGets", spec := "nameGets", inPlace := ["internal/reflectlite.ValueOf", "(internal/reflectlite.Value).Type", "(internal/reflectlite.Value).IsNil", "internal/reflectlite.TypeOf", "(internal/reflectlite.Value).Elem", "(internal/reflectlite.Value).Set"], unfollowed := true, recurses := true, named := ["errors.errorType"], apart := false, laid := [("errors.errorType", laid_errors_errorType)], narrowed := true }
def NameGetsUptoSaid : Prop := nameGetsUptoRow.holds Tryd.pinned (OpenSpec.upto nameGetsSpec)

/-- 'countwheellaw07.HeaderPuts', WHERE WHAT IT READS IS OF BULK AT MOST 1048576: true; the input reads as it did. -/
def headerPutsUptoRow : OpenClaim := { program := "ytiemgkjmifpfcabdoor", sum := "cd037797ef6b8e1a0fd7bea9c257bbbc08b9b2df4f592397c21e86056072d9ef", func := "countwheel/countwheellaw07.HeaderPuts", spec := "headerPuts", inPlace := ["internal/reflectlite.ValueOf", "(internal/reflectlite.Value).Type", "(internal/reflectlite.Value).IsNil", "internal/reflectlite.TypeOf", "(internal/reflectlite.Value).Elem", "(internal/reflectlite.Value).Set"], unfollowed := true, recurses := true, named := ["errors.errorType"], apart := false, laid := [("errors.errorType", laid_errors_errorType)], narrowed := true }
def HeaderPutsUptoSaid : Prop := headerPutsUptoRow.holds Tryd.pinned (OpenSpec.upto headerPutsSpec)

/-- 'countwheellaw09.SchedsPuts', WHERE WHAT IT READS IS OF BULK AT MOST 1048576: true; the input reads as it did. -/
def schedsPutsUptoRow : OpenClaim := { program := "ytiemgkjmifpfcabdoor", sum := "cd037797ef6b8e1a0fd7bea9c257bbbc08b9b2df4f592397c21e86056072d9ef", func := "countwheel/countwheellaw09.SchedsPuts", spec := "schedsPuts", inPlace := ["internal/reflectlite.ValueOf", "(internal/reflectlite.Value).Type", "(internal/reflectlite.Value).IsNil", "internal/reflectlite.TypeOf", "(internal/reflectlite.Value).Elem", "(internal/reflectlite.Value).Set"], unfollowed := true, recurses := true, named := ["errors.errorType"], apart := false, laid := [("errors.errorType", laid_errors_errorType)], narrowed := true }
def SchedsPutsUptoSaid : Prop := schedsPutsUptoRow.holds Tryd.pinned (OpenSpec.upto schedsPutsSpec)

/-- 'countwheellaw09.SchedsReads', WHERE WHAT IT READS IS OF BULK AT MOST 1048576: true; the input reads as it did. -/
def schedsReadsUptoRow : OpenClaim := { program := "ytiemgkjmifpfcabdoor", sum := "cd037797ef6b8e1a0fd7bea9c257bbbc08b9b2df4f592397c21e86056072d9ef", func := "countwheel/countwheellaw09.SchedsReads", spec := "schedsReads", inPlace := ["internal/reflectlite.ValueOf", "(internal/reflectlite.Value).Type", "(internal/reflectlite.Value).IsNil", "internal/reflectlite.TypeOf", "(internal/reflectlite.Value).Elem", "(internal/reflectlite.Value).Set"], unfollowed := true, recurses := true, named := ["errors.errorType"], apart := false, laid := [("errors.errorType", laid_errors_errorType)], narrowed := true }
def SchedsReadsUptoSaid : Prop := schedsReadsUptoRow.holds Tryd.pinned (OpenSpec.upto schedsReadsSpec)

end Rows
end Go.Proofs.YtiemgkjmifpfcabDoor
