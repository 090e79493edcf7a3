/-
  NARROWER THAN 'FOR EVERY INPUT', by the rows' own cells (each row's printed sentence says how): WindowChecks: laid · ReaderPieces: laid · ReaderReads: laid · ReaderNumbers: laid · NameMakes: laid · WindowRight: laid · HeaderOf: laid · HeaderReads: laid.
  DERIVED. THE GIVEN ROWS OF THIS SEAT. 8 by the template 'for every input the law returns true; each argument reads behind the call as it read before'; 0 by the template 'total and deterministic' (their statements: YtiemgkjmifpfcaaDoorTotals.lean).
  GIVEN WITH THE SEED: the statements are not yours to turn. If you find one false, say at which input.
  Laid BY PROGRAM, IN A SANDBOX (cutbox-rows.mjs): the forced cells as the released guide's own fill.sh prints them over the translation 79a76b9120733363… (all of the seat's roots in one cut). By AI agents, Wed Nov 11 2026. No macro, syntax, notation, axiom, sorry.
-/
import Derived.Test.YtiemgkjmifpfcaaDoorChecked
import GoSem.Claim
import GoSem.ClaimJoined
import GoSem.ClaimMapViews
import Derived.JoinedTies
import Derived.KernelRfl
namespace Go.Proofs.YtiemgkjmifpfcaaDoor
/- THE CELL 'sum', in the pinned program and in every row, IS THE sha256 OF THE DUMP (.gsa) THAT YtiemgkjmifpfcaaDoorProg.lean LOADS. Nothing in Lean hashes anything: it is a label: what it is worth is what the hold of that sum in a sandbox is worth. -/
noncomputable def Tryd.pinned : Pinned := { name := "ytiemgkjmifpfcaadoor", sum := "79a76b91207333631520af332517877f2f6850def52ef9a7207ec88bbf30c5f4", checked := Tryd.checked }
namespace Rows
def none {H : Type} : Left H := { results := [], args := [] }

/- WHAT THE LISTED PACKAGE-LEVEL VARIABLES READ AS WHEN THE CALL BEGINS. Each datum BY PROGRAM (the guide's laid-datum.mjs) off the statement by which the dump's own 'gosem.cut.vars' lays the variable. In a bare row this is a premise. The card (YtiemgkjmifpfcaaDoorCards.lean) ties it to the program's text. -/
def laid_errors_errorType {H : Type} : DataW H := .iface "internal/reflectlite.rtype" (.agg [.ptr (.lit (.string [101, 114, 114, 111, 114]))])
def laid_math_bits_deBruijn32tab {H : Type} : DataW H := .agg [.lit (.int .u8 0), .lit (.int .u8 1), .lit (.int .u8 28), .lit (.int .u8 2), .lit (.int .u8 29), .lit (.int .u8 14), .lit (.int .u8 24), .lit (.int .u8 3), .lit (.int .u8 30), .lit (.int .u8 22), .lit (.int .u8 20), .lit (.int .u8 15), .lit (.int .u8 25), .lit (.int .u8 17), .lit (.int .u8 4), .lit (.int .u8 8), .lit (.int .u8 31), .lit (.int .u8 27), .lit (.int .u8 13), .lit (.int .u8 23), .lit (.int .u8 21), .lit (.int .u8 19), .lit (.int .u8 16), .lit (.int .u8 7), .lit (.int .u8 26), .lit (.int .u8 12), .lit (.int .u8 18), .lit (.int .u8 6), .lit (.int .u8 11), .lit (.int .u8 5), .lit (.int .u8 10), .lit (.int .u8 9)]
def laid_math_bits_deBruijn64tab {H : Type} : DataW H := .agg [.lit (.int .u8 0), .lit (.int .u8 1), .lit (.int .u8 56), .lit (.int .u8 2), .lit (.int .u8 57), .lit (.int .u8 49), .lit (.int .u8 28), .lit (.int .u8 3), .lit (.int .u8 61), .lit (.int .u8 58), .lit (.int .u8 42), .lit (.int .u8 50), .lit (.int .u8 38), .lit (.int .u8 29), .lit (.int .u8 17), .lit (.int .u8 4), .lit (.int .u8 62), .lit (.int .u8 47), .lit (.int .u8 59), .lit (.int .u8 36), .lit (.int .u8 45), .lit (.int .u8 43), .lit (.int .u8 51), .lit (.int .u8 22), .lit (.int .u8 53), .lit (.int .u8 39), .lit (.int .u8 33), .lit (.int .u8 30), .lit (.int .u8 24), .lit (.int .u8 18), .lit (.int .u8 12), .lit (.int .u8 5), .lit (.int .u8 63), .lit (.int .u8 55), .lit (.int .u8 48), .lit (.int .u8 27), .lit (.int .u8 60), .lit (.int .u8 41), .lit (.int .u8 37), .lit (.int .u8 16), .lit (.int .u8 46), .lit (.int .u8 35), .lit (.int .u8 44), .lit (.int .u8 21), .lit (.int .u8 52), .lit (.int .u8 32), .lit (.int .u8 23), .lit (.int .u8 11), .lit (.int .u8 54), .lit (.int .u8 26), .lit (.int .u8 40), .lit (.int .u8 15), .lit (.int .u8 34), .lit (.int .u8 20), .lit (.int .u8 31), .lit (.int .u8 10), .lit (.int .u8 25), .lit (.int .u8 14), .lit (.int .u8 19), .lit (.int .u8 9), .lit (.int .u8 13), .lit (.int .u8 8), .lit (.int .u8 7), .lit (.int .u8 6)]
def laid_internal_strconv_uint64pow10 {H : Type} : DataW H := .agg [.lit (.int .u64 1), .lit (.int .u64 10), .lit (.int .u64 100), .lit (.int .u64 1000), .lit (.int .u64 10000), .lit (.int .u64 100000), .lit (.int .u64 1000000), .lit (.int .u64 10000000), .lit (.int .u64 100000000), .lit (.int .u64 1000000000), .lit (.int .u64 10000000000), .lit (.int .u64 100000000000), .lit (.int .u64 1000000000000), .lit (.int .u64 10000000000000), .lit (.int .u64 100000000000000), .lit (.int .u64 1000000000000000), .lit (.int .u64 10000000000000000), .lit (.int .u64 100000000000000000), .lit (.int .u64 1000000000000000000), .lit (.int .u64 10000000000000000000)]

/-- 'countwheellaw13.WindowChecks': WHATEVER THE INPUT: true; the input reads as it did. -/
def windowChecksSpec : ChangeSpec := { name := "windowChecks", fn := fun _ => fun
  | [d1, d2] => { results := [.lit (.bool true)], args := [d1, d2] }
  | _ => none }
def windowChecksRow : OpenClaim := { program := "ytiemgkjmifpfcaadoor", sum := "79a76b91207333631520af332517877f2f6850def52ef9a7207ec88bbf30c5f4", func := "countwheel/countwheellaw13.WindowChecks", spec := "windowChecks", inPlace := ["internal/reflectlite.ValueOf", "(internal/reflectlite.Value).Type", "(internal/reflectlite.Value).IsNil", "internal/reflectlite.TypeOf", "(internal/reflectlite.Value).Elem", "(internal/reflectlite.Value).Set"], unfollowed := true, recurses := true, named := ["errors.errorType"], apart := false, laid := [("errors.errorType", laid_errors_errorType)] }
def WindowChecksSaid : Prop := windowChecksRow.holds Tryd.pinned (OpenSpec.ofChange windowChecksSpec)

/-- ITS FALSE NEIGHBOUR: 'it returns false'. Refute it at one input. -/
def windowChecksWrong : ChangeSpec := { name := "windowChecks", fn := fun _ => fun
  | [d1, d2] => { results := [.lit (.bool false)], args := [d1, d2] }
  | _ => none }
def WindowChecksWrongFalsely : Prop := windowChecksRow.holds Tryd.pinned (OpenSpec.ofChange windowChecksWrong)

/-- 'countwheellaw05.ReaderPieces': WHATEVER THE INPUT: true; the input reads as it did. -/
def readerPiecesSpec : ChangeSpec := { name := "readerPieces", fn := fun _ => fun
  | [d1, d2, d3] => { results := [.lit (.bool true)], args := [d1, d2, d3] }
  | _ => none }
def readerPiecesRow : OpenClaim := { program := "ytiemgkjmifpfcaadoor", sum := "79a76b91207333631520af332517877f2f6850def52ef9a7207ec88bbf30c5f4", func := "countwheel/countwheellaw05.ReaderPieces", spec := "readerPieces", inPlace := ["internal/reflectlite.ValueOf", "(internal/reflectlite.Value).Type", "(internal/reflectlite.Value).IsNil", "internal/reflectlite.TypeOf", "(internal/reflectlite.Value).Elem", "(internal/reflectlite.Value).Set"], unfollowed := true, recurses := true, named := ["errors.errorType"], apart := false, laid := [("errors.errorType", laid_errors_errorType)] }
def ReaderPiecesSaid : Prop := readerPiecesRow.holds Tryd.pinned (OpenSpec.ofChange readerPiecesSpec)

/-- ITS FALSE NEIGHBOUR: 'it returns false'. Refute it at one input. -/
def readerPiecesWrong : ChangeSpec := { name := "readerPieces", fn := fun _ => fun
  | [d1, d2, d3] => { results := [.lit (.bool false)], args := [d1, d2, d3] }
  | _ => none }
def ReaderPiecesWrongFalsely : Prop := readerPiecesRow.holds Tryd.pinned (OpenSpec.ofChange readerPiecesWrong)

/-- 'countwheellaw05.ReaderReads': WHATEVER THE INPUT: true; the input reads as it did. -/
def readerReadsSpec : ChangeSpec := { name := "readerReads", fn := fun _ => fun
  | [d1, d2] => { results := [.lit (.bool true)], args := [d1, d2] }
  | _ => none }
def readerReadsRow : OpenClaim := { program := "ytiemgkjmifpfcaadoor", sum := "79a76b91207333631520af332517877f2f6850def52ef9a7207ec88bbf30c5f4", func := "countwheel/countwheellaw05.ReaderReads", spec := "readerReads", inPlace := ["internal/reflectlite.ValueOf", "(internal/reflectlite.Value).Type", "(internal/reflectlite.Value).IsNil", "internal/reflectlite.TypeOf", "(internal/reflectlite.Value).Elem", "(internal/reflectlite.Value).Set"], unfollowed := true, recurses := true, named := ["errors.errorType"], apart := false, laid := [("errors.errorType", laid_errors_errorType)] }
def ReaderReadsSaid : Prop := readerReadsRow.holds Tryd.pinned (OpenSpec.ofChange readerReadsSpec)

/-- ITS FALSE NEIGHBOUR: 'it returns false'. Refute it at one input. -/
def readerReadsWrong : ChangeSpec := { name := "readerReads", fn := fun _ => fun
  | [d1, d2] => { results := [.lit (.bool false)], args := [d1, d2] }
  | _ => none }
def ReaderReadsWrongFalsely : Prop := readerReadsRow.holds Tryd.pinned (OpenSpec.ofChange readerReadsWrong)

/-- 'countwheellaw05.ReaderNumbers': WHATEVER THE INPUT: true; the input reads as it did. -/
def readerNumbersSpec : ChangeSpec := { name := "readerNumbers", fn := fun _ => fun
  | [d1, d2, d3] => { results := [.lit (.bool true)], args := [d1, d2, d3] }
  | _ => none }
def readerNumbersRow : OpenClaim := { program := "ytiemgkjmifpfcaadoor", sum := "79a76b91207333631520af332517877f2f6850def52ef9a7207ec88bbf30c5f4", func := "countwheel/countwheellaw05.ReaderNumbers", spec := "readerNumbers", inPlace := ["internal/reflectlite.ValueOf", "(internal/reflectlite.Value).Type", "(internal/reflectlite.Value).IsNil", "internal/reflectlite.TypeOf", "(internal/reflectlite.Value).Elem", "(internal/reflectlite.Value).Set"], unfollowed := true, recurses := true, named := ["errors.errorType"], apart := false, laid := [("errors.errorType", laid_errors_errorType)] }
def ReaderNumbersSaid : Prop := readerNumbersRow.holds Tryd.pinned (OpenSpec.ofChange readerNumbersSpec)

/-- ITS FALSE NEIGHBOUR: 'it returns false'. Refute it at one input. -/
def readerNumbersWrong : ChangeSpec := { name := "readerNumbers", fn := fun _ => fun
  | [d1, d2, d3] => { results := [.lit (.bool false)], args := [d1, d2, d3] }
  | _ => none }
def ReaderNumbersWrongFalsely : Prop := readerNumbersRow.holds Tryd.pinned (OpenSpec.ofChange readerNumbersWrong)

/-- 'countwheellaw06.NameMakes': WHATEVER THE INPUT: true; the input reads as it did. -/
def nameMakesSpec : ChangeSpec := { name := "nameMakes", fn := fun _ => fun
  | [d1, d2, d3] => { results := [.lit (.bool true)], args := [d1, d2, d3] }
  | _ => none }
def nameMakesRow : OpenClaim := { program := "ytiemgkjmifpfcaadoor", sum := "79a76b91207333631520af332517877f2f6850def52ef9a7207ec88bbf30c5f4", func := "countwheel/countwheellaw06.NameMakes", spec := "nameMakes", inPlace := ["internal/bytealg.abigen_runtime_cmpstring"], recurses := true, named := ["internal/strconv.uint64pow10", "math/bits.deBruijn32tab", "math/bits.deBruijn64tab"], apart := false, laid := [("math/bits.deBruijn32tab", laid_math_bits_deBruijn32tab), ("math/bits.deBruijn64tab", laid_math_bits_deBruijn64tab), ("internal/strconv.uint64pow10", laid_internal_strconv_uint64pow10)] }
def NameMakesSaid : Prop := nameMakesRow.holds Tryd.pinned (OpenSpec.ofChange nameMakesSpec)

/-- ITS FALSE NEIGHBOUR: 'it returns false'. Refute it at one input. -/
def nameMakesWrong : ChangeSpec := { name := "nameMakes", fn := fun _ => fun
  | [d1, d2, d3] => { results := [.lit (.bool false)], args := [d1, d2, d3] }
  | _ => none }
def NameMakesWrongFalsely : Prop := nameMakesRow.holds Tryd.pinned (OpenSpec.ofChange nameMakesWrong)

/-- 'countwheellaw13.WindowRight': WHATEVER THE INPUT: true; the input reads as it did. -/
def windowRightSpec : ChangeSpec := { name := "windowRight", fn := fun _ => fun
  | [d1, d2] => { results := [.lit (.bool true)], args := [d1, d2] }
  | _ => none }
def windowRightRow : OpenClaim := { program := "ytiemgkjmifpfcaadoor", sum := "79a76b91207333631520af332517877f2f6850def52ef9a7207ec88bbf30c5f4", func := "countwheel/countwheellaw13.WindowRight", spec := "windowRight", inPlace := ["internal/reflectlite.ValueOf", "(internal/reflectlite.Value).Type", "(internal/reflectlite.Value).IsNil", "internal/reflectlite.TypeOf", "(internal/reflectlite.Value).Elem", "(internal/reflectlite.Value).Set"], unfollowed := true, recurses := true, named := ["errors.errorType"], apart := false, laid := [("errors.errorType", laid_errors_errorType)] }
def WindowRightSaid : Prop := windowRightRow.holds Tryd.pinned (OpenSpec.ofChange windowRightSpec)

/-- ITS FALSE NEIGHBOUR: 'it returns false'. Refute it at one input. -/
def windowRightWrong : ChangeSpec := { name := "windowRight", fn := fun _ => fun
  | [d1, d2] => { results := [.lit (.bool false)], args := [d1, d2] }
  | _ => none }
def WindowRightWrongFalsely : Prop := windowRightRow.holds Tryd.pinned (OpenSpec.ofChange windowRightWrong)

/-- 'countwheellaw07.HeaderOf': WHATEVER THE INPUT: true; the input reads as it did. -/
def headerOfSpec : ChangeSpec := { name := "headerOf", fn := fun _ => fun
  | [d] => { results := [.lit (.bool true)], args := [d] }
  | _ => none }
def headerOfRow : OpenClaim := { program := "ytiemgkjmifpfcaadoor", sum := "79a76b91207333631520af332517877f2f6850def52ef9a7207ec88bbf30c5f4", func := "countwheel/countwheellaw07.HeaderOf", spec := "headerOf", inPlace := ["internal/reflectlite.ValueOf", "(internal/reflectlite.Value).Type", "(internal/reflectlite.Value).IsNil", "internal/reflectlite.TypeOf", "(internal/reflectlite.Value).Elem", "(internal/reflectlite.Value).Set"], unfollowed := true, recurses := true, named := ["errors.errorType"], apart := false, laid := [("errors.errorType", laid_errors_errorType)] }
def HeaderOfSaid : Prop := headerOfRow.holds Tryd.pinned (OpenSpec.ofChange headerOfSpec)

/-- ITS FALSE NEIGHBOUR: 'it returns false'. Refute it at one input. -/
def headerOfWrong : ChangeSpec := { name := "headerOf", fn := fun _ => fun
  | [d] => { results := [.lit (.bool false)], args := [d] }
  | _ => none }
def HeaderOfWrongFalsely : Prop := headerOfRow.holds Tryd.pinned (OpenSpec.ofChange headerOfWrong)

/-- 'countwheellaw07.HeaderReads': WHATEVER THE INPUT: true; the input reads as it did. -/
def headerReadsSpec : ChangeSpec := { name := "headerReads", fn := fun _ => fun
  | [d1, d2] => { results := [.lit (.bool true)], args := [d1, d2] }
  | _ => none }
def headerReadsRow : OpenClaim := { program := "ytiemgkjmifpfcaadoor", sum := "79a76b91207333631520af332517877f2f6850def52ef9a7207ec88bbf30c5f4", func := "countwheel/countwheellaw07.HeaderReads", spec := "headerReads", inPlace := ["internal/reflectlite.ValueOf", "(internal/reflectlite.Value).Type", "(internal/reflectlite.Value).IsNil", "internal/reflectlite.TypeOf", "(internal/reflectlite.Value).Elem", "(internal/reflectlite.Value).Set"], unfollowed := true, recurses := true, named := ["errors.errorType"], apart := false, laid := [("errors.errorType", laid_errors_errorType)] }
def HeaderReadsSaid : Prop := headerReadsRow.holds Tryd.pinned (OpenSpec.ofChange headerReadsSpec)

/-- ITS FALSE NEIGHBOUR: 'it returns false'. Refute it at one input. -/
def headerReadsWrong : ChangeSpec := { name := "headerReads", fn := fun _ => fun
  | [d1, d2] => { results := [.lit (.bool false)], args := [d1, d2] }
  | _ => none }
def HeaderReadsWrongFalsely : Prop := headerReadsRow.holds Tryd.pinned (OpenSpec.ofChange headerReadsWrong)

/- THE SECOND FORM. 'bulk': how many values and letters a reading holds, each counted each time it is reached (what is shared counts as often as it is met; a slice's spare places count too). A statement '..UptoSaid' is the law's where the arguments, and the package variables that the reading takes, are together of bulk at most 1048576: NARROWER than '..Said'. Prove '..Said' where nothing that the law and all that it calls make is longer than what came in: it says more and counts as full. Else prove '..UptoSaid'. A law counts once. -/
mutual
def uptoBulk {H : Type} : DataW H → Nat
  | .lit (.string bytes) => bytes.length + 1
  | .lit _ => 1
  | .nil => 1
  | .ptr d => uptoBulk d + 1
  | .slice elems spare => uptoBulkAll elems + uptoBulkAll spare + 1
  | .agg parts => uptoBulkAll parts + 1
  | .iface _ d => uptoBulk d + 1
  | .map entries => uptoBulkEntries entries + 1
  | .held _ => 1
def uptoBulkAll {H : Type} : List (DataW H) → Nat
  | [] => 0
  | d :: r => uptoBulk d + uptoBulkAll r
def uptoBulkEntries {H : Type} : List (Lit × DataW H) → Nat
  | [] => 0
  | x :: r => uptoBulkEntry x + uptoBulkEntries r
def uptoBulkEntry {H : Type} : Lit × DataW H → Nat
  | (.string bytes, d) => bytes.length + uptoBulk d + 1
  | (_, d) => uptoBulk d + 1
 end
def uptoSmall : (H : Type) → List (DataW H) → Bool := fun _ ds => decide (uptoBulkAll ds ≤ 1048576)
def OpenSpec.upto (s : _root_.Go.ChangeSpec) : _root_.Go.OpenSpec := { _root_.Go.OpenSpec.ofChange s with cond := some uptoSmall }

/-- 'countwheellaw13.WindowChecks', WHERE WHAT IT READS IS OF BULK AT MOST 1048576: true; the input reads as it did. -/
def windowChecksUptoRow : OpenClaim := { program := "ytiemgkjmifpfcaadoor", sum := "79a76b91207333631520af332517877f2f6850def52ef9a7207ec88bbf30c5f4", func := "countwheel/countwheellaw13.WindowChecks", spec := "windowChecks", inPlace := ["internal/reflectlite.ValueOf", "(internal/reflectlite.Value).Type", "(internal/reflectlite.Value).IsNil", "internal/reflectlite.TypeOf", "(internal/reflectlite.Value).Elem", "(internal/reflectlite.Value).Set"], unfollowed := true, recurses := true, named := ["errors.errorType"], apart := false, laid := [("errors.errorType", laid_errors_errorType)], narrowed := true }
def WindowChecksUptoSaid : Prop := windowChecksUptoRow.holds Tryd.pinned (OpenSpec.upto windowChecksSpec)

/-- 'countwheellaw05.ReaderPieces', WHERE WHAT IT READS IS OF BULK AT MOST 1048576: true; the input reads as it did. -/
def readerPiecesUptoRow : OpenClaim := { program := "ytiemgkjmifpfcaadoor", sum := "79a76b91207333631520af332517877f2f6850def52ef9a7207ec88bbf30c5f4", func := "countwheel/countwheellaw05.ReaderPieces", spec := "readerPieces", inPlace := ["internal/reflectlite.ValueOf", "(internal/reflectlite.Value).Type", "(internal/reflectlite.Value).IsNil", "internal/reflectlite.TypeOf", "(internal/reflectlite.Value).Elem", "(internal/reflectlite.Value).Set"], unfollowed := true, recurses := true, named := ["errors.errorType"], apart := false, laid := [("errors.errorType", laid_errors_errorType)], narrowed := true }
def ReaderPiecesUptoSaid : Prop := readerPiecesUptoRow.holds Tryd.pinned (OpenSpec.upto readerPiecesSpec)

/-- 'countwheellaw05.ReaderReads', WHERE WHAT IT READS IS OF BULK AT MOST 1048576: true; the input reads as it did. -/
def readerReadsUptoRow : OpenClaim := { program := "ytiemgkjmifpfcaadoor", sum := "79a76b91207333631520af332517877f2f6850def52ef9a7207ec88bbf30c5f4", func := "countwheel/countwheellaw05.ReaderReads", spec := "readerReads", inPlace := ["internal/reflectlite.ValueOf", "(internal/reflectlite.Value).Type", "(internal/reflectlite.Value).IsNil", "internal/reflectlite.TypeOf", "(internal/reflectlite.Value).Elem", "(internal/reflectlite.Value).Set"], unfollowed := true, recurses := true, named := ["errors.errorType"], apart := false, laid := [("errors.errorType", laid_errors_errorType)], narrowed := true }
def ReaderReadsUptoSaid : Prop := readerReadsUptoRow.holds Tryd.pinned (OpenSpec.upto readerReadsSpec)

/-- 'countwheellaw05.ReaderNumbers', WHERE WHAT IT READS IS OF BULK AT MOST 1048576: true; the input reads as it did. -/
def readerNumbersUptoRow : OpenClaim := { program := "ytiemgkjmifpfcaadoor", sum := "79a76b91207333631520af332517877f2f6850def52ef9a7207ec88bbf30c5f4", func := "countwheel/countwheellaw05.ReaderNumbers", spec := "readerNumbers", inPlace := ["internal/reflectlite.ValueOf", "(internal/reflectlite.Value).Type", "(internal/reflectlite.Value).IsNil", "internal/reflectlite.TypeOf", "(internal/reflectlite.Value).Elem", "(internal/reflectlite.Value).Set"], unfollowed := true, recurses := true, named := ["errors.errorType"], apart := false, laid := [("errors.errorType", laid_errors_errorType)], narrowed := true }
def ReaderNumbersUptoSaid : Prop := readerNumbersUptoRow.holds Tryd.pinned (OpenSpec.upto readerNumbersSpec)

/-- 'countwheellaw06.NameMakes', WHERE WHAT IT READS IS OF BULK AT MOST 1048576: true; the input reads as it did. -/
def nameMakesUptoRow : OpenClaim := { program := "ytiemgkjmifpfcaadoor", sum := "79a76b91207333631520af332517877f2f6850def52ef9a7207ec88bbf30c5f4", func := "countwheel/countwheellaw06.NameMakes", spec := "nameMakes", inPlace := ["internal/bytealg.abigen_runtime_cmpstring"], recurses := true, named := ["internal/strconv.uint64pow10", "math/bits.deBruijn32tab", "math/bits.deBruijn64tab"], apart := false, laid := [("math/bits.deBruijn32tab", laid_math_bits_deBruijn32tab), ("math/bits.deBruijn64tab", laid_math_bits_deBruijn64tab), ("internal/strconv.uint64pow10", laid_internal_strconv_uint64pow10)], narrowed := true }
def NameMakesUptoSaid : Prop := nameMakesUptoRow.holds Tryd.pinned (OpenSpec.upto nameMakesSpec)

/-- 'countwheellaw13.WindowRight', WHERE WHAT IT READS IS OF BULK AT MOST 1048576: true; the input reads as it did. -/
def windowRightUptoRow : OpenClaim := { program := "ytiemgkjmifpfcaadoor", sum := "79a76b91207333631520af332517877f2f6850def52ef9a7207ec88bbf30c5f4", func := "countwheel/countwheellaw13.WindowRight", spec := "windowRight", inPlace := ["internal/reflectlite.ValueOf", "(internal/reflectlite.Value).Type", "(internal/reflectlite.Value).IsNil", "internal/reflectlite.TypeOf", "(internal/reflectlite.Value).Elem", "(internal/reflectlite.Value).Set"], unfollowed := true, recurses := true, named := ["errors.errorType"], apart := false, laid := [("errors.errorType", laid_errors_errorType)], narrowed := true }
def WindowRightUptoSaid : Prop := windowRightUptoRow.holds Tryd.pinned (OpenSpec.upto windowRightSpec)

/-- 'countwheellaw07.HeaderOf', WHERE WHAT IT READS IS OF BULK AT MOST 1048576: true; the input reads as it did. -/
def headerOfUptoRow : OpenClaim := { program := "ytiemgkjmifpfcaadoor", sum := "79a76b91207333631520af332517877f2f6850def52ef9a7207ec88bbf30c5f4", func := "countwheel/countwheellaw07.HeaderOf", spec := "headerOf", inPlace := ["internal/reflectlite.ValueOf", "(internal/reflectlite.Value).Type", "(internal/reflectlite.Value).IsNil", "internal/reflectlite.TypeOf", "(internal/reflectlite.Value).Elem", "(internal/reflectlite.Value).Set"], unfollowed := true, recurses := true, named := ["errors.errorType"], apart := false, laid := [("errors.errorType", laid_errors_errorType)], narrowed := true }
def HeaderOfUptoSaid : Prop := headerOfUptoRow.holds Tryd.pinned (OpenSpec.upto headerOfSpec)

/-- 'countwheellaw07.HeaderReads', WHERE WHAT IT READS IS OF BULK AT MOST 1048576: true; the input reads as it did. -/
def headerReadsUptoRow : OpenClaim := { program := "ytiemgkjmifpfcaadoor", sum := "79a76b91207333631520af332517877f2f6850def52ef9a7207ec88bbf30c5f4", func := "countwheel/countwheellaw07.HeaderReads", spec := "headerReads", inPlace := ["internal/reflectlite.ValueOf", "(internal/reflectlite.Value).Type", "(internal/reflectlite.Value).IsNil", "internal/reflectlite.TypeOf", "(internal/reflectlite.Value).Elem", "(internal/reflectlite.Value).Set"], unfollowed := true, recurses := true, named := ["errors.errorType"], apart := false, laid := [("errors.errorType", laid_errors_errorType)], narrowed := true }
def HeaderReadsUptoSaid : Prop := headerReadsUptoRow.holds Tryd.pinned (OpenSpec.upto headerReadsSpec)

end Rows
end Go.Proofs.YtiemgkjmifpfcaaDoor
