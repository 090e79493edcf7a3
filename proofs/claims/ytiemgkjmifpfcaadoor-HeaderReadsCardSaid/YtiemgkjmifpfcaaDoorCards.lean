/-
  DERIVED. GIVEN WITH THE SEED: THE CARDS: each row of YtiemgkjmifpfcaaDoorRows.lean that lists a variable, with what it lists TIED to the program's text (the seventh form; the later family's looks); each row that meets fmt, with fmt's text TOLD by the authors' own Lean function (tested against real Go, not proved from fmt's source: count such statements apart). THE CARD IS WHAT COUNTS. Prove the row's statement (the work); the ties are given (YtiemgkjmifpfcaaDoorTie.lean); close each card by the builder's one call (the guide's Derived/Test/ToyasCard.lean, 'card_holds'). Laid BY PROGRAM, IN A SANDBOX (cutbox-door.mjs). By AI agents, Wed Nov 11 2026. No macro, syntax, notation, axiom, sorry.
-/
import Derived.Test.YtiemgkjmifpfcaaDoorRows
import GoSem.ClaimSeven
namespace Go.Proofs.YtiemgkjmifpfcaaDoor
namespace Rows

/-- THE TIED CARD OF 'countwheellaw13.WindowChecks'. -/
def windowChecksCard : Claim7 := { stood := { row := windowChecksRow, standIns := [], harness := (true, "79142c1035fc866ce74b9956117353477c63eba9e2d5c47915c2b3d465750383"), looks := true }, kinds := [], alts := [], laidByText := true, laidKinds := [.handle], laidTests := true, laidLooks := .later }
def WindowChecksCardSaid : Prop := Claim7.holds Tryd.pinned (.plain (OpenSpec.ofChange windowChecksSpec)) windowChecksCard

/-- THE TIED CARD OF 'countwheellaw05.ReaderPieces'. -/
def readerPiecesCard : Claim7 := { stood := { row := readerPiecesRow, standIns := [], harness := (true, "79142c1035fc866ce74b9956117353477c63eba9e2d5c47915c2b3d465750383"), looks := true }, kinds := [], alts := [], laidByText := true, laidKinds := [.handle], laidTests := true, laidLooks := .later }
def ReaderPiecesCardSaid : Prop := Claim7.holds Tryd.pinned (.plain (OpenSpec.ofChange readerPiecesSpec)) readerPiecesCard

/-- THE TIED CARD OF 'countwheellaw05.ReaderReads'. -/
def readerReadsCard : Claim7 := { stood := { row := readerReadsRow, standIns := [], harness := (true, "79142c1035fc866ce74b9956117353477c63eba9e2d5c47915c2b3d465750383"), looks := true }, kinds := [], alts := [], laidByText := true, laidKinds := [.handle], laidTests := true, laidLooks := .later }
def ReaderReadsCardSaid : Prop := Claim7.holds Tryd.pinned (.plain (OpenSpec.ofChange readerReadsSpec)) readerReadsCard

/-- THE TIED CARD OF 'countwheellaw05.ReaderNumbers'. -/
def readerNumbersCard : Claim7 := { stood := { row := readerNumbersRow, standIns := [], harness := (true, "79142c1035fc866ce74b9956117353477c63eba9e2d5c47915c2b3d465750383"), looks := true }, kinds := [], alts := [], laidByText := true, laidKinds := [.handle], laidTests := true, laidLooks := .later }
def ReaderNumbersCardSaid : Prop := Claim7.holds Tryd.pinned (.plain (OpenSpec.ofChange readerNumbersSpec)) readerNumbersCard

/-- THE TIED CARD OF 'countwheellaw06.NameMakes'. -/
def nameMakesCard : Claim7 := { stood := { row := nameMakesRow, standIns := [], harness := (true, "79142c1035fc866ce74b9956117353477c63eba9e2d5c47915c2b3d465750383"), looks := true }, kinds := [], alts := [], laidByText := true, laidKinds := [.data, .data, .data], laidTests := true, laidLooks := .later }
def NameMakesCardSaid : Prop := Claim7.holds Tryd.pinned (.plain (OpenSpec.ofChange nameMakesSpec)) nameMakesCard

/-- THE TIED CARD OF 'countwheellaw13.WindowRight'. -/
def windowRightCard : Claim7 := { stood := { row := windowRightRow, standIns := [], harness := (true, "79142c1035fc866ce74b9956117353477c63eba9e2d5c47915c2b3d465750383"), looks := true }, kinds := [], alts := [], laidByText := true, laidKinds := [.handle], laidTests := true, laidLooks := .later }
def WindowRightCardSaid : Prop := Claim7.holds Tryd.pinned (.plain (OpenSpec.ofChange windowRightSpec)) windowRightCard

/-- THE TIED CARD OF 'countwheellaw07.HeaderOf'. -/
def headerOfCard : Claim7 := { stood := { row := headerOfRow, standIns := [], harness := (true, "79142c1035fc866ce74b9956117353477c63eba9e2d5c47915c2b3d465750383"), looks := true }, kinds := [], alts := [], laidByText := true, laidKinds := [.handle], laidTests := true, laidLooks := .later }
def HeaderOfCardSaid : Prop := Claim7.holds Tryd.pinned (.plain (OpenSpec.ofChange headerOfSpec)) headerOfCard

/-- THE TIED CARD OF 'countwheellaw07.HeaderReads'. -/
def headerReadsCard : Claim7 := { stood := { row := headerReadsRow, standIns := [], harness := (true, "79142c1035fc866ce74b9956117353477c63eba9e2d5c47915c2b3d465750383"), looks := true }, kinds := [], alts := [], laidByText := true, laidKinds := [.handle], laidTests := true, laidLooks := .later }
def HeaderReadsCardSaid : Prop := Claim7.holds Tryd.pinned (.plain (OpenSpec.ofChange headerReadsSpec)) headerReadsCard

/-- THE SECOND FORM's CARD OF 'countwheellaw13.WindowChecks'. -/
def windowChecksUptoCard : Claim7 := { stood := { row := windowChecksUptoRow, standIns := [], harness := (true, "79142c1035fc866ce74b9956117353477c63eba9e2d5c47915c2b3d465750383"), looks := true }, kinds := [], alts := [], laidByText := true, laidKinds := [.handle], laidTests := true, laidLooks := .later }
def WindowChecksUptoCardSaid : Prop := Claim7.holds Tryd.pinned (.plain (OpenSpec.upto windowChecksSpec)) windowChecksUptoCard

/-- THE SECOND FORM's CARD OF 'countwheellaw05.ReaderPieces'. -/
def readerPiecesUptoCard : Claim7 := { stood := { row := readerPiecesUptoRow, standIns := [], harness := (true, "79142c1035fc866ce74b9956117353477c63eba9e2d5c47915c2b3d465750383"), looks := true }, kinds := [], alts := [], laidByText := true, laidKinds := [.handle], laidTests := true, laidLooks := .later }
def ReaderPiecesUptoCardSaid : Prop := Claim7.holds Tryd.pinned (.plain (OpenSpec.upto readerPiecesSpec)) readerPiecesUptoCard

/-- THE SECOND FORM's CARD OF 'countwheellaw05.ReaderReads'. -/
def readerReadsUptoCard : Claim7 := { stood := { row := readerReadsUptoRow, standIns := [], harness := (true, "79142c1035fc866ce74b9956117353477c63eba9e2d5c47915c2b3d465750383"), looks := true }, kinds := [], alts := [], laidByText := true, laidKinds := [.handle], laidTests := true, laidLooks := .later }
def ReaderReadsUptoCardSaid : Prop := Claim7.holds Tryd.pinned (.plain (OpenSpec.upto readerReadsSpec)) readerReadsUptoCard

/-- THE SECOND FORM's CARD OF 'countwheellaw05.ReaderNumbers'. -/
def readerNumbersUptoCard : Claim7 := { stood := { row := readerNumbersUptoRow, standIns := [], harness := (true, "79142c1035fc866ce74b9956117353477c63eba9e2d5c47915c2b3d465750383"), looks := true }, kinds := [], alts := [], laidByText := true, laidKinds := [.handle], laidTests := true, laidLooks := .later }
def ReaderNumbersUptoCardSaid : Prop := Claim7.holds Tryd.pinned (.plain (OpenSpec.upto readerNumbersSpec)) readerNumbersUptoCard

/-- THE SECOND FORM's CARD OF 'countwheellaw06.NameMakes'. -/
def nameMakesUptoCard : Claim7 := { stood := { row := nameMakesUptoRow, standIns := [], harness := (true, "79142c1035fc866ce74b9956117353477c63eba9e2d5c47915c2b3d465750383"), looks := true }, kinds := [], alts := [], laidByText := true, laidKinds := [.data, .data, .data], laidTests := true, laidLooks := .later }
def NameMakesUptoCardSaid : Prop := Claim7.holds Tryd.pinned (.plain (OpenSpec.upto nameMakesSpec)) nameMakesUptoCard

/-- THE SECOND FORM's CARD OF 'countwheellaw13.WindowRight'. -/
def windowRightUptoCard : Claim7 := { stood := { row := windowRightUptoRow, standIns := [], harness := (true, "79142c1035fc866ce74b9956117353477c63eba9e2d5c47915c2b3d465750383"), looks := true }, kinds := [], alts := [], laidByText := true, laidKinds := [.handle], laidTests := true, laidLooks := .later }
def WindowRightUptoCardSaid : Prop := Claim7.holds Tryd.pinned (.plain (OpenSpec.upto windowRightSpec)) windowRightUptoCard

/-- THE SECOND FORM's CARD OF 'countwheellaw07.HeaderOf'. -/
def headerOfUptoCard : Claim7 := { stood := { row := headerOfUptoRow, standIns := [], harness := (true, "79142c1035fc866ce74b9956117353477c63eba9e2d5c47915c2b3d465750383"), looks := true }, kinds := [], alts := [], laidByText := true, laidKinds := [.handle], laidTests := true, laidLooks := .later }
def HeaderOfUptoCardSaid : Prop := Claim7.holds Tryd.pinned (.plain (OpenSpec.upto headerOfSpec)) headerOfUptoCard

/-- THE SECOND FORM's CARD OF 'countwheellaw07.HeaderReads'. -/
def headerReadsUptoCard : Claim7 := { stood := { row := headerReadsUptoRow, standIns := [], harness := (true, "79142c1035fc866ce74b9956117353477c63eba9e2d5c47915c2b3d465750383"), looks := true }, kinds := [], alts := [], laidByText := true, laidKinds := [.handle], laidTests := true, laidLooks := .later }
def HeaderReadsUptoCardSaid : Prop := Claim7.holds Tryd.pinned (.plain (OpenSpec.upto headerReadsSpec)) headerReadsUptoCard
end Rows
end Go.Proofs.YtiemgkjmifpfcaaDoor
