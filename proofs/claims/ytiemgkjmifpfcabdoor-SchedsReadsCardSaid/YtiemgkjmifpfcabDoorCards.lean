/-
  DERIVED. GIVEN WITH THE SEED: THE CARDS: each row of YtiemgkjmifpfcabDoorRows.lean that lists a variable, with what it lists TIED to the program's text (the seventh form; the later family's looks); each row that meets fmt, with fmt's text TOLD by the authors' own Lean function (tested against real Go, not proved from fmt's source: count such statements apart). THE CARD IS WHAT COUNTS. Prove the row's statement (the work); the ties are given (YtiemgkjmifpfcabDoorTie.lean); close each card by the builder's one call (the guide's Derived/Test/ToyasCard.lean, 'card_holds'). Laid BY PROGRAM, IN A SANDBOX (cutbox-door.mjs). By AI agents, Wed Nov 11 2026. No macro, syntax, notation, axiom, sorry.
-/
import Derived.Test.YtiemgkjmifpfcabDoorRows
import GoSem.ClaimSeven
namespace Go.Proofs.YtiemgkjmifpfcabDoor
namespace Rows

/-- THE TIED CARD OF 'countwheellaw06.NameGets'. -/
def nameGetsCard : Claim7 := { stood := { row := nameGetsRow, standIns := [], harness := (true, "49109322168925cce702c0f5993164651619b2e00cf3ef5ef4de59a71e6053e1"), looks := true }, kinds := [], alts := [], laidByText := true, laidKinds := [.handle], laidTests := true, laidLooks := .later }
def NameGetsCardSaid : Prop := Claim7.holds Tryd.pinned (.plain (OpenSpec.ofChange nameGetsSpec)) nameGetsCard

/-- THE TIED CARD OF 'countwheellaw07.HeaderPuts'. -/
def headerPutsCard : Claim7 := { stood := { row := headerPutsRow, standIns := [], harness := (true, "49109322168925cce702c0f5993164651619b2e00cf3ef5ef4de59a71e6053e1"), looks := true }, kinds := [], alts := [], laidByText := true, laidKinds := [.handle], laidTests := true, laidLooks := .later }
def HeaderPutsCardSaid : Prop := Claim7.holds Tryd.pinned (.plain (OpenSpec.ofChange headerPutsSpec)) headerPutsCard

/-- THE TIED CARD OF 'countwheellaw09.SchedsPuts'. -/
def schedsPutsCard : Claim7 := { stood := { row := schedsPutsRow, standIns := [], harness := (true, "49109322168925cce702c0f5993164651619b2e00cf3ef5ef4de59a71e6053e1"), looks := true }, kinds := [], alts := [], laidByText := true, laidKinds := [.handle], laidTests := true, laidLooks := .later }
def SchedsPutsCardSaid : Prop := Claim7.holds Tryd.pinned (.plain (OpenSpec.ofChange schedsPutsSpec)) schedsPutsCard

/-- THE TIED CARD OF 'countwheellaw09.SchedsReads'. -/
def schedsReadsCard : Claim7 := { stood := { row := schedsReadsRow, standIns := [], harness := (true, "49109322168925cce702c0f5993164651619b2e00cf3ef5ef4de59a71e6053e1"), looks := true }, kinds := [], alts := [], laidByText := true, laidKinds := [.handle], laidTests := true, laidLooks := .later }
def SchedsReadsCardSaid : Prop := Claim7.holds Tryd.pinned (.plain (OpenSpec.ofChange schedsReadsSpec)) schedsReadsCard

/-- THE SECOND FORM's CARD OF 'countwheellaw06.NameGets'. -/
def nameGetsUptoCard : Claim7 := { stood := { row := nameGetsUptoRow, standIns := [], harness := (true, "49109322168925cce702c0f5993164651619b2e00cf3ef5ef4de59a71e6053e1"), looks := true }, kinds := [], alts := [], laidByText := true, laidKinds := [.handle], laidTests := true, laidLooks := .later }
def NameGetsUptoCardSaid : Prop := Claim7.holds Tryd.pinned (.plain (OpenSpec.upto nameGetsSpec)) nameGetsUptoCard

/-- THE SECOND FORM's CARD OF 'countwheellaw07.HeaderPuts'. -/
def headerPutsUptoCard : Claim7 := { stood := { row := headerPutsUptoRow, standIns := [], harness := (true, "49109322168925cce702c0f5993164651619b2e00cf3ef5ef4de59a71e6053e1"), looks := true }, kinds := [], alts := [], laidByText := true, laidKinds := [.handle], laidTests := true, laidLooks := .later }
def HeaderPutsUptoCardSaid : Prop := Claim7.holds Tryd.pinned (.plain (OpenSpec.upto headerPutsSpec)) headerPutsUptoCard

/-- THE SECOND FORM's CARD OF 'countwheellaw09.SchedsPuts'. -/
def schedsPutsUptoCard : Claim7 := { stood := { row := schedsPutsUptoRow, standIns := [], harness := (true, "49109322168925cce702c0f5993164651619b2e00cf3ef5ef4de59a71e6053e1"), looks := true }, kinds := [], alts := [], laidByText := true, laidKinds := [.handle], laidTests := true, laidLooks := .later }
def SchedsPutsUptoCardSaid : Prop := Claim7.holds Tryd.pinned (.plain (OpenSpec.upto schedsPutsSpec)) schedsPutsUptoCard

/-- THE SECOND FORM's CARD OF 'countwheellaw09.SchedsReads'. -/
def schedsReadsUptoCard : Claim7 := { stood := { row := schedsReadsUptoRow, standIns := [], harness := (true, "49109322168925cce702c0f5993164651619b2e00cf3ef5ef4de59a71e6053e1"), looks := true }, kinds := [], alts := [], laidByText := true, laidKinds := [.handle], laidTests := true, laidLooks := .later }
def SchedsReadsUptoCardSaid : Prop := Claim7.holds Tryd.pinned (.plain (OpenSpec.upto schedsReadsSpec)) schedsReadsUptoCard
end Rows
end Go.Proofs.YtiemgkjmifpfcabDoor
