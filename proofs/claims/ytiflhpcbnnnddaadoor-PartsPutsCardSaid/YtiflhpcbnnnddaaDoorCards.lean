/-
  DERIVED. GIVEN WITH THE SEED: THE CARDS: each row of YtiflhpcbnnnddaaDoorRows.lean that lists a variable, with what it lists TIED to the program's text (the seventh form; the later family's looks); each row that meets fmt, with fmt's text TOLD by the authors' own Lean function (tested against real Go, not proved from fmt's source: count such statements apart). THE CARD IS WHAT COUNTS. Prove the row's statement (the work); the ties are given (YtiflhpcbnnnddaaDoorTie.lean); close each card by the builder's one call (the guide's Derived/Test/ToyasCard.lean, 'card_holds'). Laid BY PROGRAM, IN A SANDBOX (cutbox-door.mjs). By AI agents, Wed Nov 11 2026. No macro, syntax, notation, axiom, sorry.
-/
import Derived.Test.YtiflhpcbnnnddaaDoorRows
import GoSem.ClaimSeven
namespace Go.Proofs.YtiflhpcbnnnddaaDoor
namespace Rows

/-- THE TIED CARD OF 'countwheellaw08.PartsPuts'. -/
def partsPutsCard : Claim7 := { stood := { row := partsPutsRow, standIns := [], harness := (true, "a1feed38bf8ac1397f2aa46e5c931c92907b3b0cd72dda4c2a1e440ffeab9394"), looks := true }, kinds := [], alts := [], laidByText := true, laidKinds := [.handle], laidTests := true, laidLooks := .later }
def PartsPutsCardSaid : Prop := Claim7.holds Tryd.pinned (.plain (OpenSpec.ofChange partsPutsSpec)) partsPutsCard

/-- THE TIED CARD OF 'countwheellaw03.FaultFirst'. -/
def faultFirstCard : Claim7 := { stood := { row := faultFirstRow, standIns := [], harness := (true, "a1feed38bf8ac1397f2aa46e5c931c92907b3b0cd72dda4c2a1e440ffeab9394"), looks := true }, kinds := [], alts := [], laidByText := true, laidKinds := [.handle], laidTests := true, laidLooks := .later }
def FaultFirstCardSaid : Prop := Claim7.holds Tryd.pinned (.plain (OpenSpec.ofChange faultFirstSpec)) faultFirstCard

/-- THE SECOND FORM's CARD OF 'countwheellaw08.PartsPuts'. -/
def partsPutsUptoCard : Claim7 := { stood := { row := partsPutsUptoRow, standIns := [], harness := (true, "a1feed38bf8ac1397f2aa46e5c931c92907b3b0cd72dda4c2a1e440ffeab9394"), looks := true }, kinds := [], alts := [], laidByText := true, laidKinds := [.handle], laidTests := true, laidLooks := .later }
def PartsPutsUptoCardSaid : Prop := Claim7.holds Tryd.pinned (.plain (OpenSpec.upto partsPutsSpec)) partsPutsUptoCard

/-- THE SECOND FORM's CARD OF 'countwheellaw03.FaultFirst'. -/
def faultFirstUptoCard : Claim7 := { stood := { row := faultFirstUptoRow, standIns := [], harness := (true, "a1feed38bf8ac1397f2aa46e5c931c92907b3b0cd72dda4c2a1e440ffeab9394"), looks := true }, kinds := [], alts := [], laidByText := true, laidKinds := [.handle], laidTests := true, laidLooks := .later }
def FaultFirstUptoCardSaid : Prop := Claim7.holds Tryd.pinned (.plain (OpenSpec.upto faultFirstSpec)) faultFirstUptoCard
end Rows
end Go.Proofs.YtiflhpcbnnnddaaDoor
