/-
  DERIVED. GIVEN WITH THE SEED: THE CARDS: each row of YtajpmmjpkpgoeaaDoorRows.lean that lists a variable, with what it lists TIED to the program's text (the seventh form; the later family's looks); each row that meets fmt, with fmt's text TOLD by the authors' own Lean function (tested against real Go, not proved from fmt's source: count such statements apart). THE CARD IS WHAT COUNTS. Prove the row's statement (the work); the ties are given (YtajpmmjpkpgoeaaDoorTie.lean); close each card by the builder's one call (the guide's Derived/Test/ToyasCard.lean, 'card_holds'). Laid BY PROGRAM, IN A SANDBOX (cutbox-door.mjs). By AI agents, Wed Nov 11 2026. No macro, syntax, notation, axiom, sorry.
-/
import Derived.Test.YtajpmmjpkpgoeaaDoorRows
import GoSem.ClaimSeven
namespace Go.Proofs.YtajpmmjpkpgoeaaDoor
namespace Rows

/-- THE TIED CARD OF 'countwheellaw13.WindowRight'. -/
def windowRightCard : Claim7 := { stood := { row := windowRightRow, standIns := [], harness := (true, "c221a8a375bc8929add83b2c3151084837fa08dad3e141fc95b573d341953eb1"), looks := true }, kinds := [], alts := [], laidByText := true, laidKinds := [.handle], laidTests := true, laidLooks := .later }
def WindowRightCardSaid : Prop := Claim7.holds Tryd.pinned (.plain (OpenSpec.ofChange windowRightSpec)) windowRightCard

/-- THE SECOND FORM's CARD OF 'countwheellaw13.WindowRight'. -/
def windowRightUptoCard : Claim7 := { stood := { row := windowRightUptoRow, standIns := [], harness := (true, "c221a8a375bc8929add83b2c3151084837fa08dad3e141fc95b573d341953eb1"), looks := true }, kinds := [], alts := [], laidByText := true, laidKinds := [.handle], laidTests := true, laidLooks := .later }
def WindowRightUptoCardSaid : Prop := Claim7.holds Tryd.pinned (.plain (OpenSpec.upto windowRightSpec)) windowRightUptoCard
end Rows
end Go.Proofs.YtajpmmjpkpgoeaaDoor
