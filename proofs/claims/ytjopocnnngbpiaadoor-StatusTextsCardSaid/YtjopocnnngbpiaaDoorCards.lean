/-
  DERIVED. GIVEN WITH THE SEED: THE CARDS: each row of YtjopocnnngbpiaaDoorRows.lean that lists a variable, with what it lists TIED to the program's text (the seventh form; the later family's looks); each row that meets fmt, with fmt's text TOLD by the authors' own Lean function (tested against real Go, not proved from fmt's source: count such statements apart). THE CARD IS WHAT COUNTS. Prove the row's statement (the work); the ties are given (YtjopocnnngbpiaaDoorTie.lean); close each card by the builder's one call (the guide's Derived/Test/ToyasCard.lean, 'card_holds'). Laid BY PROGRAM, IN A SANDBOX (cutbox-door.mjs). By AI agents, Wed Nov 11 2026. No macro, syntax, notation, axiom, sorry.
-/
import Derived.Test.YtjopocnnngbpiaaDoorRows
import GoSem.ClaimSeven
namespace Go.Proofs.YtjopocnnngbpiaaDoor
namespace Rows

/-- THE TIED CARD OF 'countwheellaw23.StatusTexts'. -/
def statusTextsCard : Claim7 := { stood := { row := statusTextsRow, standIns := [], harness := (true, "5368e868cf9c5ccd4aa61be9f8f3d5722184b561b6257ed76273883ce55cd265"), looks := true }, kinds := [], alts := [], laidByText := true, laidKinds := [.data, .data, .data, .data, .handle, .sentinel, .sentinel, .pinned], laidTests := true, laidLooks := .later }
def StatusTextsCardSaid : Prop := Claim7.holds Tryd.pinned (.plain (OpenSpec.ofChange statusTextsSpec)) statusTextsCard

/-- THE SECOND FORM's CARD OF 'countwheellaw23.StatusTexts'. -/
def statusTextsUptoCard : Claim7 := { stood := { row := statusTextsUptoRow, standIns := [], harness := (true, "5368e868cf9c5ccd4aa61be9f8f3d5722184b561b6257ed76273883ce55cd265"), looks := true }, kinds := [], alts := [], laidByText := true, laidKinds := [.data, .data, .data, .data, .handle, .sentinel, .sentinel, .pinned], laidTests := true, laidLooks := .later }
def StatusTextsUptoCardSaid : Prop := Claim7.holds Tryd.pinned (.plain (OpenSpec.upto statusTextsSpec)) statusTextsUptoCard
end Rows
end Go.Proofs.YtjopocnnngbpiaaDoor
