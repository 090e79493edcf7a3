/-
  DERIVED. GIVEN WITH THE SEED: THE CARDS: each row of YtgnhjhdmfhfilaaDoorRows.lean that lists a variable, with what it lists TIED to the program's text (the seventh form; the later family's looks); each row that meets fmt, with fmt's text TOLD by the authors' own Lean function (tested against real Go, not proved from fmt's source: count such statements apart). THE CARD IS WHAT COUNTS. Prove the row's statement (the work); the ties are given (YtgnhjhdmfhfilaaDoorTie.lean); close each card by the builder's one call (the guide's Derived/Test/ToyasCard.lean, 'card_holds'). Laid BY PROGRAM, IN A SANDBOX (cutbox-door.mjs). By AI agents, Wed Nov 11 2026. No macro, syntax, notation, axiom, sorry.
-/
import Derived.Test.YtgnhjhdmfhfilaaDoorRows
import GoSem.ClaimSeven
namespace Go.Proofs.YtgnhjhdmfhfilaaDoor
namespace Rows

/-- THE TIED CARD OF 'countwheellaw06.NameMakes'. -/
def nameMakesCard : Claim7 := { stood := { row := nameMakesRow, standIns := [], harness := (true, "6084c0bf053e020df316ac8be3458ac86eb15ee9923132a23319591d67b1e91c"), looks := true }, kinds := [], alts := [], laidByText := true, laidKinds := [.data, .data, .data], laidTests := true, laidLooks := .later }
def NameMakesCardSaid : Prop := Claim7.holds Tryd.pinned (.plain (OpenSpec.ofChange nameMakesSpec)) nameMakesCard

/-- THE TIED CARD OF 'countwheellaw13.WindowRight'. -/
def windowRightCard : Claim7 := { stood := { row := windowRightRow, standIns := [], harness := (true, "6084c0bf053e020df316ac8be3458ac86eb15ee9923132a23319591d67b1e91c"), looks := true }, kinds := [], alts := [], laidByText := true, laidKinds := [.handle], laidTests := true, laidLooks := .later }
def WindowRightCardSaid : Prop := Claim7.holds Tryd.pinned (.plain (OpenSpec.ofChange windowRightSpec)) windowRightCard

/-- THE TIED CARD OF 'countwheellaw23.StatusGets'. -/
def statusGetsCard : Claim7 := { stood := { row := statusGetsRow, standIns := [], harness := (true, "6084c0bf053e020df316ac8be3458ac86eb15ee9923132a23319591d67b1e91c"), looks := true }, kinds := [], alts := [], laidByText := true, laidKinds := [.data, .data, .data, .handle], laidTests := true, laidLooks := .later }
def StatusGetsCardSaid : Prop := Claim7.holds Tryd.pinned (.plain (OpenSpec.ofChange statusGetsSpec)) statusGetsCard

/-- THE TIED CARD OF 'countwheellaw23.StatusPuts'. -/
def statusPutsCard : Claim7 := { stood := { row := statusPutsRow, standIns := [], harness := (true, "6084c0bf053e020df316ac8be3458ac86eb15ee9923132a23319591d67b1e91c"), looks := true }, kinds := [], alts := [], laidByText := true, laidKinds := [.data, .data, .data, .handle], laidTests := true, laidLooks := .later }
def StatusPutsCardSaid : Prop := Claim7.holds Tryd.pinned (.plain (OpenSpec.ofChange statusPutsSpec)) statusPutsCard

/-- THE TIED CARD OF 'countwheellaw13.WindowSorts'. -/
def windowSortsCard : Claim7 := { stood := { row := windowSortsRow, standIns := [], harness := (true, "6084c0bf053e020df316ac8be3458ac86eb15ee9923132a23319591d67b1e91c"), looks := true }, kinds := [], alts := [], laidByText := true, laidKinds := [.handle], laidTests := true, laidLooks := .later }
def WindowSortsCardSaid : Prop := Claim7.holds Tryd.pinned (.plain (OpenSpec.ofChange windowSortsSpec)) windowSortsCard

/-- THE TIED CARD OF 'countwheellaw10.PairsPuts'. -/
def pairsPutsCard : Claim7 := { stood := { row := pairsPutsRow, standIns := [], harness := (true, "6084c0bf053e020df316ac8be3458ac86eb15ee9923132a23319591d67b1e91c"), looks := true }, kinds := [], alts := [], laidByText := true, laidKinds := [.handle], laidTests := true, laidLooks := .later }
def PairsPutsCardSaid : Prop := Claim7.holds Tryd.pinned (.plain (OpenSpec.ofChange pairsPutsSpec)) pairsPutsCard

/-- THE TIED CARD OF 'countwheellaw10.PairsReads'. -/
def pairsReadsCard : Claim7 := { stood := { row := pairsReadsRow, standIns := [], harness := (true, "6084c0bf053e020df316ac8be3458ac86eb15ee9923132a23319591d67b1e91c"), looks := true }, kinds := [], alts := [], laidByText := true, laidKinds := [.handle], laidTests := true, laidLooks := .later }
def PairsReadsCardSaid : Prop := Claim7.holds Tryd.pinned (.plain (OpenSpec.ofChange pairsReadsSpec)) pairsReadsCard

/-- THE SECOND FORM's CARD OF 'countwheellaw06.NameMakes'. -/
def nameMakesUptoCard : Claim7 := { stood := { row := nameMakesUptoRow, standIns := [], harness := (true, "6084c0bf053e020df316ac8be3458ac86eb15ee9923132a23319591d67b1e91c"), looks := true }, kinds := [], alts := [], laidByText := true, laidKinds := [.data, .data, .data], laidTests := true, laidLooks := .later }
def NameMakesUptoCardSaid : Prop := Claim7.holds Tryd.pinned (.plain (OpenSpec.upto nameMakesSpec)) nameMakesUptoCard

/-- THE SECOND FORM's CARD OF 'countwheellaw13.WindowRight'. -/
def windowRightUptoCard : Claim7 := { stood := { row := windowRightUptoRow, standIns := [], harness := (true, "6084c0bf053e020df316ac8be3458ac86eb15ee9923132a23319591d67b1e91c"), looks := true }, kinds := [], alts := [], laidByText := true, laidKinds := [.handle], laidTests := true, laidLooks := .later }
def WindowRightUptoCardSaid : Prop := Claim7.holds Tryd.pinned (.plain (OpenSpec.upto windowRightSpec)) windowRightUptoCard

/-- THE SECOND FORM's CARD OF 'countwheellaw23.StatusGets'. -/
def statusGetsUptoCard : Claim7 := { stood := { row := statusGetsUptoRow, standIns := [], harness := (true, "6084c0bf053e020df316ac8be3458ac86eb15ee9923132a23319591d67b1e91c"), looks := true }, kinds := [], alts := [], laidByText := true, laidKinds := [.data, .data, .data, .handle], laidTests := true, laidLooks := .later }
def StatusGetsUptoCardSaid : Prop := Claim7.holds Tryd.pinned (.plain (OpenSpec.upto statusGetsSpec)) statusGetsUptoCard

/-- THE SECOND FORM's CARD OF 'countwheellaw23.StatusPuts'. -/
def statusPutsUptoCard : Claim7 := { stood := { row := statusPutsUptoRow, standIns := [], harness := (true, "6084c0bf053e020df316ac8be3458ac86eb15ee9923132a23319591d67b1e91c"), looks := true }, kinds := [], alts := [], laidByText := true, laidKinds := [.data, .data, .data, .handle], laidTests := true, laidLooks := .later }
def StatusPutsUptoCardSaid : Prop := Claim7.holds Tryd.pinned (.plain (OpenSpec.upto statusPutsSpec)) statusPutsUptoCard

/-- THE SECOND FORM's CARD OF 'countwheellaw13.WindowSorts'. -/
def windowSortsUptoCard : Claim7 := { stood := { row := windowSortsUptoRow, standIns := [], harness := (true, "6084c0bf053e020df316ac8be3458ac86eb15ee9923132a23319591d67b1e91c"), looks := true }, kinds := [], alts := [], laidByText := true, laidKinds := [.handle], laidTests := true, laidLooks := .later }
def WindowSortsUptoCardSaid : Prop := Claim7.holds Tryd.pinned (.plain (OpenSpec.upto windowSortsSpec)) windowSortsUptoCard

/-- THE SECOND FORM's CARD OF 'countwheellaw10.PairsPuts'. -/
def pairsPutsUptoCard : Claim7 := { stood := { row := pairsPutsUptoRow, standIns := [], harness := (true, "6084c0bf053e020df316ac8be3458ac86eb15ee9923132a23319591d67b1e91c"), looks := true }, kinds := [], alts := [], laidByText := true, laidKinds := [.handle], laidTests := true, laidLooks := .later }
def PairsPutsUptoCardSaid : Prop := Claim7.holds Tryd.pinned (.plain (OpenSpec.upto pairsPutsSpec)) pairsPutsUptoCard

/-- THE SECOND FORM's CARD OF 'countwheellaw10.PairsReads'. -/
def pairsReadsUptoCard : Claim7 := { stood := { row := pairsReadsUptoRow, standIns := [], harness := (true, "6084c0bf053e020df316ac8be3458ac86eb15ee9923132a23319591d67b1e91c"), looks := true }, kinds := [], alts := [], laidByText := true, laidKinds := [.handle], laidTests := true, laidLooks := .later }
def PairsReadsUptoCardSaid : Prop := Claim7.holds Tryd.pinned (.plain (OpenSpec.upto pairsReadsSpec)) pairsReadsUptoCard
end Rows
end Go.Proofs.YtgnhjhdmfhfilaaDoor
