/-
  DERIVED. GIVEN WITH THE SEED: THE CARDS: each row of YtdgngpcfikgoeaaDoorRows.lean that lists a variable, with what it lists TIED to the program's text (the seventh form; the later family's looks); each row that meets fmt, with fmt's text TOLD by the authors' own Lean function (tested against real Go, not proved from fmt's source: count such statements apart). THE CARD IS WHAT COUNTS. Prove the row's statement (the work); the ties are given (YtdgngpcfikgoeaaDoorTie.lean); close each card by the builder's one call (the guide's Derived/Test/ToyasCard.lean, 'card_holds'). Laid BY PROGRAM, IN A SANDBOX (cutbox-door.mjs). By AI agents, Wed Nov 11 2026. No macro, syntax, notation, axiom, sorry.
-/
import Derived.Test.YtdgngpcfikgoeaaDoorRows
import GoSem.ClaimSeven
namespace Go.Proofs.YtdgngpcfikgoeaaDoor
namespace Rows

/-- THE TIED CARD OF 'trefoillaw06.TapeOnce'. -/
def tapeOnceCard : Claim7 := { stood := { row := tapeOnceRow, standIns := [], harness := (true, "c85cb83a421d573f285dc7b7826ff9d2a046fffab270046d92cc6feb6a63c240"), looks := true }, kinds := [], alts := [], laidByText := true, laidKinds := [.handle], laidTests := true, laidLooks := .later }
def TapeOnceCardSaid : Prop := Claim7.holds Tryd.pinned (.plain (OpenSpec.ofChange tapeOnceSpec)) tapeOnceCard

/-- THE TIED CARD OF 'trefoillaw06.TapeApart'. -/
def tapeApartCard : Claim7 := { stood := { row := tapeApartRow, standIns := [], harness := (true, "c85cb83a421d573f285dc7b7826ff9d2a046fffab270046d92cc6feb6a63c240"), looks := true }, kinds := [], alts := [], laidByText := true, laidKinds := [.handle], laidTests := true, laidLooks := .later }
def TapeApartCardSaid : Prop := Claim7.holds Tryd.pinned (.plain (OpenSpec.ofChange tapeApartSpec)) tapeApartCard

/-- THE TIED CARD OF 'trefoillaw06.TapePlays'. -/
def tapePlaysCard : Claim7 := { stood := { row := tapePlaysRow, standIns := [], harness := (true, "c85cb83a421d573f285dc7b7826ff9d2a046fffab270046d92cc6feb6a63c240"), looks := true }, kinds := [], alts := [], laidByText := true, laidKinds := [.handle], laidTests := true, laidLooks := .later }
def TapePlaysCardSaid : Prop := Claim7.holds Tryd.pinned (.plain (OpenSpec.ofChange tapePlaysSpec)) tapePlaysCard

/-- THE TIED CARD OF 'trefoillaw06.TapeBlind'. -/
def tapeBlindCard : Claim7 := { stood := { row := tapeBlindRow, standIns := [], harness := (true, "c85cb83a421d573f285dc7b7826ff9d2a046fffab270046d92cc6feb6a63c240"), looks := true }, kinds := [], alts := [], laidByText := true, laidKinds := [.handle], laidTests := true, laidLooks := .later }
def TapeBlindCardSaid : Prop := Claim7.holds Tryd.pinned (.plain (OpenSpec.ofChange tapeBlindSpec)) tapeBlindCard

/-- THE TIED CARD OF 'trefoillaw25.DabitDraws'. -/
def dabitDrawsCard : Claim7 := { stood := { row := dabitDrawsRow, standIns := [], harness := (true, "c85cb83a421d573f285dc7b7826ff9d2a046fffab270046d92cc6feb6a63c240"), looks := true }, kinds := [], alts := [], laidByText := true, laidKinds := [.handle], laidTests := true, laidLooks := .later }
def DabitDrawsCardSaid : Prop := Claim7.holds Tryd.pinned (.plain (OpenSpec.ofChange dabitDrawsSpec)) dabitDrawsCard

/-- THE TIED CARD OF 'trefoillaw22.ScalarDraws'. -/
def scalarDrawsCard : Claim7 := { stood := { row := scalarDrawsRow, standIns := [], harness := (true, "c85cb83a421d573f285dc7b7826ff9d2a046fffab270046d92cc6feb6a63c240"), looks := true }, kinds := [], alts := [], laidByText := true, laidKinds := [.handle], laidTests := true, laidLooks := .later }
def ScalarDrawsCardSaid : Prop := Claim7.holds Tryd.pinned (.plain (OpenSpec.ofChange scalarDrawsSpec)) scalarDrawsCard

/-- THE TIED CARD OF 'trefoillaw23.MatrixDraws'. -/
def matrixDrawsCard : Claim7 := { stood := { row := matrixDrawsRow, standIns := [], harness := (true, "c85cb83a421d573f285dc7b7826ff9d2a046fffab270046d92cc6feb6a63c240"), looks := true }, kinds := [], alts := [], laidByText := true, laidKinds := [.handle], laidTests := true, laidLooks := .later }
def MatrixDrawsCardSaid : Prop := Claim7.holds Tryd.pinned (.plain (OpenSpec.ofChange matrixDrawsSpec)) matrixDrawsCard

/-- THE SECOND FORM's CARD OF 'trefoillaw06.TapeOnce'. -/
def tapeOnceUptoCard : Claim7 := { stood := { row := tapeOnceUptoRow, standIns := [], harness := (true, "c85cb83a421d573f285dc7b7826ff9d2a046fffab270046d92cc6feb6a63c240"), looks := true }, kinds := [], alts := [], laidByText := true, laidKinds := [.handle], laidTests := true, laidLooks := .later }
def TapeOnceUptoCardSaid : Prop := Claim7.holds Tryd.pinned (.plain (OpenSpec.upto tapeOnceSpec)) tapeOnceUptoCard

/-- THE SECOND FORM's CARD OF 'trefoillaw06.TapeApart'. -/
def tapeApartUptoCard : Claim7 := { stood := { row := tapeApartUptoRow, standIns := [], harness := (true, "c85cb83a421d573f285dc7b7826ff9d2a046fffab270046d92cc6feb6a63c240"), looks := true }, kinds := [], alts := [], laidByText := true, laidKinds := [.handle], laidTests := true, laidLooks := .later }
def TapeApartUptoCardSaid : Prop := Claim7.holds Tryd.pinned (.plain (OpenSpec.upto tapeApartSpec)) tapeApartUptoCard

/-- THE SECOND FORM's CARD OF 'trefoillaw06.TapePlays'. -/
def tapePlaysUptoCard : Claim7 := { stood := { row := tapePlaysUptoRow, standIns := [], harness := (true, "c85cb83a421d573f285dc7b7826ff9d2a046fffab270046d92cc6feb6a63c240"), looks := true }, kinds := [], alts := [], laidByText := true, laidKinds := [.handle], laidTests := true, laidLooks := .later }
def TapePlaysUptoCardSaid : Prop := Claim7.holds Tryd.pinned (.plain (OpenSpec.upto tapePlaysSpec)) tapePlaysUptoCard

/-- THE SECOND FORM's CARD OF 'trefoillaw06.TapeBlind'. -/
def tapeBlindUptoCard : Claim7 := { stood := { row := tapeBlindUptoRow, standIns := [], harness := (true, "c85cb83a421d573f285dc7b7826ff9d2a046fffab270046d92cc6feb6a63c240"), looks := true }, kinds := [], alts := [], laidByText := true, laidKinds := [.handle], laidTests := true, laidLooks := .later }
def TapeBlindUptoCardSaid : Prop := Claim7.holds Tryd.pinned (.plain (OpenSpec.upto tapeBlindSpec)) tapeBlindUptoCard

/-- THE SECOND FORM's CARD OF 'trefoillaw25.DabitDraws'. -/
def dabitDrawsUptoCard : Claim7 := { stood := { row := dabitDrawsUptoRow, standIns := [], harness := (true, "c85cb83a421d573f285dc7b7826ff9d2a046fffab270046d92cc6feb6a63c240"), looks := true }, kinds := [], alts := [], laidByText := true, laidKinds := [.handle], laidTests := true, laidLooks := .later }
def DabitDrawsUptoCardSaid : Prop := Claim7.holds Tryd.pinned (.plain (OpenSpec.upto dabitDrawsSpec)) dabitDrawsUptoCard

/-- THE SECOND FORM's CARD OF 'trefoillaw22.ScalarDraws'. -/
def scalarDrawsUptoCard : Claim7 := { stood := { row := scalarDrawsUptoRow, standIns := [], harness := (true, "c85cb83a421d573f285dc7b7826ff9d2a046fffab270046d92cc6feb6a63c240"), looks := true }, kinds := [], alts := [], laidByText := true, laidKinds := [.handle], laidTests := true, laidLooks := .later }
def ScalarDrawsUptoCardSaid : Prop := Claim7.holds Tryd.pinned (.plain (OpenSpec.upto scalarDrawsSpec)) scalarDrawsUptoCard

/-- THE SECOND FORM's CARD OF 'trefoillaw23.MatrixDraws'. -/
def matrixDrawsUptoCard : Claim7 := { stood := { row := matrixDrawsUptoRow, standIns := [], harness := (true, "c85cb83a421d573f285dc7b7826ff9d2a046fffab270046d92cc6feb6a63c240"), looks := true }, kinds := [], alts := [], laidByText := true, laidKinds := [.handle], laidTests := true, laidLooks := .later }
def MatrixDrawsUptoCardSaid : Prop := Claim7.holds Tryd.pinned (.plain (OpenSpec.upto matrixDrawsSpec)) matrixDrawsUptoCard
end Rows
end Go.Proofs.YtdgngpcfikgoeaaDoor
