/-
  DERIVED. GIVEN WITH THE SEED: THE CARDS: each row of YtefglipcipjplaaGreatDoorRows.lean that lists a variable, with what it lists TIED to the program's text (the seventh form; the later family's looks); each row that meets fmt, with fmt's text TOLD by the authors' own Lean function (tested against real Go, not proved from fmt's source: count such statements apart). THE CARD IS WHAT COUNTS. Prove the row's statement (the work); the ties are given (YtefglipcipjplaaGreatDoorTie.lean); close each card by the builder's one call (the guide's Derived/Test/ToyasCard.lean, 'card_holds'). Laid BY PROGRAM, IN A SANDBOX (cutbox-door.mjs). By AI agents, Wed Nov 11 2026. No macro, syntax, notation, axiom, sorry.
-/
import Derived.Test.YtefglipcipjplaaGreatDoorRows
import GoSem.ClaimSeven
namespace Go.Proofs.YtefglipcipjplaaGreatDoor
namespace Rows

/-- THE TIED CARD OF 'quicksilverlaw07.FormulaCompiled'. -/
def formulaCompiledCard : Claim7 := { stood := { row := formulaCompiledRow, standIns := [], harness := (true, "67181fcc369570206f155f81ef9f755ebd9172da9984d4e63262dff72dceda96"), looks := true }, kinds := [], alts := [], laidByText := true, laidKinds := [.data, .data, .data, .sentinel, .sentinel], laidTests := true, laidLooks := .later }
def FormulaCompiledCardSaid : Prop := Claim7.holds Tryz.pinned (.plain (OpenSpec.ofChange formulaCompiledSpec)) formulaCompiledCard

/-- THE SECOND FORM's CARD OF 'quicksilverlaw07.FormulaCompiled'. -/
def formulaCompiledUptoCard : Claim7 := { stood := { row := formulaCompiledUptoRow, standIns := [], harness := (true, "67181fcc369570206f155f81ef9f755ebd9172da9984d4e63262dff72dceda96"), looks := true }, kinds := [], alts := [], laidByText := true, laidKinds := [.data, .data, .data, .sentinel, .sentinel], laidTests := true, laidLooks := .later }
def FormulaCompiledUptoCardSaid : Prop := Claim7.holds Tryz.pinned (.plain (OpenSpec.upto formulaCompiledSpec)) formulaCompiledUptoCard
end Rows
end Go.Proofs.YtefglipcipjplaaGreatDoor
