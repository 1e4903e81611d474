/-
  DERIVED. GIVEN WITH THE SEED: THE CARDS: each row of YtmceekhgnfpamaaGreatDoorRows.lean that lists a variable, with what it lists TIED to the program's text (the seventh form; the later family's looks); each row that meets fmt, with fmt's text TOLD by the authors' own Lean function (tested against real Go, not proved from fmt's source: count such statements apart). THE CARD IS WHAT COUNTS. Prove the row's statement (the work); the ties are given (YtmceekhgnfpamaaGreatDoorTie.lean); close each card by the builder's one call (the guide's Derived/Test/ToyasCard.lean, 'card_holds'). Laid BY PROGRAM, IN A SANDBOX (cutbox-door.mjs). By AI agents, Wed Nov 11 2026. No macro, syntax, notation, axiom, sorry.
-/
import Derived.Test.YtmceekhgnfpamaaGreatDoorRows
import GoSem.ClaimSeven
namespace Go.Proofs.YtmceekhgnfpamaaGreatDoor
namespace Rows

/-- THE TIED CARD OF 'quicksilverlaw07.FormulaTexts'. -/
def formulaTextsCard : Claim7 := { stood := { row := formulaTextsRow, standIns := [], harness := (true, "bd7c79de187c70882420d0dee77efcb7839066c18abd00e175ce0748351adc51"), looks := true }, kinds := [], alts := [], laidByText := true, laidKinds := [.data, .data, .data, .sentinel, .sentinel], laidTests := true, laidLooks := .later }
def FormulaTextsCardSaid : Prop := Claim7.holds Tryz.pinned (.plain (OpenSpec.ofChange formulaTextsSpec)) formulaTextsCard

/-- THE TIED CARD OF 'quicksilverlaw07.FormulaEvals'. -/
def formulaEvalsCard : Claim7 := { stood := { row := formulaEvalsRow, standIns := [], harness := (true, "bd7c79de187c70882420d0dee77efcb7839066c18abd00e175ce0748351adc51"), looks := true }, kinds := [], alts := [], laidByText := true, laidKinds := [.data, .data, .data, .sentinel, .sentinel], laidTests := true, laidLooks := .later }
def FormulaEvalsCardSaid : Prop := Claim7.holds Tryz.pinned (.plain (OpenSpec.ofChange formulaEvalsSpec)) formulaEvalsCard

/-- THE TIED CARD OF 'quicksilverlaw07.FormulaCompiles'. -/
def formulaCompilesCard : Claim7 := { stood := { row := formulaCompilesRow, standIns := [], harness := (true, "bd7c79de187c70882420d0dee77efcb7839066c18abd00e175ce0748351adc51"), looks := true }, kinds := [], alts := [], laidByText := true, laidKinds := [.data, .data, .data, .sentinel, .sentinel], laidTests := true, laidLooks := .later }
def FormulaCompilesCardSaid : Prop := Claim7.holds Tryz.pinned (.plain (OpenSpec.ofChange formulaCompilesSpec)) formulaCompilesCard

/-- THE TIED CARD OF 'quicksilverlaw07.FormulaCalcs'. -/
def formulaCalcsCard : Claim7 := { stood := { row := formulaCalcsRow, standIns := [], harness := (true, "bd7c79de187c70882420d0dee77efcb7839066c18abd00e175ce0748351adc51"), looks := true }, kinds := [], alts := [], laidByText := true, laidKinds := [.data, .data, .data, .sentinel, .sentinel], laidTests := true, laidLooks := .later }
def FormulaCalcsCardSaid : Prop := Claim7.holds Tryz.pinned (.plain (OpenSpec.ofChange formulaCalcsSpec)) formulaCalcsCard

/-- THE TIED CARD OF 'quicksilverlaw07.FormulaKnown'. -/
def formulaKnownCard : Claim7 := { stood := { row := formulaKnownRow, standIns := [], harness := (true, "bd7c79de187c70882420d0dee77efcb7839066c18abd00e175ce0748351adc51"), looks := true }, kinds := [], alts := [], laidByText := true, laidKinds := [.data, .data, .data, .sentinel, .sentinel], laidTests := true, laidLooks := .later }
def FormulaKnownCardSaid : Prop := Claim7.holds Tryz.pinned (.plain (OpenSpec.ofChange formulaKnownSpec)) formulaKnownCard

/-- THE TIED CARD OF 'quicksilverlaw07.FormulaBack'. -/
def formulaBackCard : Claim7 := { stood := { row := formulaBackRow, standIns := [], harness := (true, "bd7c79de187c70882420d0dee77efcb7839066c18abd00e175ce0748351adc51"), looks := true }, kinds := [], alts := [], laidByText := true, laidKinds := [.data, .data, .data, .sentinel, .sentinel], laidTests := true, laidLooks := .later }
def FormulaBackCardSaid : Prop := Claim7.holds Tryz.pinned (.plain (OpenSpec.ofChange formulaBackSpec)) formulaBackCard

/-- THE TIED CARD OF 'quicksilverlaw07.FormulaWithin'. -/
def formulaWithinCard : Claim7 := { stood := { row := formulaWithinRow, standIns := [], harness := (true, "bd7c79de187c70882420d0dee77efcb7839066c18abd00e175ce0748351adc51"), looks := true }, kinds := [], alts := [], laidByText := true, laidKinds := [.data, .data, .data, .sentinel, .sentinel], laidTests := true, laidLooks := .later }
def FormulaWithinCardSaid : Prop := Claim7.holds Tryz.pinned (.plain (OpenSpec.ofChange formulaWithinSpec)) formulaWithinCard

/-- THE TIED CARD OF 'quicksilverlaw07.FormulaWider'. -/
def formulaWiderCard : Claim7 := { stood := { row := formulaWiderRow, standIns := [], harness := (true, "bd7c79de187c70882420d0dee77efcb7839066c18abd00e175ce0748351adc51"), looks := true }, kinds := [], alts := [], laidByText := true, laidKinds := [.data, .data, .data, .sentinel, .sentinel], laidTests := true, laidLooks := .later }
def FormulaWiderCardSaid : Prop := Claim7.holds Tryz.pinned (.plain (OpenSpec.ofChange formulaWiderSpec)) formulaWiderCard

/-- THE TIED CARD OF 'quicksilverlaw07.FormulaFloats'. -/
def formulaFloatsCard : Claim7 := { stood := { row := formulaFloatsRow, standIns := [], harness := (true, "bd7c79de187c70882420d0dee77efcb7839066c18abd00e175ce0748351adc51"), looks := true }, kinds := [], alts := [], laidByText := true, laidKinds := [.data, .data, .data, .sentinel, .sentinel], laidTests := true, laidLooks := .later }
def FormulaFloatsCardSaid : Prop := Claim7.holds Tryz.pinned (.plain (OpenSpec.ofChange formulaFloatsSpec)) formulaFloatsCard

/-- THE TIED CARD OF 'quicksilverlaw07.FormulaSums'. -/
def formulaSumsCard : Claim7 := { stood := { row := formulaSumsRow, standIns := [], harness := (true, "bd7c79de187c70882420d0dee77efcb7839066c18abd00e175ce0748351adc51"), looks := true }, kinds := [], alts := [], laidByText := true, laidKinds := [.data, .data, .data, .sentinel, .sentinel], laidTests := true, laidLooks := .later }
def FormulaSumsCardSaid : Prop := Claim7.holds Tryz.pinned (.plain (OpenSpec.ofChange formulaSumsSpec)) formulaSumsCard

/-- THE TIED CARD OF 'quicksilverlaw07.FormulaLaws'. -/
def formulaLawsCard : Claim7 := { stood := { row := formulaLawsRow, standIns := [], harness := (true, "bd7c79de187c70882420d0dee77efcb7839066c18abd00e175ce0748351adc51"), looks := true }, kinds := [], alts := [], laidByText := true, laidKinds := [.data, .data, .data, .sentinel, .sentinel], laidTests := true, laidLooks := .later }
def FormulaLawsCardSaid : Prop := Claim7.holds Tryz.pinned (.plain (OpenSpec.ofChange formulaLawsSpec)) formulaLawsCard

/-- THE TIED CARD OF 'quicksilverlaw07.FormulaCut'. -/
def formulaCutCard : Claim7 := { stood := { row := formulaCutRow, standIns := [], harness := (true, "bd7c79de187c70882420d0dee77efcb7839066c18abd00e175ce0748351adc51"), looks := true }, kinds := [], alts := [], laidByText := true, laidKinds := [.data, .data, .data, .sentinel, .sentinel], laidTests := true, laidLooks := .later }
def FormulaCutCardSaid : Prop := Claim7.holds Tryz.pinned (.plain (OpenSpec.ofChange formulaCutSpec)) formulaCutCard

/-- THE SECOND FORM's CARD OF 'quicksilverlaw07.FormulaTexts'. -/
def formulaTextsUptoCard : Claim7 := { stood := { row := formulaTextsUptoRow, standIns := [], harness := (true, "bd7c79de187c70882420d0dee77efcb7839066c18abd00e175ce0748351adc51"), looks := true }, kinds := [], alts := [], laidByText := true, laidKinds := [.data, .data, .data, .sentinel, .sentinel], laidTests := true, laidLooks := .later }
def FormulaTextsUptoCardSaid : Prop := Claim7.holds Tryz.pinned (.plain (OpenSpec.upto formulaTextsSpec)) formulaTextsUptoCard

/-- THE SECOND FORM's CARD OF 'quicksilverlaw07.FormulaEvals'. -/
def formulaEvalsUptoCard : Claim7 := { stood := { row := formulaEvalsUptoRow, standIns := [], harness := (true, "bd7c79de187c70882420d0dee77efcb7839066c18abd00e175ce0748351adc51"), looks := true }, kinds := [], alts := [], laidByText := true, laidKinds := [.data, .data, .data, .sentinel, .sentinel], laidTests := true, laidLooks := .later }
def FormulaEvalsUptoCardSaid : Prop := Claim7.holds Tryz.pinned (.plain (OpenSpec.upto formulaEvalsSpec)) formulaEvalsUptoCard

/-- THE SECOND FORM's CARD OF 'quicksilverlaw07.FormulaCompiles'. -/
def formulaCompilesUptoCard : Claim7 := { stood := { row := formulaCompilesUptoRow, standIns := [], harness := (true, "bd7c79de187c70882420d0dee77efcb7839066c18abd00e175ce0748351adc51"), looks := true }, kinds := [], alts := [], laidByText := true, laidKinds := [.data, .data, .data, .sentinel, .sentinel], laidTests := true, laidLooks := .later }
def FormulaCompilesUptoCardSaid : Prop := Claim7.holds Tryz.pinned (.plain (OpenSpec.upto formulaCompilesSpec)) formulaCompilesUptoCard

/-- THE SECOND FORM's CARD OF 'quicksilverlaw07.FormulaCalcs'. -/
def formulaCalcsUptoCard : Claim7 := { stood := { row := formulaCalcsUptoRow, standIns := [], harness := (true, "bd7c79de187c70882420d0dee77efcb7839066c18abd00e175ce0748351adc51"), looks := true }, kinds := [], alts := [], laidByText := true, laidKinds := [.data, .data, .data, .sentinel, .sentinel], laidTests := true, laidLooks := .later }
def FormulaCalcsUptoCardSaid : Prop := Claim7.holds Tryz.pinned (.plain (OpenSpec.upto formulaCalcsSpec)) formulaCalcsUptoCard

/-- THE SECOND FORM's CARD OF 'quicksilverlaw07.FormulaKnown'. -/
def formulaKnownUptoCard : Claim7 := { stood := { row := formulaKnownUptoRow, standIns := [], harness := (true, "bd7c79de187c70882420d0dee77efcb7839066c18abd00e175ce0748351adc51"), looks := true }, kinds := [], alts := [], laidByText := true, laidKinds := [.data, .data, .data, .sentinel, .sentinel], laidTests := true, laidLooks := .later }
def FormulaKnownUptoCardSaid : Prop := Claim7.holds Tryz.pinned (.plain (OpenSpec.upto formulaKnownSpec)) formulaKnownUptoCard

/-- THE SECOND FORM's CARD OF 'quicksilverlaw07.FormulaBack'. -/
def formulaBackUptoCard : Claim7 := { stood := { row := formulaBackUptoRow, standIns := [], harness := (true, "bd7c79de187c70882420d0dee77efcb7839066c18abd00e175ce0748351adc51"), looks := true }, kinds := [], alts := [], laidByText := true, laidKinds := [.data, .data, .data, .sentinel, .sentinel], laidTests := true, laidLooks := .later }
def FormulaBackUptoCardSaid : Prop := Claim7.holds Tryz.pinned (.plain (OpenSpec.upto formulaBackSpec)) formulaBackUptoCard

/-- THE SECOND FORM's CARD OF 'quicksilverlaw07.FormulaWithin'. -/
def formulaWithinUptoCard : Claim7 := { stood := { row := formulaWithinUptoRow, standIns := [], harness := (true, "bd7c79de187c70882420d0dee77efcb7839066c18abd00e175ce0748351adc51"), looks := true }, kinds := [], alts := [], laidByText := true, laidKinds := [.data, .data, .data, .sentinel, .sentinel], laidTests := true, laidLooks := .later }
def FormulaWithinUptoCardSaid : Prop := Claim7.holds Tryz.pinned (.plain (OpenSpec.upto formulaWithinSpec)) formulaWithinUptoCard

/-- THE SECOND FORM's CARD OF 'quicksilverlaw07.FormulaWider'. -/
def formulaWiderUptoCard : Claim7 := { stood := { row := formulaWiderUptoRow, standIns := [], harness := (true, "bd7c79de187c70882420d0dee77efcb7839066c18abd00e175ce0748351adc51"), looks := true }, kinds := [], alts := [], laidByText := true, laidKinds := [.data, .data, .data, .sentinel, .sentinel], laidTests := true, laidLooks := .later }
def FormulaWiderUptoCardSaid : Prop := Claim7.holds Tryz.pinned (.plain (OpenSpec.upto formulaWiderSpec)) formulaWiderUptoCard

/-- THE SECOND FORM's CARD OF 'quicksilverlaw07.FormulaFloats'. -/
def formulaFloatsUptoCard : Claim7 := { stood := { row := formulaFloatsUptoRow, standIns := [], harness := (true, "bd7c79de187c70882420d0dee77efcb7839066c18abd00e175ce0748351adc51"), looks := true }, kinds := [], alts := [], laidByText := true, laidKinds := [.data, .data, .data, .sentinel, .sentinel], laidTests := true, laidLooks := .later }
def FormulaFloatsUptoCardSaid : Prop := Claim7.holds Tryz.pinned (.plain (OpenSpec.upto formulaFloatsSpec)) formulaFloatsUptoCard

/-- THE SECOND FORM's CARD OF 'quicksilverlaw07.FormulaSums'. -/
def formulaSumsUptoCard : Claim7 := { stood := { row := formulaSumsUptoRow, standIns := [], harness := (true, "bd7c79de187c70882420d0dee77efcb7839066c18abd00e175ce0748351adc51"), looks := true }, kinds := [], alts := [], laidByText := true, laidKinds := [.data, .data, .data, .sentinel, .sentinel], laidTests := true, laidLooks := .later }
def FormulaSumsUptoCardSaid : Prop := Claim7.holds Tryz.pinned (.plain (OpenSpec.upto formulaSumsSpec)) formulaSumsUptoCard

/-- THE SECOND FORM's CARD OF 'quicksilverlaw07.FormulaLaws'. -/
def formulaLawsUptoCard : Claim7 := { stood := { row := formulaLawsUptoRow, standIns := [], harness := (true, "bd7c79de187c70882420d0dee77efcb7839066c18abd00e175ce0748351adc51"), looks := true }, kinds := [], alts := [], laidByText := true, laidKinds := [.data, .data, .data, .sentinel, .sentinel], laidTests := true, laidLooks := .later }
def FormulaLawsUptoCardSaid : Prop := Claim7.holds Tryz.pinned (.plain (OpenSpec.upto formulaLawsSpec)) formulaLawsUptoCard

/-- THE SECOND FORM's CARD OF 'quicksilverlaw07.FormulaCut'. -/
def formulaCutUptoCard : Claim7 := { stood := { row := formulaCutUptoRow, standIns := [], harness := (true, "bd7c79de187c70882420d0dee77efcb7839066c18abd00e175ce0748351adc51"), looks := true }, kinds := [], alts := [], laidByText := true, laidKinds := [.data, .data, .data, .sentinel, .sentinel], laidTests := true, laidLooks := .later }
def FormulaCutUptoCardSaid : Prop := Claim7.holds Tryz.pinned (.plain (OpenSpec.upto formulaCutSpec)) formulaCutUptoCard
end Rows
end Go.Proofs.YtmceekhgnfpamaaGreatDoor
