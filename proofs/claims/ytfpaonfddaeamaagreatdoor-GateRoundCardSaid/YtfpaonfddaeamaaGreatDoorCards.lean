/-
  DERIVED. GIVEN WITH THE SEED: THE CARDS: each row of YtfpaonfddaeamaaGreatDoorRows.lean that lists a variable, with what it lists TIED to the program's text (the seventh form; the later family's looks); each row that meets fmt, with fmt's text TOLD by the authors' own Lean function (tested against real Go, not proved from fmt's source: count such statements apart). THE CARD IS WHAT COUNTS. Prove the row's statement (the work); the ties are given (YtfpaonfddaeamaaGreatDoorTie.lean); close each card by the builder's one call (the guide's Derived/Test/ToyasCard.lean, 'card_holds'). Laid BY PROGRAM, IN A SANDBOX (cutbox-door.mjs). By AI agents, Wed Nov 11 2026. No macro, syntax, notation, axiom, sorry.
-/
import Derived.Test.YtfpaonfddaeamaaGreatDoorRows
import GoSem.ClaimSeven
namespace Go.Proofs.YtfpaonfddaeamaaGreatDoor
namespace Rows

/-- THE TIED CARD OF 'quicksilverlaw02.GateTexts'. -/
def gateTextsCard : Claim7 := { stood := { row := gateTextsRow, standIns := [], harness := (true, "46812e1b8a286423e248ba58f224afd7b861ee39081e4cbf8824259cbe4369af"), looks := true }, kinds := [], alts := [], laidByText := true, laidKinds := [.data, .data, .data, .data, .sentinel, .sentinel, .pinned], laidTests := true, laidLooks := .later }
def GateTextsCardSaid : Prop := Claim7.holds Tryz.pinned (.plain (OpenSpec.ofChange gateTextsSpec)) gateTextsCard

/-- THE TIED CARD OF 'quicksilverlaw02.GateRound'. -/
def gateRoundCard : Claim7 := { stood := { row := gateRoundRow, standIns := [], harness := (true, "46812e1b8a286423e248ba58f224afd7b861ee39081e4cbf8824259cbe4369af"), looks := true }, kinds := [], alts := [], laidByText := true, laidKinds := [.data, .data, .data, .data, .sentinel, .sentinel, .pinned], laidTests := true, laidLooks := .later }
def GateRoundCardSaid : Prop := Claim7.holds Tryz.pinned (.plain (OpenSpec.ofChange gateRoundSpec)) gateRoundCard

/-- THE SECOND FORM's CARD OF 'quicksilverlaw02.GateTexts'. -/
def gateTextsUptoCard : Claim7 := { stood := { row := gateTextsUptoRow, standIns := [], harness := (true, "46812e1b8a286423e248ba58f224afd7b861ee39081e4cbf8824259cbe4369af"), looks := true }, kinds := [], alts := [], laidByText := true, laidKinds := [.data, .data, .data, .data, .sentinel, .sentinel, .pinned], laidTests := true, laidLooks := .later }
def GateTextsUptoCardSaid : Prop := Claim7.holds Tryz.pinned (.plain (OpenSpec.upto gateTextsSpec)) gateTextsUptoCard

/-- THE SECOND FORM's CARD OF 'quicksilverlaw02.GateRound'. -/
def gateRoundUptoCard : Claim7 := { stood := { row := gateRoundUptoRow, standIns := [], harness := (true, "46812e1b8a286423e248ba58f224afd7b861ee39081e4cbf8824259cbe4369af"), looks := true }, kinds := [], alts := [], laidByText := true, laidKinds := [.data, .data, .data, .data, .sentinel, .sentinel, .pinned], laidTests := true, laidLooks := .later }
def GateRoundUptoCardSaid : Prop := Claim7.holds Tryz.pinned (.plain (OpenSpec.upto gateRoundSpec)) gateRoundUptoCard
end Rows
end Go.Proofs.YtfpaonfddaeamaaGreatDoor
