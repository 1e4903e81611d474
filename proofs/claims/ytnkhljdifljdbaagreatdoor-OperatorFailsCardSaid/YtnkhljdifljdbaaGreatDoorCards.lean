/-
  DERIVED. GIVEN WITH THE SEED: THE CARDS: each row of YtnkhljdifljdbaaGreatDoorRows.lean that lists a variable, with what it lists TIED to the program's text (the seventh form; the later family's looks); each row that meets fmt, with fmt's text TOLD by the authors' own Lean function (tested against real Go, not proved from fmt's source: count such statements apart). THE CARD IS WHAT COUNTS. Prove the row's statement (the work); the ties are given (YtnkhljdifljdbaaGreatDoorTie.lean); close each card by the builder's one call (the guide's Derived/Test/ToyasCard.lean, 'card_holds'). Laid BY PROGRAM, IN A SANDBOX (cutbox-door.mjs). By AI agents, Wed Nov 11 2026. No macro, syntax, notation, axiom, sorry.
-/
import Derived.Test.YtnkhljdifljdbaaGreatDoorRows
import GoSem.ClaimSeven
namespace Go.Proofs.YtnkhljdifljdbaaGreatDoor
namespace Rows

/-- THE TIED CARD OF 'quicksilverlaw13.OperatorFails'. -/
def operatorFailsCard : Claim7 := { stood := { row := operatorFailsRow, standIns := [], harness := (true, "2f5f9449fb77ac1827de1cbbf983fd39e664a5c79b418f3ef106cc436d76b796"), looks := true }, kinds := [], alts := [], laidByText := true, laidKinds := [.data, .data, .data, .data, .sentinel, .sentinel, .pinned], laidTests := true, laidLooks := .later }
def OperatorFailsCardSaid : Prop := Claim7.holds Tryz.pinned (.plain (OpenSpec.ofChange operatorFailsSpec)) operatorFailsCard

/-- THE SECOND FORM's CARD OF 'quicksilverlaw13.OperatorFails'. -/
def operatorFailsUptoCard : Claim7 := { stood := { row := operatorFailsUptoRow, standIns := [], harness := (true, "2f5f9449fb77ac1827de1cbbf983fd39e664a5c79b418f3ef106cc436d76b796"), looks := true }, kinds := [], alts := [], laidByText := true, laidKinds := [.data, .data, .data, .data, .sentinel, .sentinel, .pinned], laidTests := true, laidLooks := .later }
def OperatorFailsUptoCardSaid : Prop := Claim7.holds Tryz.pinned (.plain (OpenSpec.upto operatorFailsSpec)) operatorFailsUptoCard
end Rows
end Go.Proofs.YtnkhljdifljdbaaGreatDoor
