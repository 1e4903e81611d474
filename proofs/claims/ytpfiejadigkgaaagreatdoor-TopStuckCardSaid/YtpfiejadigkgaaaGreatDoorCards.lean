/-
  DERIVED. GIVEN WITH THE SEED: THE CARDS: each row of YtpfiejadigkgaaaGreatDoorRows.lean that lists a variable, with what it lists TIED to the program's text (the seventh form; the later family's looks); each row that meets fmt, with fmt's text TOLD by the authors' own Lean function (tested against real Go, not proved from fmt's source: count such statements apart). THE CARD IS WHAT COUNTS. Prove the row's statement (the work); the ties are given (YtpfiejadigkgaaaGreatDoorTie.lean); close each card by the builder's one call (the guide's Derived/Test/ToyasCard.lean, 'card_holds'). Laid BY PROGRAM, IN A SANDBOX (cutbox-door.mjs). By AI agents, Wed Nov 11 2026. No macro, syntax, notation, axiom, sorry.
-/
import Derived.Test.YtpfiejadigkgaaaGreatDoorRows
import GoSem.ClaimSeven
namespace Go.Proofs.YtpfiejadigkgaaaGreatDoor
namespace Rows

/-- THE TIED CARD OF 'quicksilvertop.TopStuck'. -/
def topStuckCard : Claim7 := { stood := { row := topStuckRow, standIns := [], harness := (true, "af21d2f55c08873d3f706278df0d6e58816f8f802a957ca87d736733ebf65d5a"), looks := true }, kinds := [], alts := [], laidByText := true, laidKinds := [.data, .data, .data], laidTests := true, laidLooks := .later }
def TopStuckCardSaid : Prop := Claim7.holds Tryz.pinned (.plain (OpenSpec.ofChange topStuckSpec)) topStuckCard

/-- THE SECOND FORM's CARD OF 'quicksilvertop.TopStuck'. -/
def topStuckUptoCard : Claim7 := { stood := { row := topStuckUptoRow, standIns := [], harness := (true, "af21d2f55c08873d3f706278df0d6e58816f8f802a957ca87d736733ebf65d5a"), looks := true }, kinds := [], alts := [], laidByText := true, laidKinds := [.data, .data, .data], laidTests := true, laidLooks := .later }
def TopStuckUptoCardSaid : Prop := Claim7.holds Tryz.pinned (.plain (OpenSpec.upto topStuckSpec)) topStuckUptoCard
end Rows
end Go.Proofs.YtpfiejadigkgaaaGreatDoor
