/-
  DERIVED. GIVEN WITH THE SEED: THE CARDS: each row of YtdgkljfpaddfpaaGreatDoorRows.lean that lists a variable, with what it lists TIED to the program's text (the seventh form; the later family's looks); each row that meets fmt, with fmt's text TOLD by the authors' own Lean function (tested against real Go, not proved from fmt's source: count such statements apart). THE CARD IS WHAT COUNTS. Prove the row's statement (the work); the ties are given (YtdgkljfpaddfpaaGreatDoorTie.lean); close each card by the builder's one call (the guide's Derived/Test/ToyasCard.lean, 'card_holds'). Laid BY PROGRAM, IN A SANDBOX (cutbox-door.mjs). By AI agents, Wed Nov 11 2026. No macro, syntax, notation, axiom, sorry.
-/
import Derived.Test.YtdgkljfpaddfpaaGreatDoorRows
import GoSem.ClaimSeven
namespace Go.Proofs.YtdgkljfpaddfpaaGreatDoor
namespace Rows

/-- THE TIED CARD OF 'quicksilvertop.TopInverse'. -/
def topInverseCard : Claim7 := { stood := { row := topInverseRow, standIns := [], harness := (true, "d987c41efdad987cd174d2b093257fa6e47956cffa24a814852ab1065271d8c2"), looks := true }, kinds := [], alts := [], laidByText := true, laidKinds := [.data, .data, .data, .sentinel, .sentinel], laidTests := true, laidLooks := .later }
def TopInverseCardSaid : Prop := Claim7.holds Tryz.pinned (.plain (OpenSpec.ofChange topInverseSpec)) topInverseCard

/-- THE SECOND FORM's CARD OF 'quicksilvertop.TopInverse'. -/
def topInverseUptoCard : Claim7 := { stood := { row := topInverseUptoRow, standIns := [], harness := (true, "d987c41efdad987cd174d2b093257fa6e47956cffa24a814852ab1065271d8c2"), looks := true }, kinds := [], alts := [], laidByText := true, laidKinds := [.data, .data, .data, .sentinel, .sentinel], laidTests := true, laidLooks := .later }
def TopInverseUptoCardSaid : Prop := Claim7.holds Tryz.pinned (.plain (OpenSpec.upto topInverseSpec)) topInverseUptoCard
end Rows
end Go.Proofs.YtdgkljfpaddfpaaGreatDoor
