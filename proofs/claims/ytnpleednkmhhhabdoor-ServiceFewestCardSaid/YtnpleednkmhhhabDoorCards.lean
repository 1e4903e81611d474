/-
  DERIVED. GIVEN WITH THE SEED: THE CARDS: each row of YtnpleednkmhhhabDoorRows.lean that lists a variable, with what it lists TIED to the program's text (the seventh form; the later family's looks); each row that meets fmt, with fmt's text TOLD by the authors' own Lean function (tested against real Go, not proved from fmt's source: count such statements apart). THE CARD IS WHAT COUNTS. Prove the row's statement (the work); the ties are given (YtnpleednkmhhhabDoorTie.lean); close each card by the builder's one call (the guide's Derived/Test/ToyasCard.lean, 'card_holds'). Laid BY PROGRAM, IN A SANDBOX (cutbox-door.mjs). By AI agents, Wed Nov 11 2026. No macro, syntax, notation, axiom, sorry.
-/
import Derived.Test.YtnpleednkmhhhabDoorRows
import GoSem.ClaimSeven
namespace Go.Proofs.YtnpleednkmhhhabDoor
namespace Rows

/-- THE TIED CARD OF 'quicksilverlaw09.ServiceFound'. -/
def serviceFoundCard : Claim7 := { stood := { row := serviceFoundRow, standIns := [], harness := (true, "1aeb5a46b083e54e9e73693d4743c74ac91abba2e272df24a92a50c939f57186"), looks := false }, kinds := [], alts := [], laidByText := true, laidKinds := [.data, .data, .data], laidTests := true, laidLooks := .later }
def ServiceFoundCardSaid : Prop := Claim7.holds Tryd.pinned (.plain (OpenSpec.ofChange serviceFoundSpec)) serviceFoundCard

/-- THE TIED CARD OF 'quicksilverlaw09.ServiceOnly'. -/
def serviceOnlyCard : Claim7 := { stood := { row := serviceOnlyRow, standIns := [], harness := (true, "1aeb5a46b083e54e9e73693d4743c74ac91abba2e272df24a92a50c939f57186"), looks := false }, kinds := [], alts := [], laidByText := true, laidKinds := [.data, .data, .data], laidTests := true, laidLooks := .later }
def ServiceOnlyCardSaid : Prop := Claim7.holds Tryd.pinned (.plain (OpenSpec.ofChange serviceOnlySpec)) serviceOnlyCard

/-- THE TIED CARD OF 'quicksilverlaw09.ServiceNet'. -/
def serviceNetCard : Claim7 := { stood := { row := serviceNetRow, standIns := [], harness := (true, "1aeb5a46b083e54e9e73693d4743c74ac91abba2e272df24a92a50c939f57186"), looks := false }, kinds := [], alts := [], laidByText := true, laidKinds := [.data, .data, .data], laidTests := true, laidLooks := .later }
def ServiceNetCardSaid : Prop := Claim7.holds Tryd.pinned (.plain (OpenSpec.ofChange serviceNetSpec)) serviceNetCard

/-- THE TIED CARD OF 'quicksilverlaw09.ServiceFewest'. -/
def serviceFewestCard : Claim7 := { stood := { row := serviceFewestRow, standIns := [], harness := (true, "1aeb5a46b083e54e9e73693d4743c74ac91abba2e272df24a92a50c939f57186"), looks := false }, kinds := [], alts := [], laidByText := true, laidKinds := [.data, .data, .data], laidTests := true, laidLooks := .later }
def ServiceFewestCardSaid : Prop := Claim7.holds Tryd.pinned (.plain (OpenSpec.ofChange serviceFewestSpec)) serviceFewestCard

/-- THE TIED CARD OF 'quicksilverlaw09.ServiceSmooth'. -/
def serviceSmoothCard : Claim7 := { stood := { row := serviceSmoothRow, standIns := [], harness := (true, "1aeb5a46b083e54e9e73693d4743c74ac91abba2e272df24a92a50c939f57186"), looks := false }, kinds := [], alts := [], laidByText := true, laidKinds := [.data, .data, .data], laidTests := true, laidLooks := .later }
def ServiceSmoothCardSaid : Prop := Claim7.holds Tryd.pinned (.plain (OpenSpec.ofChange serviceSmoothSpec)) serviceSmoothCard

/-- THE TIED CARD OF 'quicksilverlaw09.ServiceAreas'. -/
def serviceAreasCard : Claim7 := { stood := { row := serviceAreasRow, standIns := [], harness := (true, "1aeb5a46b083e54e9e73693d4743c74ac91abba2e272df24a92a50c939f57186"), looks := false }, kinds := [], alts := [], laidByText := true, laidKinds := [.data, .data, .data], laidTests := true, laidLooks := .later }
def ServiceAreasCardSaid : Prop := Claim7.holds Tryd.pinned (.plain (OpenSpec.ofChange serviceAreasSpec)) serviceAreasCard

/-- THE TIED CARD OF 'quicksilverlaw09.ServiceKnown'. -/
def serviceKnownCard : Claim7 := { stood := { row := serviceKnownRow, standIns := [], harness := (true, "1aeb5a46b083e54e9e73693d4743c74ac91abba2e272df24a92a50c939f57186"), looks := false }, kinds := [], alts := [], laidByText := true, laidKinds := [.data, .data, .data], laidTests := true, laidLooks := .later }
def ServiceKnownCardSaid : Prop := Claim7.holds Tryd.pinned (.plain (OpenSpec.ofChange serviceKnownSpec)) serviceKnownCard

/-- THE TIED CARD OF 'quicksilverlaw09.ServiceStrips'. -/
def serviceStripsCard : Claim7 := { stood := { row := serviceStripsRow, standIns := [], harness := (true, "1aeb5a46b083e54e9e73693d4743c74ac91abba2e272df24a92a50c939f57186"), looks := false }, kinds := [], alts := [], laidByText := true, laidKinds := [.data, .data, .data], laidTests := true, laidLooks := .later }
def ServiceStripsCardSaid : Prop := Claim7.holds Tryd.pinned (.plain (OpenSpec.ofChange serviceStripsSpec)) serviceStripsCard

/-- THE TIED CARD OF 'quicksilverlaw09.ServiceJoined'. -/
def serviceJoinedCard : Claim7 := { stood := { row := serviceJoinedRow, standIns := [], harness := (true, "1aeb5a46b083e54e9e73693d4743c74ac91abba2e272df24a92a50c939f57186"), looks := false }, kinds := [], alts := [], laidByText := true, laidKinds := [.data, .data, .data], laidTests := true, laidLooks := .later }
def ServiceJoinedCardSaid : Prop := Claim7.holds Tryd.pinned (.plain (OpenSpec.ofChange serviceJoinedSpec)) serviceJoinedCard

/-- THE SECOND FORM's CARD OF 'quicksilverlaw09.ServiceFound'. -/
def serviceFoundUptoCard : Claim7 := { stood := { row := serviceFoundUptoRow, standIns := [], harness := (true, "1aeb5a46b083e54e9e73693d4743c74ac91abba2e272df24a92a50c939f57186"), looks := false }, kinds := [], alts := [], laidByText := true, laidKinds := [.data, .data, .data], laidTests := true, laidLooks := .later }
def ServiceFoundUptoCardSaid : Prop := Claim7.holds Tryd.pinned (.plain (OpenSpec.upto serviceFoundSpec)) serviceFoundUptoCard

/-- THE SECOND FORM's CARD OF 'quicksilverlaw09.ServiceOnly'. -/
def serviceOnlyUptoCard : Claim7 := { stood := { row := serviceOnlyUptoRow, standIns := [], harness := (true, "1aeb5a46b083e54e9e73693d4743c74ac91abba2e272df24a92a50c939f57186"), looks := false }, kinds := [], alts := [], laidByText := true, laidKinds := [.data, .data, .data], laidTests := true, laidLooks := .later }
def ServiceOnlyUptoCardSaid : Prop := Claim7.holds Tryd.pinned (.plain (OpenSpec.upto serviceOnlySpec)) serviceOnlyUptoCard

/-- THE SECOND FORM's CARD OF 'quicksilverlaw09.ServiceNet'. -/
def serviceNetUptoCard : Claim7 := { stood := { row := serviceNetUptoRow, standIns := [], harness := (true, "1aeb5a46b083e54e9e73693d4743c74ac91abba2e272df24a92a50c939f57186"), looks := false }, kinds := [], alts := [], laidByText := true, laidKinds := [.data, .data, .data], laidTests := true, laidLooks := .later }
def ServiceNetUptoCardSaid : Prop := Claim7.holds Tryd.pinned (.plain (OpenSpec.upto serviceNetSpec)) serviceNetUptoCard

/-- THE SECOND FORM's CARD OF 'quicksilverlaw09.ServiceFewest'. -/
def serviceFewestUptoCard : Claim7 := { stood := { row := serviceFewestUptoRow, standIns := [], harness := (true, "1aeb5a46b083e54e9e73693d4743c74ac91abba2e272df24a92a50c939f57186"), looks := false }, kinds := [], alts := [], laidByText := true, laidKinds := [.data, .data, .data], laidTests := true, laidLooks := .later }
def ServiceFewestUptoCardSaid : Prop := Claim7.holds Tryd.pinned (.plain (OpenSpec.upto serviceFewestSpec)) serviceFewestUptoCard

/-- THE SECOND FORM's CARD OF 'quicksilverlaw09.ServiceSmooth'. -/
def serviceSmoothUptoCard : Claim7 := { stood := { row := serviceSmoothUptoRow, standIns := [], harness := (true, "1aeb5a46b083e54e9e73693d4743c74ac91abba2e272df24a92a50c939f57186"), looks := false }, kinds := [], alts := [], laidByText := true, laidKinds := [.data, .data, .data], laidTests := true, laidLooks := .later }
def ServiceSmoothUptoCardSaid : Prop := Claim7.holds Tryd.pinned (.plain (OpenSpec.upto serviceSmoothSpec)) serviceSmoothUptoCard

/-- THE SECOND FORM's CARD OF 'quicksilverlaw09.ServiceAreas'. -/
def serviceAreasUptoCard : Claim7 := { stood := { row := serviceAreasUptoRow, standIns := [], harness := (true, "1aeb5a46b083e54e9e73693d4743c74ac91abba2e272df24a92a50c939f57186"), looks := false }, kinds := [], alts := [], laidByText := true, laidKinds := [.data, .data, .data], laidTests := true, laidLooks := .later }
def ServiceAreasUptoCardSaid : Prop := Claim7.holds Tryd.pinned (.plain (OpenSpec.upto serviceAreasSpec)) serviceAreasUptoCard

/-- THE SECOND FORM's CARD OF 'quicksilverlaw09.ServiceKnown'. -/
def serviceKnownUptoCard : Claim7 := { stood := { row := serviceKnownUptoRow, standIns := [], harness := (true, "1aeb5a46b083e54e9e73693d4743c74ac91abba2e272df24a92a50c939f57186"), looks := false }, kinds := [], alts := [], laidByText := true, laidKinds := [.data, .data, .data], laidTests := true, laidLooks := .later }
def ServiceKnownUptoCardSaid : Prop := Claim7.holds Tryd.pinned (.plain (OpenSpec.upto serviceKnownSpec)) serviceKnownUptoCard

/-- THE SECOND FORM's CARD OF 'quicksilverlaw09.ServiceStrips'. -/
def serviceStripsUptoCard : Claim7 := { stood := { row := serviceStripsUptoRow, standIns := [], harness := (true, "1aeb5a46b083e54e9e73693d4743c74ac91abba2e272df24a92a50c939f57186"), looks := false }, kinds := [], alts := [], laidByText := true, laidKinds := [.data, .data, .data], laidTests := true, laidLooks := .later }
def ServiceStripsUptoCardSaid : Prop := Claim7.holds Tryd.pinned (.plain (OpenSpec.upto serviceStripsSpec)) serviceStripsUptoCard

/-- THE SECOND FORM's CARD OF 'quicksilverlaw09.ServiceJoined'. -/
def serviceJoinedUptoCard : Claim7 := { stood := { row := serviceJoinedUptoRow, standIns := [], harness := (true, "1aeb5a46b083e54e9e73693d4743c74ac91abba2e272df24a92a50c939f57186"), looks := false }, kinds := [], alts := [], laidByText := true, laidKinds := [.data, .data, .data], laidTests := true, laidLooks := .later }
def ServiceJoinedUptoCardSaid : Prop := Claim7.holds Tryd.pinned (.plain (OpenSpec.upto serviceJoinedSpec)) serviceJoinedUptoCard
end Rows
end Go.Proofs.YtnpleednkmhhhabDoor
