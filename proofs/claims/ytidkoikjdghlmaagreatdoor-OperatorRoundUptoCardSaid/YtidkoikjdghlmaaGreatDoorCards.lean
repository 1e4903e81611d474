/-
  DERIVED. GIVEN WITH THE SEED: THE CARDS: each row of YtidkoikjdghlmaaGreatDoorRows.lean that lists a variable, with what it lists TIED to the program's text (the seventh form; the later family's looks); each row that meets fmt, with fmt's text TOLD by the authors' own Lean function (tested against real Go, not proved from fmt's source: count such statements apart). THE CARD IS WHAT COUNTS. Prove the row's statement (the work); the ties are given (YtidkoikjdghlmaaGreatDoorTie.lean); close each card by the builder's one call (the guide's Derived/Test/ToyasCard.lean, 'card_holds'). Laid BY PROGRAM, IN A SANDBOX (cutbox-door.mjs). By AI agents, Wed Nov 11 2026. No macro, syntax, notation, axiom, sorry.
-/
import Derived.Test.YtidkoikjdghlmaaGreatDoorRows
import GoSem.ClaimSeven
namespace Go.Proofs.YtidkoikjdghlmaaGreatDoor
namespace Rows

/-- THE TIED CARD OF 'quicksilverlaw13.OperatorChecks'. -/
def operatorChecksCard : Claim7 := { stood := { row := operatorChecksRow, standIns := [], harness := (true, "1b389f6af0ee6ca5e6e09f98ba94ed561269ef780fd4165be82b5b9f9fb76cda"), looks := true }, kinds := [], alts := [], laidByText := true, laidKinds := [.data, .data, .data, .data, .sentinel, .sentinel, .pinned], laidTests := true, laidLooks := .later }
def OperatorChecksCardSaid : Prop := Claim7.holds Tryz.pinned (.plain (OpenSpec.ofChange operatorChecksSpec)) operatorChecksCard

/-- THE TIED CARD OF 'quicksilverlaw13.OperatorKnown'. -/
def operatorKnownCard : Claim7 := { stood := { row := operatorKnownRow, standIns := [], harness := (true, "1b389f6af0ee6ca5e6e09f98ba94ed561269ef780fd4165be82b5b9f9fb76cda"), looks := true }, kinds := [], alts := [], laidByText := true, laidKinds := [.data, .data, .data, .data, .sentinel, .sentinel, .pinned], laidTests := true, laidLooks := .later }
def OperatorKnownCardSaid : Prop := Claim7.holds Tryz.pinned (.plain (OpenSpec.ofChange operatorKnownSpec)) operatorKnownCard

/-- THE TIED CARD OF 'quicksilverlaw13.OperatorFails'. -/
def operatorFailsCard : Claim7 := { stood := { row := operatorFailsRow, standIns := [], harness := (true, "1b389f6af0ee6ca5e6e09f98ba94ed561269ef780fd4165be82b5b9f9fb76cda"), looks := true }, kinds := [], alts := [], laidByText := true, laidKinds := [.data, .data, .data, .data, .sentinel, .sentinel, .pinned], laidTests := true, laidLooks := .later }
def OperatorFailsCardSaid : Prop := Claim7.holds Tryz.pinned (.plain (OpenSpec.ofChange operatorFailsSpec)) operatorFailsCard

/-- THE TIED CARD OF 'quicksilverlaw13.OperatorRound'. -/
def operatorRoundCard : Claim7 := { stood := { row := operatorRoundRow, standIns := [], harness := (true, "1b389f6af0ee6ca5e6e09f98ba94ed561269ef780fd4165be82b5b9f9fb76cda"), looks := true }, kinds := [], alts := [], laidByText := true, laidKinds := [.data, .data, .data, .data, .sentinel, .sentinel, .pinned], laidTests := true, laidLooks := .later }
def OperatorRoundCardSaid : Prop := Claim7.holds Tryz.pinned (.plain (OpenSpec.ofChange operatorRoundSpec)) operatorRoundCard

/-- THE SECOND FORM's CARD OF 'quicksilverlaw13.OperatorChecks'. -/
def operatorChecksUptoCard : Claim7 := { stood := { row := operatorChecksUptoRow, standIns := [], harness := (true, "1b389f6af0ee6ca5e6e09f98ba94ed561269ef780fd4165be82b5b9f9fb76cda"), looks := true }, kinds := [], alts := [], laidByText := true, laidKinds := [.data, .data, .data, .data, .sentinel, .sentinel, .pinned], laidTests := true, laidLooks := .later }
def OperatorChecksUptoCardSaid : Prop := Claim7.holds Tryz.pinned (.plain (OpenSpec.upto operatorChecksSpec)) operatorChecksUptoCard

/-- THE SECOND FORM's CARD OF 'quicksilverlaw13.OperatorKnown'. -/
def operatorKnownUptoCard : Claim7 := { stood := { row := operatorKnownUptoRow, standIns := [], harness := (true, "1b389f6af0ee6ca5e6e09f98ba94ed561269ef780fd4165be82b5b9f9fb76cda"), looks := true }, kinds := [], alts := [], laidByText := true, laidKinds := [.data, .data, .data, .data, .sentinel, .sentinel, .pinned], laidTests := true, laidLooks := .later }
def OperatorKnownUptoCardSaid : Prop := Claim7.holds Tryz.pinned (.plain (OpenSpec.upto operatorKnownSpec)) operatorKnownUptoCard

/-- THE SECOND FORM's CARD OF 'quicksilverlaw13.OperatorFails'. -/
def operatorFailsUptoCard : Claim7 := { stood := { row := operatorFailsUptoRow, standIns := [], harness := (true, "1b389f6af0ee6ca5e6e09f98ba94ed561269ef780fd4165be82b5b9f9fb76cda"), looks := true }, kinds := [], alts := [], laidByText := true, laidKinds := [.data, .data, .data, .data, .sentinel, .sentinel, .pinned], laidTests := true, laidLooks := .later }
def OperatorFailsUptoCardSaid : Prop := Claim7.holds Tryz.pinned (.plain (OpenSpec.upto operatorFailsSpec)) operatorFailsUptoCard

/-- THE SECOND FORM's CARD OF 'quicksilverlaw13.OperatorRound'. -/
def operatorRoundUptoCard : Claim7 := { stood := { row := operatorRoundUptoRow, standIns := [], harness := (true, "1b389f6af0ee6ca5e6e09f98ba94ed561269ef780fd4165be82b5b9f9fb76cda"), looks := true }, kinds := [], alts := [], laidByText := true, laidKinds := [.data, .data, .data, .data, .sentinel, .sentinel, .pinned], laidTests := true, laidLooks := .later }
def OperatorRoundUptoCardSaid : Prop := Claim7.holds Tryz.pinned (.plain (OpenSpec.upto operatorRoundSpec)) operatorRoundUptoCard
end Rows
end Go.Proofs.YtidkoikjdghlmaaGreatDoor
