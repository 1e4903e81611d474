/-
  DERIVED. GIVEN WITH THE SEED: THE CARDS: each row of YtnpleednkmhhhaaDoorRows.lean that lists a variable, with what it lists TIED to the program's text (the seventh form; the later family's looks); each row that meets fmt, with fmt's text TOLD by the authors' own Lean function (tested against real Go, not proved from fmt's source: count such statements apart). THE CARD IS WHAT COUNTS. Prove the row's statement (the work); the ties are given (YtnpleednkmhhhaaDoorTie.lean); close each card by the builder's one call (the guide's Derived/Test/ToyasCard.lean, 'card_holds'). Laid BY PROGRAM, IN A SANDBOX (cutbox-door.mjs). By AI agents, Wed Nov 11 2026. No macro, syntax, notation, axiom, sorry.
-/
import Derived.Test.YtnpleednkmhhhaaDoorRows
import GoSem.ClaimSeven
namespace Go.Proofs.YtnpleednkmhhhaaDoor
namespace Rows

/-- THE TIED CARD OF 'quicksilverlaw09.ServiceSolves'. -/
def serviceSolvesCard : Claim7 := { stood := { row := serviceSolvesRow, standIns := [], harness := (true, "c20ebafaea6d0b258c983adccf40b4750477334ca3f6572ee171e2edfb7dc53e"), looks := false }, kinds := [], alts := [], laidByText := true, laidKinds := [.data, .data, .data], laidTests := true, laidLooks := .later }
def ServiceSolvesCardSaid : Prop := Claim7.holds Tryd.pinned (.plain (OpenSpec.ofChange serviceSolvesSpec)) serviceSolvesCard

/-- THE TIED CARD OF 'quicksilverlaw09.ServicePrints'. -/
def servicePrintsCard : Claim7 := { stood := { row := servicePrintsRow, standIns := [], harness := (true, "c20ebafaea6d0b258c983adccf40b4750477334ca3f6572ee171e2edfb7dc53e"), looks := false }, kinds := [], alts := [], laidByText := true, laidKinds := [.data, .data, .data], laidTests := true, laidLooks := .later }
def ServicePrintsCardSaid : Prop := Claim7.holds Tryd.pinned (.plain (OpenSpec.ofChange servicePrintsSpec)) servicePrintsCard

/-- THE TIED CARD OF 'quicksilverlaw09.ServiceRoots'. -/
def serviceRootsCard : Claim7 := { stood := { row := serviceRootsRow, standIns := [], harness := (true, "c20ebafaea6d0b258c983adccf40b4750477334ca3f6572ee171e2edfb7dc53e"), looks := false }, kinds := [], alts := [], laidByText := true, laidKinds := [.data, .data, .data], laidTests := true, laidLooks := .later }
def ServiceRootsCardSaid : Prop := Claim7.holds Tryd.pinned (.plain (OpenSpec.ofChange serviceRootsSpec)) serviceRootsCard

/-- THE TIED CARD OF 'quicksilverlaw09.ServiceFinds'. -/
def serviceFindsCard : Claim7 := { stood := { row := serviceFindsRow, standIns := [], harness := (true, "c20ebafaea6d0b258c983adccf40b4750477334ca3f6572ee171e2edfb7dc53e"), looks := false }, kinds := [], alts := [], laidByText := true, laidKinds := [.data, .data, .data], laidTests := true, laidLooks := .later }
def ServiceFindsCardSaid : Prop := Claim7.holds Tryd.pinned (.plain (OpenSpec.ofChange serviceFindsSpec)) serviceFindsCard

/-- THE TIED CARD OF 'quicksilverlaw09.ServicePays'. -/
def servicePaysCard : Claim7 := { stood := { row := servicePaysRow, standIns := [], harness := (true, "c20ebafaea6d0b258c983adccf40b4750477334ca3f6572ee171e2edfb7dc53e"), looks := false }, kinds := [], alts := [], laidByText := true, laidKinds := [.data, .data, .data], laidTests := true, laidLooks := .later }
def ServicePaysCardSaid : Prop := Claim7.holds Tryd.pinned (.plain (OpenSpec.ofChange servicePaysSpec)) servicePaysCard

/-- THE TIED CARD OF 'quicksilverlaw09.ServiceExact'. -/
def serviceExactCard : Claim7 := { stood := { row := serviceExactRow, standIns := [], harness := (true, "c20ebafaea6d0b258c983adccf40b4750477334ca3f6572ee171e2edfb7dc53e"), looks := false }, kinds := [], alts := [], laidByText := true, laidKinds := [.data, .data, .data], laidTests := true, laidLooks := .later }
def ServiceExactCardSaid : Prop := Claim7.holds Tryd.pinned (.plain (OpenSpec.ofChange serviceExactSpec)) serviceExactCard

/-- THE TIED CARD OF 'quicksilverlaw09.ServiceMade'. -/
def serviceMadeCard : Claim7 := { stood := { row := serviceMadeRow, standIns := [], harness := (true, "c20ebafaea6d0b258c983adccf40b4750477334ca3f6572ee171e2edfb7dc53e"), looks := false }, kinds := [], alts := [], laidByText := true, laidKinds := [.data, .data, .data], laidTests := true, laidLooks := .later }
def ServiceMadeCardSaid : Prop := Claim7.holds Tryd.pinned (.plain (OpenSpec.ofChange serviceMadeSpec)) serviceMadeCard

/-- THE TIED CARD OF 'quicksilverlaw09.ServicePrinted'. -/
def servicePrintedCard : Claim7 := { stood := { row := servicePrintedRow, standIns := [], harness := (true, "c20ebafaea6d0b258c983adccf40b4750477334ca3f6572ee171e2edfb7dc53e"), looks := false }, kinds := [], alts := [], laidByText := true, laidKinds := [.data, .data, .data], laidTests := true, laidLooks := .later }
def ServicePrintedCardSaid : Prop := Claim7.holds Tryd.pinned (.plain (OpenSpec.ofChange servicePrintedSpec)) servicePrintedCard

/-- THE TIED CARD OF 'quicksilverlaw09.ServiceBrackets'. -/
def serviceBracketsCard : Claim7 := { stood := { row := serviceBracketsRow, standIns := [], harness := (true, "c20ebafaea6d0b258c983adccf40b4750477334ca3f6572ee171e2edfb7dc53e"), looks := false }, kinds := [], alts := [], laidByText := true, laidKinds := [.data, .data, .data], laidTests := true, laidLooks := .later }
def ServiceBracketsCardSaid : Prop := Claim7.holds Tryd.pinned (.plain (OpenSpec.ofChange serviceBracketsSpec)) serviceBracketsCard

/-- THE TIED CARD OF 'quicksilverlaw09.ServiceNarrower'. -/
def serviceNarrowerCard : Claim7 := { stood := { row := serviceNarrowerRow, standIns := [], harness := (true, "c20ebafaea6d0b258c983adccf40b4750477334ca3f6572ee171e2edfb7dc53e"), looks := false }, kinds := [], alts := [], laidByText := true, laidKinds := [.data, .data, .data], laidTests := true, laidLooks := .later }
def ServiceNarrowerCardSaid : Prop := Claim7.holds Tryd.pinned (.plain (OpenSpec.ofChange serviceNarrowerSpec)) serviceNarrowerCard

/-- THE SECOND FORM's CARD OF 'quicksilverlaw09.ServiceSolves'. -/
def serviceSolvesUptoCard : Claim7 := { stood := { row := serviceSolvesUptoRow, standIns := [], harness := (true, "c20ebafaea6d0b258c983adccf40b4750477334ca3f6572ee171e2edfb7dc53e"), looks := false }, kinds := [], alts := [], laidByText := true, laidKinds := [.data, .data, .data], laidTests := true, laidLooks := .later }
def ServiceSolvesUptoCardSaid : Prop := Claim7.holds Tryd.pinned (.plain (OpenSpec.upto serviceSolvesSpec)) serviceSolvesUptoCard

/-- THE SECOND FORM's CARD OF 'quicksilverlaw09.ServicePrints'. -/
def servicePrintsUptoCard : Claim7 := { stood := { row := servicePrintsUptoRow, standIns := [], harness := (true, "c20ebafaea6d0b258c983adccf40b4750477334ca3f6572ee171e2edfb7dc53e"), looks := false }, kinds := [], alts := [], laidByText := true, laidKinds := [.data, .data, .data], laidTests := true, laidLooks := .later }
def ServicePrintsUptoCardSaid : Prop := Claim7.holds Tryd.pinned (.plain (OpenSpec.upto servicePrintsSpec)) servicePrintsUptoCard

/-- THE SECOND FORM's CARD OF 'quicksilverlaw09.ServiceRoots'. -/
def serviceRootsUptoCard : Claim7 := { stood := { row := serviceRootsUptoRow, standIns := [], harness := (true, "c20ebafaea6d0b258c983adccf40b4750477334ca3f6572ee171e2edfb7dc53e"), looks := false }, kinds := [], alts := [], laidByText := true, laidKinds := [.data, .data, .data], laidTests := true, laidLooks := .later }
def ServiceRootsUptoCardSaid : Prop := Claim7.holds Tryd.pinned (.plain (OpenSpec.upto serviceRootsSpec)) serviceRootsUptoCard

/-- THE SECOND FORM's CARD OF 'quicksilverlaw09.ServiceFinds'. -/
def serviceFindsUptoCard : Claim7 := { stood := { row := serviceFindsUptoRow, standIns := [], harness := (true, "c20ebafaea6d0b258c983adccf40b4750477334ca3f6572ee171e2edfb7dc53e"), looks := false }, kinds := [], alts := [], laidByText := true, laidKinds := [.data, .data, .data], laidTests := true, laidLooks := .later }
def ServiceFindsUptoCardSaid : Prop := Claim7.holds Tryd.pinned (.plain (OpenSpec.upto serviceFindsSpec)) serviceFindsUptoCard

/-- THE SECOND FORM's CARD OF 'quicksilverlaw09.ServicePays'. -/
def servicePaysUptoCard : Claim7 := { stood := { row := servicePaysUptoRow, standIns := [], harness := (true, "c20ebafaea6d0b258c983adccf40b4750477334ca3f6572ee171e2edfb7dc53e"), looks := false }, kinds := [], alts := [], laidByText := true, laidKinds := [.data, .data, .data], laidTests := true, laidLooks := .later }
def ServicePaysUptoCardSaid : Prop := Claim7.holds Tryd.pinned (.plain (OpenSpec.upto servicePaysSpec)) servicePaysUptoCard

/-- THE SECOND FORM's CARD OF 'quicksilverlaw09.ServiceExact'. -/
def serviceExactUptoCard : Claim7 := { stood := { row := serviceExactUptoRow, standIns := [], harness := (true, "c20ebafaea6d0b258c983adccf40b4750477334ca3f6572ee171e2edfb7dc53e"), looks := false }, kinds := [], alts := [], laidByText := true, laidKinds := [.data, .data, .data], laidTests := true, laidLooks := .later }
def ServiceExactUptoCardSaid : Prop := Claim7.holds Tryd.pinned (.plain (OpenSpec.upto serviceExactSpec)) serviceExactUptoCard

/-- THE SECOND FORM's CARD OF 'quicksilverlaw09.ServiceMade'. -/
def serviceMadeUptoCard : Claim7 := { stood := { row := serviceMadeUptoRow, standIns := [], harness := (true, "c20ebafaea6d0b258c983adccf40b4750477334ca3f6572ee171e2edfb7dc53e"), looks := false }, kinds := [], alts := [], laidByText := true, laidKinds := [.data, .data, .data], laidTests := true, laidLooks := .later }
def ServiceMadeUptoCardSaid : Prop := Claim7.holds Tryd.pinned (.plain (OpenSpec.upto serviceMadeSpec)) serviceMadeUptoCard

/-- THE SECOND FORM's CARD OF 'quicksilverlaw09.ServicePrinted'. -/
def servicePrintedUptoCard : Claim7 := { stood := { row := servicePrintedUptoRow, standIns := [], harness := (true, "c20ebafaea6d0b258c983adccf40b4750477334ca3f6572ee171e2edfb7dc53e"), looks := false }, kinds := [], alts := [], laidByText := true, laidKinds := [.data, .data, .data], laidTests := true, laidLooks := .later }
def ServicePrintedUptoCardSaid : Prop := Claim7.holds Tryd.pinned (.plain (OpenSpec.upto servicePrintedSpec)) servicePrintedUptoCard

/-- THE SECOND FORM's CARD OF 'quicksilverlaw09.ServiceBrackets'. -/
def serviceBracketsUptoCard : Claim7 := { stood := { row := serviceBracketsUptoRow, standIns := [], harness := (true, "c20ebafaea6d0b258c983adccf40b4750477334ca3f6572ee171e2edfb7dc53e"), looks := false }, kinds := [], alts := [], laidByText := true, laidKinds := [.data, .data, .data], laidTests := true, laidLooks := .later }
def ServiceBracketsUptoCardSaid : Prop := Claim7.holds Tryd.pinned (.plain (OpenSpec.upto serviceBracketsSpec)) serviceBracketsUptoCard

/-- THE SECOND FORM's CARD OF 'quicksilverlaw09.ServiceNarrower'. -/
def serviceNarrowerUptoCard : Claim7 := { stood := { row := serviceNarrowerUptoRow, standIns := [], harness := (true, "c20ebafaea6d0b258c983adccf40b4750477334ca3f6572ee171e2edfb7dc53e"), looks := false }, kinds := [], alts := [], laidByText := true, laidKinds := [.data, .data, .data], laidTests := true, laidLooks := .later }
def ServiceNarrowerUptoCardSaid : Prop := Claim7.holds Tryd.pinned (.plain (OpenSpec.upto serviceNarrowerSpec)) serviceNarrowerUptoCard
end Rows
end Go.Proofs.YtnpleednkmhhhaaDoor
