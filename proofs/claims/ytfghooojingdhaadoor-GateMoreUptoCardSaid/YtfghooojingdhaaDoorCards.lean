/-
  DERIVED. GIVEN WITH THE SEED: THE CARDS: each row of YtfghooojingdhaaDoorRows.lean that lists a variable, with what it lists TIED to the program's text (the seventh form; the later family's looks); each row that meets fmt, with fmt's text TOLD by the authors' own Lean function (tested against real Go, not proved from fmt's source: count such statements apart). THE CARD IS WHAT COUNTS. Prove the row's statement (the work); the ties are given (YtfghooojingdhaaDoorTie.lean); close each card by the builder's one call (the guide's Derived/Test/ToyasCard.lean, 'card_holds'). Laid BY PROGRAM, IN A SANDBOX (cutbox-door.mjs). By AI agents, Wed Nov 11 2026. No macro, syntax, notation, axiom, sorry.
-/
import Derived.Test.YtfghooojingdhaaDoorRows
import GoSem.ClaimSeven
namespace Go.Proofs.YtfghooojingdhaaDoor
namespace Rows

/-- THE TIED CARD OF 'quicksilverlaw02.GateChecks'. -/
def gateChecksCard : Claim7 := { stood := { row := gateChecksRow, standIns := [], harness := (true, "a097d18c9e3002aa14216bba72af60855f39ca5d3a445ad3bdb4310cb8c20d04"), looks := false }, kinds := [], alts := [], laidByText := true, laidKinds := [.data, .data, .data], laidTests := true, laidLooks := .later }
def GateChecksCardSaid : Prop := Claim7.holds Tryd.pinned (.plain (OpenSpec.ofChange gateChecksSpec)) gateChecksCard

/-- THE TIED CARD OF 'quicksilverlaw02.GateDiffers'. -/
def gateDiffersCard : Claim7 := { stood := { row := gateDiffersRow, standIns := [], harness := (true, "a097d18c9e3002aa14216bba72af60855f39ca5d3a445ad3bdb4310cb8c20d04"), looks := false }, kinds := [], alts := [], laidByText := true, laidKinds := [.data, .data, .data], laidTests := true, laidLooks := .later }
def GateDiffersCardSaid : Prop := Claim7.holds Tryd.pinned (.plain (OpenSpec.ofChange gateDiffersSpec)) gateDiffersCard

/-- THE TIED CARD OF 'quicksilverlaw02.GateAdds'. -/
def gateAddsCard : Claim7 := { stood := { row := gateAddsRow, standIns := [], harness := (true, "a097d18c9e3002aa14216bba72af60855f39ca5d3a445ad3bdb4310cb8c20d04"), looks := false }, kinds := [], alts := [], laidByText := true, laidKinds := [.data, .data, .data], laidTests := true, laidLooks := .later }
def GateAddsCardSaid : Prop := Claim7.holds Tryd.pinned (.plain (OpenSpec.ofChange gateAddsSpec)) gateAddsCard

/-- THE TIED CARD OF 'quicksilverlaw02.GateCut'. -/
def gateCutCard : Claim7 := { stood := { row := gateCutRow, standIns := [], harness := (true, "a097d18c9e3002aa14216bba72af60855f39ca5d3a445ad3bdb4310cb8c20d04"), looks := false }, kinds := [], alts := [], laidByText := true, laidKinds := [.data, .data, .data], laidTests := true, laidLooks := .later }
def GateCutCardSaid : Prop := Claim7.holds Tryd.pinned (.plain (OpenSpec.ofChange gateCutSpec)) gateCutCard

/-- THE TIED CARD OF 'quicksilverlaw02.GateSame'. -/
def gateSameCard : Claim7 := { stood := { row := gateSameRow, standIns := [], harness := (true, "a097d18c9e3002aa14216bba72af60855f39ca5d3a445ad3bdb4310cb8c20d04"), looks := false }, kinds := [], alts := [], laidByText := true, laidKinds := [.data, .data, .data], laidTests := true, laidLooks := .later }
def GateSameCardSaid : Prop := Claim7.holds Tryd.pinned (.plain (OpenSpec.ofChange gateSameSpec)) gateSameCard

/-- THE TIED CARD OF 'quicksilverlaw02.GateMore'. -/
def gateMoreCard : Claim7 := { stood := { row := gateMoreRow, standIns := [], harness := (true, "a097d18c9e3002aa14216bba72af60855f39ca5d3a445ad3bdb4310cb8c20d04"), looks := false }, kinds := [], alts := [], laidByText := true, laidKinds := [.data, .data, .data], laidTests := true, laidLooks := .later }
def GateMoreCardSaid : Prop := Claim7.holds Tryd.pinned (.plain (OpenSpec.ofChange gateMoreSpec)) gateMoreCard

/-- THE TIED CARD OF 'quicksilverlaw02.GateTests'. -/
def gateTestsCard : Claim7 := { stood := { row := gateTestsRow, standIns := [], harness := (true, "a097d18c9e3002aa14216bba72af60855f39ca5d3a445ad3bdb4310cb8c20d04"), looks := false }, kinds := [], alts := [], laidByText := true, laidKinds := [.data, .data, .data], laidTests := true, laidLooks := .later }
def GateTestsCardSaid : Prop := Claim7.holds Tryd.pinned (.plain (OpenSpec.ofChange gateTestsSpec)) gateTestsCard

/-- THE TIED CARD OF 'quicksilverlaw02.GateRuns'. -/
def gateRunsCard : Claim7 := { stood := { row := gateRunsRow, standIns := [], harness := (true, "a097d18c9e3002aa14216bba72af60855f39ca5d3a445ad3bdb4310cb8c20d04"), looks := false }, kinds := [], alts := [], laidByText := true, laidKinds := [.data, .data, .data], laidTests := true, laidLooks := .later }
def GateRunsCardSaid : Prop := Claim7.holds Tryd.pinned (.plain (OpenSpec.ofChange gateRunsSpec)) gateRunsCard

/-- THE TIED CARD OF 'quicksilverlaw02.GateClaims'. -/
def gateClaimsCard : Claim7 := { stood := { row := gateClaimsRow, standIns := [], harness := (true, "a097d18c9e3002aa14216bba72af60855f39ca5d3a445ad3bdb4310cb8c20d04"), looks := false }, kinds := [], alts := [], laidByText := true, laidKinds := [.data, .data, .data], laidTests := true, laidLooks := .later }
def GateClaimsCardSaid : Prop := Claim7.holds Tryd.pinned (.plain (OpenSpec.ofChange gateClaimsSpec)) gateClaimsCard

/-- THE TIED CARD OF 'quicksilverlaw02.GateShown'. -/
def gateShownCard : Claim7 := { stood := { row := gateShownRow, standIns := [], harness := (true, "a097d18c9e3002aa14216bba72af60855f39ca5d3a445ad3bdb4310cb8c20d04"), looks := false }, kinds := [], alts := [], laidByText := true, laidKinds := [.data, .data, .data], laidTests := true, laidLooks := .later }
def GateShownCardSaid : Prop := Claim7.holds Tryd.pinned (.plain (OpenSpec.ofChange gateShownSpec)) gateShownCard

/-- THE TIED CARD OF 'quicksilverlaw02.GateFewest'. -/
def gateFewestCard : Claim7 := { stood := { row := gateFewestRow, standIns := [], harness := (true, "a097d18c9e3002aa14216bba72af60855f39ca5d3a445ad3bdb4310cb8c20d04"), looks := false }, kinds := [], alts := [], laidByText := true, laidKinds := [.data, .data, .data], laidTests := true, laidLooks := .later }
def GateFewestCardSaid : Prop := Claim7.holds Tryd.pinned (.plain (OpenSpec.ofChange gateFewestSpec)) gateFewestCard

/-- THE TIED CARD OF 'quicksilverlaw02.GateCans'. -/
def gateCansCard : Claim7 := { stood := { row := gateCansRow, standIns := [], harness := (true, "a097d18c9e3002aa14216bba72af60855f39ca5d3a445ad3bdb4310cb8c20d04"), looks := false }, kinds := [], alts := [], laidByText := true, laidKinds := [.data, .data, .data], laidTests := true, laidLooks := .later }
def GateCansCardSaid : Prop := Claim7.holds Tryd.pinned (.plain (OpenSpec.ofChange gateCansSpec)) gateCansCard

/-- THE TIED CARD OF 'quicksilverlaw02.GateCan'. -/
def gateCanCard : Claim7 := { stood := { row := gateCanRow, standIns := [], harness := (true, "a097d18c9e3002aa14216bba72af60855f39ca5d3a445ad3bdb4310cb8c20d04"), looks := false }, kinds := [], alts := [], laidByText := true, laidKinds := [.data, .data, .data], laidTests := true, laidLooks := .later }
def GateCanCardSaid : Prop := Claim7.holds Tryd.pinned (.plain (OpenSpec.ofChange gateCanSpec)) gateCanCard

/-- THE TIED CARD OF 'quicksilverlaw02.GateKnown'. -/
def gateKnownCard : Claim7 := { stood := { row := gateKnownRow, standIns := [], harness := (true, "a097d18c9e3002aa14216bba72af60855f39ca5d3a445ad3bdb4310cb8c20d04"), looks := false }, kinds := [], alts := [], laidByText := true, laidKinds := [.data, .data, .data], laidTests := true, laidLooks := .later }
def GateKnownCardSaid : Prop := Claim7.holds Tryd.pinned (.plain (OpenSpec.ofChange gateKnownSpec)) gateKnownCard

/-- THE SECOND FORM's CARD OF 'quicksilverlaw02.GateChecks'. -/
def gateChecksUptoCard : Claim7 := { stood := { row := gateChecksUptoRow, standIns := [], harness := (true, "a097d18c9e3002aa14216bba72af60855f39ca5d3a445ad3bdb4310cb8c20d04"), looks := false }, kinds := [], alts := [], laidByText := true, laidKinds := [.data, .data, .data], laidTests := true, laidLooks := .later }
def GateChecksUptoCardSaid : Prop := Claim7.holds Tryd.pinned (.plain (OpenSpec.upto gateChecksSpec)) gateChecksUptoCard

/-- THE SECOND FORM's CARD OF 'quicksilverlaw02.GateDiffers'. -/
def gateDiffersUptoCard : Claim7 := { stood := { row := gateDiffersUptoRow, standIns := [], harness := (true, "a097d18c9e3002aa14216bba72af60855f39ca5d3a445ad3bdb4310cb8c20d04"), looks := false }, kinds := [], alts := [], laidByText := true, laidKinds := [.data, .data, .data], laidTests := true, laidLooks := .later }
def GateDiffersUptoCardSaid : Prop := Claim7.holds Tryd.pinned (.plain (OpenSpec.upto gateDiffersSpec)) gateDiffersUptoCard

/-- THE SECOND FORM's CARD OF 'quicksilverlaw02.GateAdds'. -/
def gateAddsUptoCard : Claim7 := { stood := { row := gateAddsUptoRow, standIns := [], harness := (true, "a097d18c9e3002aa14216bba72af60855f39ca5d3a445ad3bdb4310cb8c20d04"), looks := false }, kinds := [], alts := [], laidByText := true, laidKinds := [.data, .data, .data], laidTests := true, laidLooks := .later }
def GateAddsUptoCardSaid : Prop := Claim7.holds Tryd.pinned (.plain (OpenSpec.upto gateAddsSpec)) gateAddsUptoCard

/-- THE SECOND FORM's CARD OF 'quicksilverlaw02.GateCut'. -/
def gateCutUptoCard : Claim7 := { stood := { row := gateCutUptoRow, standIns := [], harness := (true, "a097d18c9e3002aa14216bba72af60855f39ca5d3a445ad3bdb4310cb8c20d04"), looks := false }, kinds := [], alts := [], laidByText := true, laidKinds := [.data, .data, .data], laidTests := true, laidLooks := .later }
def GateCutUptoCardSaid : Prop := Claim7.holds Tryd.pinned (.plain (OpenSpec.upto gateCutSpec)) gateCutUptoCard

/-- THE SECOND FORM's CARD OF 'quicksilverlaw02.GateSame'. -/
def gateSameUptoCard : Claim7 := { stood := { row := gateSameUptoRow, standIns := [], harness := (true, "a097d18c9e3002aa14216bba72af60855f39ca5d3a445ad3bdb4310cb8c20d04"), looks := false }, kinds := [], alts := [], laidByText := true, laidKinds := [.data, .data, .data], laidTests := true, laidLooks := .later }
def GateSameUptoCardSaid : Prop := Claim7.holds Tryd.pinned (.plain (OpenSpec.upto gateSameSpec)) gateSameUptoCard

/-- THE SECOND FORM's CARD OF 'quicksilverlaw02.GateMore'. -/
def gateMoreUptoCard : Claim7 := { stood := { row := gateMoreUptoRow, standIns := [], harness := (true, "a097d18c9e3002aa14216bba72af60855f39ca5d3a445ad3bdb4310cb8c20d04"), looks := false }, kinds := [], alts := [], laidByText := true, laidKinds := [.data, .data, .data], laidTests := true, laidLooks := .later }
def GateMoreUptoCardSaid : Prop := Claim7.holds Tryd.pinned (.plain (OpenSpec.upto gateMoreSpec)) gateMoreUptoCard

/-- THE SECOND FORM's CARD OF 'quicksilverlaw02.GateTests'. -/
def gateTestsUptoCard : Claim7 := { stood := { row := gateTestsUptoRow, standIns := [], harness := (true, "a097d18c9e3002aa14216bba72af60855f39ca5d3a445ad3bdb4310cb8c20d04"), looks := false }, kinds := [], alts := [], laidByText := true, laidKinds := [.data, .data, .data], laidTests := true, laidLooks := .later }
def GateTestsUptoCardSaid : Prop := Claim7.holds Tryd.pinned (.plain (OpenSpec.upto gateTestsSpec)) gateTestsUptoCard

/-- THE SECOND FORM's CARD OF 'quicksilverlaw02.GateRuns'. -/
def gateRunsUptoCard : Claim7 := { stood := { row := gateRunsUptoRow, standIns := [], harness := (true, "a097d18c9e3002aa14216bba72af60855f39ca5d3a445ad3bdb4310cb8c20d04"), looks := false }, kinds := [], alts := [], laidByText := true, laidKinds := [.data, .data, .data], laidTests := true, laidLooks := .later }
def GateRunsUptoCardSaid : Prop := Claim7.holds Tryd.pinned (.plain (OpenSpec.upto gateRunsSpec)) gateRunsUptoCard

/-- THE SECOND FORM's CARD OF 'quicksilverlaw02.GateClaims'. -/
def gateClaimsUptoCard : Claim7 := { stood := { row := gateClaimsUptoRow, standIns := [], harness := (true, "a097d18c9e3002aa14216bba72af60855f39ca5d3a445ad3bdb4310cb8c20d04"), looks := false }, kinds := [], alts := [], laidByText := true, laidKinds := [.data, .data, .data], laidTests := true, laidLooks := .later }
def GateClaimsUptoCardSaid : Prop := Claim7.holds Tryd.pinned (.plain (OpenSpec.upto gateClaimsSpec)) gateClaimsUptoCard

/-- THE SECOND FORM's CARD OF 'quicksilverlaw02.GateShown'. -/
def gateShownUptoCard : Claim7 := { stood := { row := gateShownUptoRow, standIns := [], harness := (true, "a097d18c9e3002aa14216bba72af60855f39ca5d3a445ad3bdb4310cb8c20d04"), looks := false }, kinds := [], alts := [], laidByText := true, laidKinds := [.data, .data, .data], laidTests := true, laidLooks := .later }
def GateShownUptoCardSaid : Prop := Claim7.holds Tryd.pinned (.plain (OpenSpec.upto gateShownSpec)) gateShownUptoCard

/-- THE SECOND FORM's CARD OF 'quicksilverlaw02.GateFewest'. -/
def gateFewestUptoCard : Claim7 := { stood := { row := gateFewestUptoRow, standIns := [], harness := (true, "a097d18c9e3002aa14216bba72af60855f39ca5d3a445ad3bdb4310cb8c20d04"), looks := false }, kinds := [], alts := [], laidByText := true, laidKinds := [.data, .data, .data], laidTests := true, laidLooks := .later }
def GateFewestUptoCardSaid : Prop := Claim7.holds Tryd.pinned (.plain (OpenSpec.upto gateFewestSpec)) gateFewestUptoCard

/-- THE SECOND FORM's CARD OF 'quicksilverlaw02.GateCans'. -/
def gateCansUptoCard : Claim7 := { stood := { row := gateCansUptoRow, standIns := [], harness := (true, "a097d18c9e3002aa14216bba72af60855f39ca5d3a445ad3bdb4310cb8c20d04"), looks := false }, kinds := [], alts := [], laidByText := true, laidKinds := [.data, .data, .data], laidTests := true, laidLooks := .later }
def GateCansUptoCardSaid : Prop := Claim7.holds Tryd.pinned (.plain (OpenSpec.upto gateCansSpec)) gateCansUptoCard

/-- THE SECOND FORM's CARD OF 'quicksilverlaw02.GateCan'. -/
def gateCanUptoCard : Claim7 := { stood := { row := gateCanUptoRow, standIns := [], harness := (true, "a097d18c9e3002aa14216bba72af60855f39ca5d3a445ad3bdb4310cb8c20d04"), looks := false }, kinds := [], alts := [], laidByText := true, laidKinds := [.data, .data, .data], laidTests := true, laidLooks := .later }
def GateCanUptoCardSaid : Prop := Claim7.holds Tryd.pinned (.plain (OpenSpec.upto gateCanSpec)) gateCanUptoCard

/-- THE SECOND FORM's CARD OF 'quicksilverlaw02.GateKnown'. -/
def gateKnownUptoCard : Claim7 := { stood := { row := gateKnownUptoRow, standIns := [], harness := (true, "a097d18c9e3002aa14216bba72af60855f39ca5d3a445ad3bdb4310cb8c20d04"), looks := false }, kinds := [], alts := [], laidByText := true, laidKinds := [.data, .data, .data], laidTests := true, laidLooks := .later }
def GateKnownUptoCardSaid : Prop := Claim7.holds Tryd.pinned (.plain (OpenSpec.upto gateKnownSpec)) gateKnownUptoCard
end Rows
end Go.Proofs.YtfghooojingdhaaDoor
