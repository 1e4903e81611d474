/-
  NARROWER THAN 'FOR EVERY INPUT', by the rows' own cells (each row's printed sentence says how): GateChecks: laid · GateDiffers: laid · GateAdds: laid · GateCut: laid · GateSame: laid · GateMore: laid · GateTests: laid · GateRuns: laid · GateClaims: laid · GateShown: laid · GateFewest: laid · GateCans: laid · GateCan: laid · GateKnown: laid.
  DERIVED. THE GIVEN ROWS OF THIS SEAT. 14 by the template 'for every input the law returns true; each argument reads behind the call as it read before'; 0 by the template 'total and deterministic' (their statements: YtfghooojingdhaaDoorTotals.lean).
  GIVEN WITH THE SEED: the statements are not yours to turn. If you find one false, say at which input.
  Laid BY PROGRAM, IN A SANDBOX (cutbox-rows.mjs): the forced cells as the released guide's own fill.sh prints them over the translation ac8d1203d205d53e… (all of the seat's roots in one cut). By AI agents, Wed Nov 11 2026. No macro, syntax, notation, axiom, sorry.
-/
import Derived.Test.YtfghooojingdhaaDoorChecked
import GoSem.Claim
import GoSem.ClaimJoined
import GoSem.ClaimMapViews
import Derived.JoinedTies
import Derived.KernelRfl
namespace Go.Proofs.YtfghooojingdhaaDoor
/- THE CELL 'sum', in the pinned program and in every row, IS THE sha256 OF THE DUMP (.gsa) THAT YtfghooojingdhaaDoorProg.lean LOADS. Nothing in Lean hashes anything: it is a label: what it is worth is what the hold of that sum in a sandbox is worth. -/
noncomputable def Tryd.pinned : Pinned := { name := "ytfghooojingdhaadoor", sum := "ac8d1203d205d53ea3beee48b9660d60eb2af53d9bb584b1bb2f57ed167c4144", checked := Tryd.checked }
namespace Rows
def none {H : Type} : Left H := { results := [], args := [] }

/- WHAT THE LISTED PACKAGE-LEVEL VARIABLES READ AS WHEN THE CALL BEGINS. Each datum BY PROGRAM (the guide's laid-datum.mjs) off the statement by which the dump's own 'gosem.cut.vars' lays the variable. In a bare row this is a premise. The card (YtfghooojingdhaaDoorCards.lean) ties it to the program's text. -/
def laid_math_bits_deBruijn32tab {H : Type} : DataW H := .agg [.lit (.int .u8 0), .lit (.int .u8 1), .lit (.int .u8 28), .lit (.int .u8 2), .lit (.int .u8 29), .lit (.int .u8 14), .lit (.int .u8 24), .lit (.int .u8 3), .lit (.int .u8 30), .lit (.int .u8 22), .lit (.int .u8 20), .lit (.int .u8 15), .lit (.int .u8 25), .lit (.int .u8 17), .lit (.int .u8 4), .lit (.int .u8 8), .lit (.int .u8 31), .lit (.int .u8 27), .lit (.int .u8 13), .lit (.int .u8 23), .lit (.int .u8 21), .lit (.int .u8 19), .lit (.int .u8 16), .lit (.int .u8 7), .lit (.int .u8 26), .lit (.int .u8 12), .lit (.int .u8 18), .lit (.int .u8 6), .lit (.int .u8 11), .lit (.int .u8 5), .lit (.int .u8 10), .lit (.int .u8 9)]
def laid_math_bits_deBruijn64tab {H : Type} : DataW H := .agg [.lit (.int .u8 0), .lit (.int .u8 1), .lit (.int .u8 56), .lit (.int .u8 2), .lit (.int .u8 57), .lit (.int .u8 49), .lit (.int .u8 28), .lit (.int .u8 3), .lit (.int .u8 61), .lit (.int .u8 58), .lit (.int .u8 42), .lit (.int .u8 50), .lit (.int .u8 38), .lit (.int .u8 29), .lit (.int .u8 17), .lit (.int .u8 4), .lit (.int .u8 62), .lit (.int .u8 47), .lit (.int .u8 59), .lit (.int .u8 36), .lit (.int .u8 45), .lit (.int .u8 43), .lit (.int .u8 51), .lit (.int .u8 22), .lit (.int .u8 53), .lit (.int .u8 39), .lit (.int .u8 33), .lit (.int .u8 30), .lit (.int .u8 24), .lit (.int .u8 18), .lit (.int .u8 12), .lit (.int .u8 5), .lit (.int .u8 63), .lit (.int .u8 55), .lit (.int .u8 48), .lit (.int .u8 27), .lit (.int .u8 60), .lit (.int .u8 41), .lit (.int .u8 37), .lit (.int .u8 16), .lit (.int .u8 46), .lit (.int .u8 35), .lit (.int .u8 44), .lit (.int .u8 21), .lit (.int .u8 52), .lit (.int .u8 32), .lit (.int .u8 23), .lit (.int .u8 11), .lit (.int .u8 54), .lit (.int .u8 26), .lit (.int .u8 40), .lit (.int .u8 15), .lit (.int .u8 34), .lit (.int .u8 20), .lit (.int .u8 31), .lit (.int .u8 10), .lit (.int .u8 25), .lit (.int .u8 14), .lit (.int .u8 19), .lit (.int .u8 9), .lit (.int .u8 13), .lit (.int .u8 8), .lit (.int .u8 7), .lit (.int .u8 6)]
def laid_internal_strconv_uint64pow10 {H : Type} : DataW H := .agg [.lit (.int .u64 1), .lit (.int .u64 10), .lit (.int .u64 100), .lit (.int .u64 1000), .lit (.int .u64 10000), .lit (.int .u64 100000), .lit (.int .u64 1000000), .lit (.int .u64 10000000), .lit (.int .u64 100000000), .lit (.int .u64 1000000000), .lit (.int .u64 10000000000), .lit (.int .u64 100000000000), .lit (.int .u64 1000000000000), .lit (.int .u64 10000000000000), .lit (.int .u64 100000000000000), .lit (.int .u64 1000000000000000), .lit (.int .u64 10000000000000000), .lit (.int .u64 100000000000000000), .lit (.int .u64 1000000000000000000), .lit (.int .u64 10000000000000000000)]

/-- 'quicksilverlaw02.GateChecks': WHATEVER THE INPUT: true; the input reads as it did. -/
def gateChecksSpec : ChangeSpec := { name := "gateChecks", fn := fun _ => fun
  | [d] => { results := [.lit (.bool true)], args := [d] }
  | _ => none }
def gateChecksRow : OpenClaim := { program := "ytfghooojingdhaadoor", sum := "ac8d1203d205d53ea3beee48b9660d60eb2af53d9bb584b1bb2f57ed167c4144", func := "quicksilver/quicksilverlaw02.GateChecks", spec := "gateChecks", unfollowed := true, recurses := true, named := ["internal/strconv.uint64pow10", "math/bits.deBruijn32tab", "math/bits.deBruijn64tab"], plainKeys := false, apart := false, laid := [("math/bits.deBruijn32tab", laid_math_bits_deBruijn32tab), ("math/bits.deBruijn64tab", laid_math_bits_deBruijn64tab), ("internal/strconv.uint64pow10", laid_internal_strconv_uint64pow10)] }
def GateChecksSaid : Prop := gateChecksRow.holds Tryd.pinned (OpenSpec.ofChange gateChecksSpec)

/-- ITS FALSE NEIGHBOUR: 'it returns false'. Refute it at one input. -/
def gateChecksWrong : ChangeSpec := { name := "gateChecks", fn := fun _ => fun
  | [d] => { results := [.lit (.bool false)], args := [d] }
  | _ => none }
def GateChecksWrongFalsely : Prop := gateChecksRow.holds Tryd.pinned (OpenSpec.ofChange gateChecksWrong)

/-- 'quicksilverlaw02.GateDiffers': WHATEVER THE INPUT: true; the input reads as it did. -/
def gateDiffersSpec : ChangeSpec := { name := "gateDiffers", fn := fun _ => fun
  | [d1, d2, d3] => { results := [.lit (.bool true)], args := [d1, d2, d3] }
  | _ => none }
def gateDiffersRow : OpenClaim := { program := "ytfghooojingdhaadoor", sum := "ac8d1203d205d53ea3beee48b9660d60eb2af53d9bb584b1bb2f57ed167c4144", func := "quicksilver/quicksilverlaw02.GateDiffers", spec := "gateDiffers", unfollowed := true, recurses := true, named := ["internal/strconv.uint64pow10", "math/bits.deBruijn32tab", "math/bits.deBruijn64tab"], plainKeys := false, apart := false, laid := [("math/bits.deBruijn32tab", laid_math_bits_deBruijn32tab), ("math/bits.deBruijn64tab", laid_math_bits_deBruijn64tab), ("internal/strconv.uint64pow10", laid_internal_strconv_uint64pow10)] }
def GateDiffersSaid : Prop := gateDiffersRow.holds Tryd.pinned (OpenSpec.ofChange gateDiffersSpec)

/-- ITS FALSE NEIGHBOUR: 'it returns false'. Refute it at one input. -/
def gateDiffersWrong : ChangeSpec := { name := "gateDiffers", fn := fun _ => fun
  | [d1, d2, d3] => { results := [.lit (.bool false)], args := [d1, d2, d3] }
  | _ => none }
def GateDiffersWrongFalsely : Prop := gateDiffersRow.holds Tryd.pinned (OpenSpec.ofChange gateDiffersWrong)

/-- 'quicksilverlaw02.GateAdds': WHATEVER THE INPUT: true; the input reads as it did. -/
def gateAddsSpec : ChangeSpec := { name := "gateAdds", fn := fun _ => fun
  | [d1, d2, d3] => { results := [.lit (.bool true)], args := [d1, d2, d3] }
  | _ => none }
def gateAddsRow : OpenClaim := { program := "ytfghooojingdhaadoor", sum := "ac8d1203d205d53ea3beee48b9660d60eb2af53d9bb584b1bb2f57ed167c4144", func := "quicksilver/quicksilverlaw02.GateAdds", spec := "gateAdds", unfollowed := true, recurses := true, named := ["internal/strconv.uint64pow10", "math/bits.deBruijn32tab", "math/bits.deBruijn64tab"], plainKeys := false, apart := false, laid := [("math/bits.deBruijn32tab", laid_math_bits_deBruijn32tab), ("math/bits.deBruijn64tab", laid_math_bits_deBruijn64tab), ("internal/strconv.uint64pow10", laid_internal_strconv_uint64pow10)] }
def GateAddsSaid : Prop := gateAddsRow.holds Tryd.pinned (OpenSpec.ofChange gateAddsSpec)

/-- ITS FALSE NEIGHBOUR: 'it returns false'. Refute it at one input. -/
def gateAddsWrong : ChangeSpec := { name := "gateAdds", fn := fun _ => fun
  | [d1, d2, d3] => { results := [.lit (.bool false)], args := [d1, d2, d3] }
  | _ => none }
def GateAddsWrongFalsely : Prop := gateAddsRow.holds Tryd.pinned (OpenSpec.ofChange gateAddsWrong)

/-- 'quicksilverlaw02.GateCut': WHATEVER THE INPUT: true; the input reads as it did. -/
def gateCutSpec : ChangeSpec := { name := "gateCut", fn := fun _ => fun
  | [d1, d2, d3] => { results := [.lit (.bool true)], args := [d1, d2, d3] }
  | _ => none }
def gateCutRow : OpenClaim := { program := "ytfghooojingdhaadoor", sum := "ac8d1203d205d53ea3beee48b9660d60eb2af53d9bb584b1bb2f57ed167c4144", func := "quicksilver/quicksilverlaw02.GateCut", spec := "gateCut", unfollowed := true, recurses := true, named := ["internal/strconv.uint64pow10", "math/bits.deBruijn32tab", "math/bits.deBruijn64tab"], plainKeys := false, apart := false, laid := [("math/bits.deBruijn32tab", laid_math_bits_deBruijn32tab), ("math/bits.deBruijn64tab", laid_math_bits_deBruijn64tab), ("internal/strconv.uint64pow10", laid_internal_strconv_uint64pow10)] }
def GateCutSaid : Prop := gateCutRow.holds Tryd.pinned (OpenSpec.ofChange gateCutSpec)

/-- ITS FALSE NEIGHBOUR: 'it returns false'. Refute it at one input. -/
def gateCutWrong : ChangeSpec := { name := "gateCut", fn := fun _ => fun
  | [d1, d2, d3] => { results := [.lit (.bool false)], args := [d1, d2, d3] }
  | _ => none }
def GateCutWrongFalsely : Prop := gateCutRow.holds Tryd.pinned (OpenSpec.ofChange gateCutWrong)

/-- 'quicksilverlaw02.GateSame': WHATEVER THE INPUT: true; the input reads as it did. -/
def gateSameSpec : ChangeSpec := { name := "gateSame", fn := fun _ => fun
  | [d1, d2, d3] => { results := [.lit (.bool true)], args := [d1, d2, d3] }
  | _ => none }
def gateSameRow : OpenClaim := { program := "ytfghooojingdhaadoor", sum := "ac8d1203d205d53ea3beee48b9660d60eb2af53d9bb584b1bb2f57ed167c4144", func := "quicksilver/quicksilverlaw02.GateSame", spec := "gateSame", unfollowed := true, recurses := true, named := ["internal/strconv.uint64pow10", "math/bits.deBruijn32tab", "math/bits.deBruijn64tab"], plainKeys := false, apart := false, laid := [("math/bits.deBruijn32tab", laid_math_bits_deBruijn32tab), ("math/bits.deBruijn64tab", laid_math_bits_deBruijn64tab), ("internal/strconv.uint64pow10", laid_internal_strconv_uint64pow10)] }
def GateSameSaid : Prop := gateSameRow.holds Tryd.pinned (OpenSpec.ofChange gateSameSpec)

/-- ITS FALSE NEIGHBOUR: 'it returns false'. Refute it at one input. -/
def gateSameWrong : ChangeSpec := { name := "gateSame", fn := fun _ => fun
  | [d1, d2, d3] => { results := [.lit (.bool false)], args := [d1, d2, d3] }
  | _ => none }
def GateSameWrongFalsely : Prop := gateSameRow.holds Tryd.pinned (OpenSpec.ofChange gateSameWrong)

/-- 'quicksilverlaw02.GateMore': WHATEVER THE INPUT: true; the input reads as it did. -/
def gateMoreSpec : ChangeSpec := { name := "gateMore", fn := fun _ => fun
  | [d1, d2, d3] => { results := [.lit (.bool true)], args := [d1, d2, d3] }
  | _ => none }
def gateMoreRow : OpenClaim := { program := "ytfghooojingdhaadoor", sum := "ac8d1203d205d53ea3beee48b9660d60eb2af53d9bb584b1bb2f57ed167c4144", func := "quicksilver/quicksilverlaw02.GateMore", spec := "gateMore", unfollowed := true, recurses := true, named := ["internal/strconv.uint64pow10", "math/bits.deBruijn32tab", "math/bits.deBruijn64tab"], plainKeys := false, apart := false, laid := [("math/bits.deBruijn32tab", laid_math_bits_deBruijn32tab), ("math/bits.deBruijn64tab", laid_math_bits_deBruijn64tab), ("internal/strconv.uint64pow10", laid_internal_strconv_uint64pow10)] }
def GateMoreSaid : Prop := gateMoreRow.holds Tryd.pinned (OpenSpec.ofChange gateMoreSpec)

/-- ITS FALSE NEIGHBOUR: 'it returns false'. Refute it at one input. -/
def gateMoreWrong : ChangeSpec := { name := "gateMore", fn := fun _ => fun
  | [d1, d2, d3] => { results := [.lit (.bool false)], args := [d1, d2, d3] }
  | _ => none }
def GateMoreWrongFalsely : Prop := gateMoreRow.holds Tryd.pinned (OpenSpec.ofChange gateMoreWrong)

/-- 'quicksilverlaw02.GateTests': WHATEVER THE INPUT: true; the input reads as it did. -/
def gateTestsSpec : ChangeSpec := { name := "gateTests", fn := fun _ => fun
  | [d1, d2, d3] => { results := [.lit (.bool true)], args := [d1, d2, d3] }
  | _ => none }
def gateTestsRow : OpenClaim := { program := "ytfghooojingdhaadoor", sum := "ac8d1203d205d53ea3beee48b9660d60eb2af53d9bb584b1bb2f57ed167c4144", func := "quicksilver/quicksilverlaw02.GateTests", spec := "gateTests", unfollowed := true, recurses := true, named := ["internal/strconv.uint64pow10", "math/bits.deBruijn32tab", "math/bits.deBruijn64tab"], plainKeys := false, apart := false, laid := [("math/bits.deBruijn32tab", laid_math_bits_deBruijn32tab), ("math/bits.deBruijn64tab", laid_math_bits_deBruijn64tab), ("internal/strconv.uint64pow10", laid_internal_strconv_uint64pow10)] }
def GateTestsSaid : Prop := gateTestsRow.holds Tryd.pinned (OpenSpec.ofChange gateTestsSpec)

/-- ITS FALSE NEIGHBOUR: 'it returns false'. Refute it at one input. -/
def gateTestsWrong : ChangeSpec := { name := "gateTests", fn := fun _ => fun
  | [d1, d2, d3] => { results := [.lit (.bool false)], args := [d1, d2, d3] }
  | _ => none }
def GateTestsWrongFalsely : Prop := gateTestsRow.holds Tryd.pinned (OpenSpec.ofChange gateTestsWrong)

/-- 'quicksilverlaw02.GateRuns': WHATEVER THE INPUT: true; the input reads as it did. -/
def gateRunsSpec : ChangeSpec := { name := "gateRuns", fn := fun _ => fun
  | [d1, d2] => { results := [.lit (.bool true)], args := [d1, d2] }
  | _ => none }
def gateRunsRow : OpenClaim := { program := "ytfghooojingdhaadoor", sum := "ac8d1203d205d53ea3beee48b9660d60eb2af53d9bb584b1bb2f57ed167c4144", func := "quicksilver/quicksilverlaw02.GateRuns", spec := "gateRuns", unfollowed := true, recurses := true, named := ["internal/strconv.uint64pow10", "math/bits.deBruijn32tab", "math/bits.deBruijn64tab"], plainKeys := false, apart := false, laid := [("math/bits.deBruijn32tab", laid_math_bits_deBruijn32tab), ("math/bits.deBruijn64tab", laid_math_bits_deBruijn64tab), ("internal/strconv.uint64pow10", laid_internal_strconv_uint64pow10)] }
def GateRunsSaid : Prop := gateRunsRow.holds Tryd.pinned (OpenSpec.ofChange gateRunsSpec)

/-- ITS FALSE NEIGHBOUR: 'it returns false'. Refute it at one input. -/
def gateRunsWrong : ChangeSpec := { name := "gateRuns", fn := fun _ => fun
  | [d1, d2] => { results := [.lit (.bool false)], args := [d1, d2] }
  | _ => none }
def GateRunsWrongFalsely : Prop := gateRunsRow.holds Tryd.pinned (OpenSpec.ofChange gateRunsWrong)

/-- 'quicksilverlaw02.GateClaims': WHATEVER THE INPUT: true; the input reads as it did. -/
def gateClaimsSpec : ChangeSpec := { name := "gateClaims", fn := fun _ => fun
  | [d1, d2, d3] => { results := [.lit (.bool true)], args := [d1, d2, d3] }
  | _ => none }
def gateClaimsRow : OpenClaim := { program := "ytfghooojingdhaadoor", sum := "ac8d1203d205d53ea3beee48b9660d60eb2af53d9bb584b1bb2f57ed167c4144", func := "quicksilver/quicksilverlaw02.GateClaims", spec := "gateClaims", unfollowed := true, recurses := true, named := ["internal/strconv.uint64pow10", "math/bits.deBruijn32tab", "math/bits.deBruijn64tab"], plainKeys := false, apart := false, laid := [("math/bits.deBruijn32tab", laid_math_bits_deBruijn32tab), ("math/bits.deBruijn64tab", laid_math_bits_deBruijn64tab), ("internal/strconv.uint64pow10", laid_internal_strconv_uint64pow10)] }
def GateClaimsSaid : Prop := gateClaimsRow.holds Tryd.pinned (OpenSpec.ofChange gateClaimsSpec)

/-- ITS FALSE NEIGHBOUR: 'it returns false'. Refute it at one input. -/
def gateClaimsWrong : ChangeSpec := { name := "gateClaims", fn := fun _ => fun
  | [d1, d2, d3] => { results := [.lit (.bool false)], args := [d1, d2, d3] }
  | _ => none }
def GateClaimsWrongFalsely : Prop := gateClaimsRow.holds Tryd.pinned (OpenSpec.ofChange gateClaimsWrong)

/-- 'quicksilverlaw02.GateShown': WHATEVER THE INPUT: true; the input reads as it did. -/
def gateShownSpec : ChangeSpec := { name := "gateShown", fn := fun _ => fun
  | [d1, d2, d3] => { results := [.lit (.bool true)], args := [d1, d2, d3] }
  | _ => none }
def gateShownRow : OpenClaim := { program := "ytfghooojingdhaadoor", sum := "ac8d1203d205d53ea3beee48b9660d60eb2af53d9bb584b1bb2f57ed167c4144", func := "quicksilver/quicksilverlaw02.GateShown", spec := "gateShown", unfollowed := true, recurses := true, named := ["internal/strconv.uint64pow10", "math/bits.deBruijn32tab", "math/bits.deBruijn64tab"], plainKeys := false, apart := false, laid := [("math/bits.deBruijn32tab", laid_math_bits_deBruijn32tab), ("math/bits.deBruijn64tab", laid_math_bits_deBruijn64tab), ("internal/strconv.uint64pow10", laid_internal_strconv_uint64pow10)] }
def GateShownSaid : Prop := gateShownRow.holds Tryd.pinned (OpenSpec.ofChange gateShownSpec)

/-- ITS FALSE NEIGHBOUR: 'it returns false'. Refute it at one input. -/
def gateShownWrong : ChangeSpec := { name := "gateShown", fn := fun _ => fun
  | [d1, d2, d3] => { results := [.lit (.bool false)], args := [d1, d2, d3] }
  | _ => none }
def GateShownWrongFalsely : Prop := gateShownRow.holds Tryd.pinned (OpenSpec.ofChange gateShownWrong)

/-- 'quicksilverlaw02.GateFewest': WHATEVER THE INPUT: true; the input reads as it did. -/
def gateFewestSpec : ChangeSpec := { name := "gateFewest", fn := fun _ => fun
  | [d1, d2, d3] => { results := [.lit (.bool true)], args := [d1, d2, d3] }
  | _ => none }
def gateFewestRow : OpenClaim := { program := "ytfghooojingdhaadoor", sum := "ac8d1203d205d53ea3beee48b9660d60eb2af53d9bb584b1bb2f57ed167c4144", func := "quicksilver/quicksilverlaw02.GateFewest", spec := "gateFewest", unfollowed := true, recurses := true, named := ["internal/strconv.uint64pow10", "math/bits.deBruijn32tab", "math/bits.deBruijn64tab"], plainKeys := false, apart := false, laid := [("math/bits.deBruijn32tab", laid_math_bits_deBruijn32tab), ("math/bits.deBruijn64tab", laid_math_bits_deBruijn64tab), ("internal/strconv.uint64pow10", laid_internal_strconv_uint64pow10)] }
def GateFewestSaid : Prop := gateFewestRow.holds Tryd.pinned (OpenSpec.ofChange gateFewestSpec)

/-- ITS FALSE NEIGHBOUR: 'it returns false'. Refute it at one input. -/
def gateFewestWrong : ChangeSpec := { name := "gateFewest", fn := fun _ => fun
  | [d1, d2, d3] => { results := [.lit (.bool false)], args := [d1, d2, d3] }
  | _ => none }
def GateFewestWrongFalsely : Prop := gateFewestRow.holds Tryd.pinned (OpenSpec.ofChange gateFewestWrong)

/-- 'quicksilverlaw02.GateCans': WHATEVER THE INPUT: true; the input reads as it did. -/
def gateCansSpec : ChangeSpec := { name := "gateCans", fn := fun _ => fun
  | [d1, d2, d3] => { results := [.lit (.bool true)], args := [d1, d2, d3] }
  | _ => none }
def gateCansRow : OpenClaim := { program := "ytfghooojingdhaadoor", sum := "ac8d1203d205d53ea3beee48b9660d60eb2af53d9bb584b1bb2f57ed167c4144", func := "quicksilver/quicksilverlaw02.GateCans", spec := "gateCans", unfollowed := true, recurses := true, named := ["internal/strconv.uint64pow10", "math/bits.deBruijn32tab", "math/bits.deBruijn64tab"], plainKeys := false, apart := false, laid := [("math/bits.deBruijn32tab", laid_math_bits_deBruijn32tab), ("math/bits.deBruijn64tab", laid_math_bits_deBruijn64tab), ("internal/strconv.uint64pow10", laid_internal_strconv_uint64pow10)] }
def GateCansSaid : Prop := gateCansRow.holds Tryd.pinned (OpenSpec.ofChange gateCansSpec)

/-- ITS FALSE NEIGHBOUR: 'it returns false'. Refute it at one input. -/
def gateCansWrong : ChangeSpec := { name := "gateCans", fn := fun _ => fun
  | [d1, d2, d3] => { results := [.lit (.bool false)], args := [d1, d2, d3] }
  | _ => none }
def GateCansWrongFalsely : Prop := gateCansRow.holds Tryd.pinned (OpenSpec.ofChange gateCansWrong)

/-- 'quicksilverlaw02.GateCan': WHATEVER THE INPUT: true; the input reads as it did. -/
def gateCanSpec : ChangeSpec := { name := "gateCan", fn := fun _ => fun
  | [d1, d2, d3] => { results := [.lit (.bool true)], args := [d1, d2, d3] }
  | _ => none }
def gateCanRow : OpenClaim := { program := "ytfghooojingdhaadoor", sum := "ac8d1203d205d53ea3beee48b9660d60eb2af53d9bb584b1bb2f57ed167c4144", func := "quicksilver/quicksilverlaw02.GateCan", spec := "gateCan", unfollowed := true, recurses := true, named := ["internal/strconv.uint64pow10", "math/bits.deBruijn32tab", "math/bits.deBruijn64tab"], plainKeys := false, apart := false, laid := [("math/bits.deBruijn32tab", laid_math_bits_deBruijn32tab), ("math/bits.deBruijn64tab", laid_math_bits_deBruijn64tab), ("internal/strconv.uint64pow10", laid_internal_strconv_uint64pow10)] }
def GateCanSaid : Prop := gateCanRow.holds Tryd.pinned (OpenSpec.ofChange gateCanSpec)

/-- ITS FALSE NEIGHBOUR: 'it returns false'. Refute it at one input. -/
def gateCanWrong : ChangeSpec := { name := "gateCan", fn := fun _ => fun
  | [d1, d2, d3] => { results := [.lit (.bool false)], args := [d1, d2, d3] }
  | _ => none }
def GateCanWrongFalsely : Prop := gateCanRow.holds Tryd.pinned (OpenSpec.ofChange gateCanWrong)

/-- 'quicksilverlaw02.GateKnown': WHATEVER THE INPUT: true; the input reads as it did. -/
def gateKnownSpec : ChangeSpec := { name := "gateKnown", fn := fun _ => fun
  | [] => { results := [.lit (.bool true)], args := [] }
  | _ => none }
def gateKnownRow : OpenClaim := { program := "ytfghooojingdhaadoor", sum := "ac8d1203d205d53ea3beee48b9660d60eb2af53d9bb584b1bb2f57ed167c4144", func := "quicksilver/quicksilverlaw02.GateKnown", spec := "gateKnown", unfollowed := true, recurses := true, named := ["internal/strconv.uint64pow10", "math/bits.deBruijn32tab", "math/bits.deBruijn64tab"], plainKeys := false, apart := false, laid := [("math/bits.deBruijn32tab", laid_math_bits_deBruijn32tab), ("math/bits.deBruijn64tab", laid_math_bits_deBruijn64tab), ("internal/strconv.uint64pow10", laid_internal_strconv_uint64pow10)] }
def GateKnownSaid : Prop := gateKnownRow.holds Tryd.pinned (OpenSpec.ofChange gateKnownSpec)

/-- ITS FALSE NEIGHBOUR: 'it returns false'. Refute it at one input. -/
def gateKnownWrong : ChangeSpec := { name := "gateKnown", fn := fun _ => fun
  | [] => { results := [.lit (.bool false)], args := [] }
  | _ => none }
def GateKnownWrongFalsely : Prop := gateKnownRow.holds Tryd.pinned (OpenSpec.ofChange gateKnownWrong)

/- THE SECOND FORM. 'bulk': how many values and letters a reading holds, each counted each time it is reached (what is shared counts as often as it is met; a slice's spare places count too). A statement '..UptoSaid' is the law's where the arguments, and the package variables that the reading takes, are together of bulk at most 1048576: NARROWER than '..Said'. Prove '..Said' where nothing that the law and all that it calls make is longer than what came in: it says more and counts as full. Else prove '..UptoSaid'. A law counts once. -/
mutual
def uptoBulk {H : Type} : DataW H → Nat
  | .lit (.string bytes) => bytes.length + 1
  | .lit _ => 1
  | .nil => 1
  | .ptr d => uptoBulk d + 1
  | .slice elems spare => uptoBulkAll elems + uptoBulkAll spare + 1
  | .agg parts => uptoBulkAll parts + 1
  | .iface _ d => uptoBulk d + 1
  | .map entries => uptoBulkEntries entries + 1
  | .held _ => 1
def uptoBulkAll {H : Type} : List (DataW H) → Nat
  | [] => 0
  | d :: r => uptoBulk d + uptoBulkAll r
def uptoBulkEntries {H : Type} : List (Lit × DataW H) → Nat
  | [] => 0
  | x :: r => uptoBulkEntry x + uptoBulkEntries r
def uptoBulkEntry {H : Type} : Lit × DataW H → Nat
  | (.string bytes, d) => bytes.length + uptoBulk d + 1
  | (_, d) => uptoBulk d + 1
 end
def uptoSmall : (H : Type) → List (DataW H) → Bool := fun _ ds => decide (uptoBulkAll ds ≤ 1048576)
def OpenSpec.upto (s : _root_.Go.ChangeSpec) : _root_.Go.OpenSpec := { _root_.Go.OpenSpec.ofChange s with cond := some uptoSmall }

/-- 'quicksilverlaw02.GateChecks', WHERE WHAT IT READS IS OF BULK AT MOST 1048576: true; the input reads as it did. -/
def gateChecksUptoRow : OpenClaim := { program := "ytfghooojingdhaadoor", sum := "ac8d1203d205d53ea3beee48b9660d60eb2af53d9bb584b1bb2f57ed167c4144", func := "quicksilver/quicksilverlaw02.GateChecks", spec := "gateChecks", unfollowed := true, recurses := true, named := ["internal/strconv.uint64pow10", "math/bits.deBruijn32tab", "math/bits.deBruijn64tab"], plainKeys := false, apart := false, laid := [("math/bits.deBruijn32tab", laid_math_bits_deBruijn32tab), ("math/bits.deBruijn64tab", laid_math_bits_deBruijn64tab), ("internal/strconv.uint64pow10", laid_internal_strconv_uint64pow10)], narrowed := true }
def GateChecksUptoSaid : Prop := gateChecksUptoRow.holds Tryd.pinned (OpenSpec.upto gateChecksSpec)

/-- 'quicksilverlaw02.GateDiffers', WHERE WHAT IT READS IS OF BULK AT MOST 1048576: true; the input reads as it did. -/
def gateDiffersUptoRow : OpenClaim := { program := "ytfghooojingdhaadoor", sum := "ac8d1203d205d53ea3beee48b9660d60eb2af53d9bb584b1bb2f57ed167c4144", func := "quicksilver/quicksilverlaw02.GateDiffers", spec := "gateDiffers", unfollowed := true, recurses := true, named := ["internal/strconv.uint64pow10", "math/bits.deBruijn32tab", "math/bits.deBruijn64tab"], plainKeys := false, apart := false, laid := [("math/bits.deBruijn32tab", laid_math_bits_deBruijn32tab), ("math/bits.deBruijn64tab", laid_math_bits_deBruijn64tab), ("internal/strconv.uint64pow10", laid_internal_strconv_uint64pow10)], narrowed := true }
def GateDiffersUptoSaid : Prop := gateDiffersUptoRow.holds Tryd.pinned (OpenSpec.upto gateDiffersSpec)

/-- 'quicksilverlaw02.GateAdds', WHERE WHAT IT READS IS OF BULK AT MOST 1048576: true; the input reads as it did. -/
def gateAddsUptoRow : OpenClaim := { program := "ytfghooojingdhaadoor", sum := "ac8d1203d205d53ea3beee48b9660d60eb2af53d9bb584b1bb2f57ed167c4144", func := "quicksilver/quicksilverlaw02.GateAdds", spec := "gateAdds", unfollowed := true, recurses := true, named := ["internal/strconv.uint64pow10", "math/bits.deBruijn32tab", "math/bits.deBruijn64tab"], plainKeys := false, apart := false, laid := [("math/bits.deBruijn32tab", laid_math_bits_deBruijn32tab), ("math/bits.deBruijn64tab", laid_math_bits_deBruijn64tab), ("internal/strconv.uint64pow10", laid_internal_strconv_uint64pow10)], narrowed := true }
def GateAddsUptoSaid : Prop := gateAddsUptoRow.holds Tryd.pinned (OpenSpec.upto gateAddsSpec)

/-- 'quicksilverlaw02.GateCut', WHERE WHAT IT READS IS OF BULK AT MOST 1048576: true; the input reads as it did. -/
def gateCutUptoRow : OpenClaim := { program := "ytfghooojingdhaadoor", sum := "ac8d1203d205d53ea3beee48b9660d60eb2af53d9bb584b1bb2f57ed167c4144", func := "quicksilver/quicksilverlaw02.GateCut", spec := "gateCut", unfollowed := true, recurses := true, named := ["internal/strconv.uint64pow10", "math/bits.deBruijn32tab", "math/bits.deBruijn64tab"], plainKeys := false, apart := false, laid := [("math/bits.deBruijn32tab", laid_math_bits_deBruijn32tab), ("math/bits.deBruijn64tab", laid_math_bits_deBruijn64tab), ("internal/strconv.uint64pow10", laid_internal_strconv_uint64pow10)], narrowed := true }
def GateCutUptoSaid : Prop := gateCutUptoRow.holds Tryd.pinned (OpenSpec.upto gateCutSpec)

/-- 'quicksilverlaw02.GateSame', WHERE WHAT IT READS IS OF BULK AT MOST 1048576: true; the input reads as it did. -/
def gateSameUptoRow : OpenClaim := { program := "ytfghooojingdhaadoor", sum := "ac8d1203d205d53ea3beee48b9660d60eb2af53d9bb584b1bb2f57ed167c4144", func := "quicksilver/quicksilverlaw02.GateSame", spec := "gateSame", unfollowed := true, recurses := true, named := ["internal/strconv.uint64pow10", "math/bits.deBruijn32tab", "math/bits.deBruijn64tab"], plainKeys := false, apart := false, laid := [("math/bits.deBruijn32tab", laid_math_bits_deBruijn32tab), ("math/bits.deBruijn64tab", laid_math_bits_deBruijn64tab), ("internal/strconv.uint64pow10", laid_internal_strconv_uint64pow10)], narrowed := true }
def GateSameUptoSaid : Prop := gateSameUptoRow.holds Tryd.pinned (OpenSpec.upto gateSameSpec)

/-- 'quicksilverlaw02.GateMore', WHERE WHAT IT READS IS OF BULK AT MOST 1048576: true; the input reads as it did. -/
def gateMoreUptoRow : OpenClaim := { program := "ytfghooojingdhaadoor", sum := "ac8d1203d205d53ea3beee48b9660d60eb2af53d9bb584b1bb2f57ed167c4144", func := "quicksilver/quicksilverlaw02.GateMore", spec := "gateMore", unfollowed := true, recurses := true, named := ["internal/strconv.uint64pow10", "math/bits.deBruijn32tab", "math/bits.deBruijn64tab"], plainKeys := false, apart := false, laid := [("math/bits.deBruijn32tab", laid_math_bits_deBruijn32tab), ("math/bits.deBruijn64tab", laid_math_bits_deBruijn64tab), ("internal/strconv.uint64pow10", laid_internal_strconv_uint64pow10)], narrowed := true }
def GateMoreUptoSaid : Prop := gateMoreUptoRow.holds Tryd.pinned (OpenSpec.upto gateMoreSpec)

/-- 'quicksilverlaw02.GateTests', WHERE WHAT IT READS IS OF BULK AT MOST 1048576: true; the input reads as it did. -/
def gateTestsUptoRow : OpenClaim := { program := "ytfghooojingdhaadoor", sum := "ac8d1203d205d53ea3beee48b9660d60eb2af53d9bb584b1bb2f57ed167c4144", func := "quicksilver/quicksilverlaw02.GateTests", spec := "gateTests", unfollowed := true, recurses := true, named := ["internal/strconv.uint64pow10", "math/bits.deBruijn32tab", "math/bits.deBruijn64tab"], plainKeys := false, apart := false, laid := [("math/bits.deBruijn32tab", laid_math_bits_deBruijn32tab), ("math/bits.deBruijn64tab", laid_math_bits_deBruijn64tab), ("internal/strconv.uint64pow10", laid_internal_strconv_uint64pow10)], narrowed := true }
def GateTestsUptoSaid : Prop := gateTestsUptoRow.holds Tryd.pinned (OpenSpec.upto gateTestsSpec)

/-- 'quicksilverlaw02.GateRuns', WHERE WHAT IT READS IS OF BULK AT MOST 1048576: true; the input reads as it did. -/
def gateRunsUptoRow : OpenClaim := { program := "ytfghooojingdhaadoor", sum := "ac8d1203d205d53ea3beee48b9660d60eb2af53d9bb584b1bb2f57ed167c4144", func := "quicksilver/quicksilverlaw02.GateRuns", spec := "gateRuns", unfollowed := true, recurses := true, named := ["internal/strconv.uint64pow10", "math/bits.deBruijn32tab", "math/bits.deBruijn64tab"], plainKeys := false, apart := false, laid := [("math/bits.deBruijn32tab", laid_math_bits_deBruijn32tab), ("math/bits.deBruijn64tab", laid_math_bits_deBruijn64tab), ("internal/strconv.uint64pow10", laid_internal_strconv_uint64pow10)], narrowed := true }
def GateRunsUptoSaid : Prop := gateRunsUptoRow.holds Tryd.pinned (OpenSpec.upto gateRunsSpec)

/-- 'quicksilverlaw02.GateClaims', WHERE WHAT IT READS IS OF BULK AT MOST 1048576: true; the input reads as it did. -/
def gateClaimsUptoRow : OpenClaim := { program := "ytfghooojingdhaadoor", sum := "ac8d1203d205d53ea3beee48b9660d60eb2af53d9bb584b1bb2f57ed167c4144", func := "quicksilver/quicksilverlaw02.GateClaims", spec := "gateClaims", unfollowed := true, recurses := true, named := ["internal/strconv.uint64pow10", "math/bits.deBruijn32tab", "math/bits.deBruijn64tab"], plainKeys := false, apart := false, laid := [("math/bits.deBruijn32tab", laid_math_bits_deBruijn32tab), ("math/bits.deBruijn64tab", laid_math_bits_deBruijn64tab), ("internal/strconv.uint64pow10", laid_internal_strconv_uint64pow10)], narrowed := true }
def GateClaimsUptoSaid : Prop := gateClaimsUptoRow.holds Tryd.pinned (OpenSpec.upto gateClaimsSpec)

/-- 'quicksilverlaw02.GateShown', WHERE WHAT IT READS IS OF BULK AT MOST 1048576: true; the input reads as it did. -/
def gateShownUptoRow : OpenClaim := { program := "ytfghooojingdhaadoor", sum := "ac8d1203d205d53ea3beee48b9660d60eb2af53d9bb584b1bb2f57ed167c4144", func := "quicksilver/quicksilverlaw02.GateShown", spec := "gateShown", unfollowed := true, recurses := true, named := ["internal/strconv.uint64pow10", "math/bits.deBruijn32tab", "math/bits.deBruijn64tab"], plainKeys := false, apart := false, laid := [("math/bits.deBruijn32tab", laid_math_bits_deBruijn32tab), ("math/bits.deBruijn64tab", laid_math_bits_deBruijn64tab), ("internal/strconv.uint64pow10", laid_internal_strconv_uint64pow10)], narrowed := true }
def GateShownUptoSaid : Prop := gateShownUptoRow.holds Tryd.pinned (OpenSpec.upto gateShownSpec)

/-- 'quicksilverlaw02.GateFewest', WHERE WHAT IT READS IS OF BULK AT MOST 1048576: true; the input reads as it did. -/
def gateFewestUptoRow : OpenClaim := { program := "ytfghooojingdhaadoor", sum := "ac8d1203d205d53ea3beee48b9660d60eb2af53d9bb584b1bb2f57ed167c4144", func := "quicksilver/quicksilverlaw02.GateFewest", spec := "gateFewest", unfollowed := true, recurses := true, named := ["internal/strconv.uint64pow10", "math/bits.deBruijn32tab", "math/bits.deBruijn64tab"], plainKeys := false, apart := false, laid := [("math/bits.deBruijn32tab", laid_math_bits_deBruijn32tab), ("math/bits.deBruijn64tab", laid_math_bits_deBruijn64tab), ("internal/strconv.uint64pow10", laid_internal_strconv_uint64pow10)], narrowed := true }
def GateFewestUptoSaid : Prop := gateFewestUptoRow.holds Tryd.pinned (OpenSpec.upto gateFewestSpec)

/-- 'quicksilverlaw02.GateCans', WHERE WHAT IT READS IS OF BULK AT MOST 1048576: true; the input reads as it did. -/
def gateCansUptoRow : OpenClaim := { program := "ytfghooojingdhaadoor", sum := "ac8d1203d205d53ea3beee48b9660d60eb2af53d9bb584b1bb2f57ed167c4144", func := "quicksilver/quicksilverlaw02.GateCans", spec := "gateCans", unfollowed := true, recurses := true, named := ["internal/strconv.uint64pow10", "math/bits.deBruijn32tab", "math/bits.deBruijn64tab"], plainKeys := false, apart := false, laid := [("math/bits.deBruijn32tab", laid_math_bits_deBruijn32tab), ("math/bits.deBruijn64tab", laid_math_bits_deBruijn64tab), ("internal/strconv.uint64pow10", laid_internal_strconv_uint64pow10)], narrowed := true }
def GateCansUptoSaid : Prop := gateCansUptoRow.holds Tryd.pinned (OpenSpec.upto gateCansSpec)

/-- 'quicksilverlaw02.GateCan', WHERE WHAT IT READS IS OF BULK AT MOST 1048576: true; the input reads as it did. -/
def gateCanUptoRow : OpenClaim := { program := "ytfghooojingdhaadoor", sum := "ac8d1203d205d53ea3beee48b9660d60eb2af53d9bb584b1bb2f57ed167c4144", func := "quicksilver/quicksilverlaw02.GateCan", spec := "gateCan", unfollowed := true, recurses := true, named := ["internal/strconv.uint64pow10", "math/bits.deBruijn32tab", "math/bits.deBruijn64tab"], plainKeys := false, apart := false, laid := [("math/bits.deBruijn32tab", laid_math_bits_deBruijn32tab), ("math/bits.deBruijn64tab", laid_math_bits_deBruijn64tab), ("internal/strconv.uint64pow10", laid_internal_strconv_uint64pow10)], narrowed := true }
def GateCanUptoSaid : Prop := gateCanUptoRow.holds Tryd.pinned (OpenSpec.upto gateCanSpec)

/-- 'quicksilverlaw02.GateKnown', WHERE WHAT IT READS IS OF BULK AT MOST 1048576: true; the input reads as it did. -/
def gateKnownUptoRow : OpenClaim := { program := "ytfghooojingdhaadoor", sum := "ac8d1203d205d53ea3beee48b9660d60eb2af53d9bb584b1bb2f57ed167c4144", func := "quicksilver/quicksilverlaw02.GateKnown", spec := "gateKnown", unfollowed := true, recurses := true, named := ["internal/strconv.uint64pow10", "math/bits.deBruijn32tab", "math/bits.deBruijn64tab"], plainKeys := false, apart := false, laid := [("math/bits.deBruijn32tab", laid_math_bits_deBruijn32tab), ("math/bits.deBruijn64tab", laid_math_bits_deBruijn64tab), ("internal/strconv.uint64pow10", laid_internal_strconv_uint64pow10)], narrowed := true }
def GateKnownUptoSaid : Prop := gateKnownUptoRow.holds Tryd.pinned (OpenSpec.upto gateKnownSpec)

end Rows
end Go.Proofs.YtfghooojingdhaaDoor
