/-
  NARROWER THAN 'FOR EVERY INPUT', by the rows' own cells (each row's printed sentence says how): FormulaTexts: laid · FormulaEvals: laid · FormulaCompiles: laid · FormulaCalcs: laid · FormulaKnown: laid · FormulaBack: laid · FormulaWithin: laid · FormulaWider: laid · FormulaFloats: laid · FormulaSums: laid · FormulaLaws: laid · FormulaCut: laid.
  DERIVED. THE GIVEN ROWS OF THIS SEAT. 12 by the template 'for every input the law returns true; each argument reads behind the call as it read before'; 0 by the template 'total and deterministic' (their statements: YtmceekhgnfpamaaGreatDoorTotals.lean).
  GIVEN WITH THE SEED: the statements are not yours to turn. If you find one false, say at which input.
  Laid BY PROGRAM, IN A SANDBOX (cutbox-rows.mjs): the forced cells as the released guide's own fill.sh prints them over the translation 7dd3229ffb62bfb8… (all of the seat's roots in one cut). By AI agents, Wed Nov 11 2026. No macro, syntax, notation, axiom, sorry.
-/
import Derived.Test.YtmceekhgnfpamaaGreatDoorChecked
import GoSem.Claim
import GoSem.ClaimJoined
import GoSem.ClaimMapViews
import Derived.JoinedTies
import Derived.KernelRfl
namespace Go.Proofs.YtmceekhgnfpamaaGreatDoor
/- THE CELL 'sum', in the pinned program and in every row, IS THE sha256 OF THE DUMP (.gsa) THAT YtmceekhgnfpamaaGreatDoorProg.lean LOADS. Nothing in Lean hashes anything: it is a label: what it is worth is what the hold of that sum in a sandbox is worth. -/
noncomputable def Tryz.pinned : Pinned := { name := "ytmceekhgnfpamaagreatdoor", sum := "7dd3229ffb62bfb852d8e2ec4e29dca8da78b72b3242d965b020ec0a03156621", checked := Tryz.checked }
namespace Rows
def none {H : Type} : Left H := { results := [], args := [] }

/- WHAT THE LISTED PACKAGE-LEVEL VARIABLES READ AS WHEN THE CALL BEGINS. Each datum BY PROGRAM (the guide's laid-datum.mjs) off the statement by which the dump's own 'gosem.cut.vars' lays the variable. In a bare row this is a premise. The card (YtmceekhgnfpamaaGreatDoorCards.lean) ties it to the program's text. -/
def laid_math_bits_deBruijn32tab {H : Type} : DataW H := .agg [.lit (.int .u8 0), .lit (.int .u8 1), .lit (.int .u8 28), .lit (.int .u8 2), .lit (.int .u8 29), .lit (.int .u8 14), .lit (.int .u8 24), .lit (.int .u8 3), .lit (.int .u8 30), .lit (.int .u8 22), .lit (.int .u8 20), .lit (.int .u8 15), .lit (.int .u8 25), .lit (.int .u8 17), .lit (.int .u8 4), .lit (.int .u8 8), .lit (.int .u8 31), .lit (.int .u8 27), .lit (.int .u8 13), .lit (.int .u8 23), .lit (.int .u8 21), .lit (.int .u8 19), .lit (.int .u8 16), .lit (.int .u8 7), .lit (.int .u8 26), .lit (.int .u8 12), .lit (.int .u8 18), .lit (.int .u8 6), .lit (.int .u8 11), .lit (.int .u8 5), .lit (.int .u8 10), .lit (.int .u8 9)]
def laid_math_bits_deBruijn64tab {H : Type} : DataW H := .agg [.lit (.int .u8 0), .lit (.int .u8 1), .lit (.int .u8 56), .lit (.int .u8 2), .lit (.int .u8 57), .lit (.int .u8 49), .lit (.int .u8 28), .lit (.int .u8 3), .lit (.int .u8 61), .lit (.int .u8 58), .lit (.int .u8 42), .lit (.int .u8 50), .lit (.int .u8 38), .lit (.int .u8 29), .lit (.int .u8 17), .lit (.int .u8 4), .lit (.int .u8 62), .lit (.int .u8 47), .lit (.int .u8 59), .lit (.int .u8 36), .lit (.int .u8 45), .lit (.int .u8 43), .lit (.int .u8 51), .lit (.int .u8 22), .lit (.int .u8 53), .lit (.int .u8 39), .lit (.int .u8 33), .lit (.int .u8 30), .lit (.int .u8 24), .lit (.int .u8 18), .lit (.int .u8 12), .lit (.int .u8 5), .lit (.int .u8 63), .lit (.int .u8 55), .lit (.int .u8 48), .lit (.int .u8 27), .lit (.int .u8 60), .lit (.int .u8 41), .lit (.int .u8 37), .lit (.int .u8 16), .lit (.int .u8 46), .lit (.int .u8 35), .lit (.int .u8 44), .lit (.int .u8 21), .lit (.int .u8 52), .lit (.int .u8 32), .lit (.int .u8 23), .lit (.int .u8 11), .lit (.int .u8 54), .lit (.int .u8 26), .lit (.int .u8 40), .lit (.int .u8 15), .lit (.int .u8 34), .lit (.int .u8 20), .lit (.int .u8 31), .lit (.int .u8 10), .lit (.int .u8 25), .lit (.int .u8 14), .lit (.int .u8 19), .lit (.int .u8 9), .lit (.int .u8 13), .lit (.int .u8 8), .lit (.int .u8 7), .lit (.int .u8 6)]
def laid_internal_strconv_uint64pow10 {H : Type} : DataW H := .agg [.lit (.int .u64 1), .lit (.int .u64 10), .lit (.int .u64 100), .lit (.int .u64 1000), .lit (.int .u64 10000), .lit (.int .u64 100000), .lit (.int .u64 1000000), .lit (.int .u64 10000000), .lit (.int .u64 100000000), .lit (.int .u64 1000000000), .lit (.int .u64 10000000000), .lit (.int .u64 100000000000), .lit (.int .u64 1000000000000), .lit (.int .u64 10000000000000), .lit (.int .u64 100000000000000), .lit (.int .u64 1000000000000000), .lit (.int .u64 10000000000000000), .lit (.int .u64 100000000000000000), .lit (.int .u64 1000000000000000000), .lit (.int .u64 10000000000000000000)]
def laid_strconv_ErrRange {H : Type} : DataW H := .iface "*errors.errorString" (.ptr (.agg [.lit (.string [118, 97, 108, 117, 101, 32, 111, 117, 116, 32, 111, 102, 32, 114, 97, 110, 103, 101])]))
def laid_strconv_ErrSyntax {H : Type} : DataW H := .iface "*errors.errorString" (.ptr (.agg [.lit (.string [105, 110, 118, 97, 108, 105, 100, 32, 115, 121, 110, 116, 97, 120])]))

/-- 'quicksilverlaw07.FormulaTexts': WHATEVER THE INPUT: true; the input reads as it did. -/
def formulaTextsSpec : ChangeSpec := { name := "formulaTexts", fn := fun _ => fun
  | [d1, d2] => { results := [.lit (.bool true)], args := [d1, d2] }
  | _ => none }
def formulaTextsRow : OpenClaim := { program := "ytmceekhgnfpamaagreatdoor", sum := "7dd3229ffb62bfb852d8e2ec4e29dca8da78b72b3242d965b020ec0a03156621", func := "quicksilver/quicksilverlaw07.FormulaTexts", spec := "formulaTexts", inPlace := ["internal/abi.NoEscape", "internal/bytealg.MakeNoZero"], unfollowed := true, recurses := true, named := ["strconv.ErrSyntax", "strconv.ErrRange", "internal/strconv.uint64pow10", "math/bits.deBruijn32tab", "math/bits.deBruijn64tab"], apart := false, laid := [("math/bits.deBruijn32tab", laid_math_bits_deBruijn32tab), ("math/bits.deBruijn64tab", laid_math_bits_deBruijn64tab), ("internal/strconv.uint64pow10", laid_internal_strconv_uint64pow10), ("strconv.ErrRange", laid_strconv_ErrRange), ("strconv.ErrSyntax", laid_strconv_ErrSyntax)] }
def FormulaTextsSaid : Prop := formulaTextsRow.holds Tryz.pinned (OpenSpec.ofChange formulaTextsSpec)

/-- ITS FALSE NEIGHBOUR: 'it returns false'. Refute it at one input. -/
def formulaTextsWrong : ChangeSpec := { name := "formulaTexts", fn := fun _ => fun
  | [d1, d2] => { results := [.lit (.bool false)], args := [d1, d2] }
  | _ => none }
def FormulaTextsWrongFalsely : Prop := formulaTextsRow.holds Tryz.pinned (OpenSpec.ofChange formulaTextsWrong)

/-- 'quicksilverlaw07.FormulaEvals': WHATEVER THE INPUT: true; the input reads as it did. -/
def formulaEvalsSpec : ChangeSpec := { name := "formulaEvals", fn := fun _ => fun
  | [d1, d2, d3] => { results := [.lit (.bool true)], args := [d1, d2, d3] }
  | _ => none }
def formulaEvalsRow : OpenClaim := { program := "ytmceekhgnfpamaagreatdoor", sum := "7dd3229ffb62bfb852d8e2ec4e29dca8da78b72b3242d965b020ec0a03156621", func := "quicksilver/quicksilverlaw07.FormulaEvals", spec := "formulaEvals", inPlace := ["internal/abi.NoEscape", "internal/bytealg.MakeNoZero"], unfollowed := true, recurses := true, named := ["strconv.ErrSyntax", "strconv.ErrRange", "internal/strconv.uint64pow10", "math/bits.deBruijn32tab", "math/bits.deBruijn64tab"], apart := false, laid := [("math/bits.deBruijn32tab", laid_math_bits_deBruijn32tab), ("math/bits.deBruijn64tab", laid_math_bits_deBruijn64tab), ("internal/strconv.uint64pow10", laid_internal_strconv_uint64pow10), ("strconv.ErrRange", laid_strconv_ErrRange), ("strconv.ErrSyntax", laid_strconv_ErrSyntax)] }
def FormulaEvalsSaid : Prop := formulaEvalsRow.holds Tryz.pinned (OpenSpec.ofChange formulaEvalsSpec)

/-- ITS FALSE NEIGHBOUR: 'it returns false'. Refute it at one input. -/
def formulaEvalsWrong : ChangeSpec := { name := "formulaEvals", fn := fun _ => fun
  | [d1, d2, d3] => { results := [.lit (.bool false)], args := [d1, d2, d3] }
  | _ => none }
def FormulaEvalsWrongFalsely : Prop := formulaEvalsRow.holds Tryz.pinned (OpenSpec.ofChange formulaEvalsWrong)

/-- 'quicksilverlaw07.FormulaCompiles': WHATEVER THE INPUT: true; the input reads as it did. -/
def formulaCompilesSpec : ChangeSpec := { name := "formulaCompiles", fn := fun _ => fun
  | [d] => { results := [.lit (.bool true)], args := [d] }
  | _ => none }
def formulaCompilesRow : OpenClaim := { program := "ytmceekhgnfpamaagreatdoor", sum := "7dd3229ffb62bfb852d8e2ec4e29dca8da78b72b3242d965b020ec0a03156621", func := "quicksilver/quicksilverlaw07.FormulaCompiles", spec := "formulaCompiles", inPlace := ["internal/abi.NoEscape", "internal/bytealg.MakeNoZero"], unfollowed := true, recurses := true, named := ["strconv.ErrSyntax", "strconv.ErrRange", "internal/strconv.uint64pow10", "math/bits.deBruijn32tab", "math/bits.deBruijn64tab"], apart := false, laid := [("math/bits.deBruijn32tab", laid_math_bits_deBruijn32tab), ("math/bits.deBruijn64tab", laid_math_bits_deBruijn64tab), ("internal/strconv.uint64pow10", laid_internal_strconv_uint64pow10), ("strconv.ErrRange", laid_strconv_ErrRange), ("strconv.ErrSyntax", laid_strconv_ErrSyntax)] }
def FormulaCompilesSaid : Prop := formulaCompilesRow.holds Tryz.pinned (OpenSpec.ofChange formulaCompilesSpec)

/-- ITS FALSE NEIGHBOUR: 'it returns false'. Refute it at one input. -/
def formulaCompilesWrong : ChangeSpec := { name := "formulaCompiles", fn := fun _ => fun
  | [d] => { results := [.lit (.bool false)], args := [d] }
  | _ => none }
def FormulaCompilesWrongFalsely : Prop := formulaCompilesRow.holds Tryz.pinned (OpenSpec.ofChange formulaCompilesWrong)

/-- 'quicksilverlaw07.FormulaCalcs': WHATEVER THE INPUT: true; the input reads as it did. -/
def formulaCalcsSpec : ChangeSpec := { name := "formulaCalcs", fn := fun _ => fun
  | [d1, d2, d3] => { results := [.lit (.bool true)], args := [d1, d2, d3] }
  | _ => none }
def formulaCalcsRow : OpenClaim := { program := "ytmceekhgnfpamaagreatdoor", sum := "7dd3229ffb62bfb852d8e2ec4e29dca8da78b72b3242d965b020ec0a03156621", func := "quicksilver/quicksilverlaw07.FormulaCalcs", spec := "formulaCalcs", inPlace := ["internal/abi.NoEscape", "internal/bytealg.MakeNoZero"], unfollowed := true, recurses := true, named := ["strconv.ErrSyntax", "strconv.ErrRange", "internal/strconv.uint64pow10", "math/bits.deBruijn32tab", "math/bits.deBruijn64tab"], apart := false, laid := [("math/bits.deBruijn32tab", laid_math_bits_deBruijn32tab), ("math/bits.deBruijn64tab", laid_math_bits_deBruijn64tab), ("internal/strconv.uint64pow10", laid_internal_strconv_uint64pow10), ("strconv.ErrRange", laid_strconv_ErrRange), ("strconv.ErrSyntax", laid_strconv_ErrSyntax)] }
def FormulaCalcsSaid : Prop := formulaCalcsRow.holds Tryz.pinned (OpenSpec.ofChange formulaCalcsSpec)

/-- ITS FALSE NEIGHBOUR: 'it returns false'. Refute it at one input. -/
def formulaCalcsWrong : ChangeSpec := { name := "formulaCalcs", fn := fun _ => fun
  | [d1, d2, d3] => { results := [.lit (.bool false)], args := [d1, d2, d3] }
  | _ => none }
def FormulaCalcsWrongFalsely : Prop := formulaCalcsRow.holds Tryz.pinned (OpenSpec.ofChange formulaCalcsWrong)

/-- 'quicksilverlaw07.FormulaKnown': WHATEVER THE INPUT: true; the input reads as it did. -/
def formulaKnownSpec : ChangeSpec := { name := "formulaKnown", fn := fun _ => fun
  | [] => { results := [.lit (.bool true)], args := [] }
  | _ => none }
def formulaKnownRow : OpenClaim := { program := "ytmceekhgnfpamaagreatdoor", sum := "7dd3229ffb62bfb852d8e2ec4e29dca8da78b72b3242d965b020ec0a03156621", func := "quicksilver/quicksilverlaw07.FormulaKnown", spec := "formulaKnown", inPlace := ["internal/abi.NoEscape", "internal/bytealg.MakeNoZero"], unfollowed := true, recurses := true, named := ["strconv.ErrSyntax", "strconv.ErrRange", "internal/strconv.uint64pow10", "math/bits.deBruijn32tab", "math/bits.deBruijn64tab"], apart := false, laid := [("math/bits.deBruijn32tab", laid_math_bits_deBruijn32tab), ("math/bits.deBruijn64tab", laid_math_bits_deBruijn64tab), ("internal/strconv.uint64pow10", laid_internal_strconv_uint64pow10), ("strconv.ErrRange", laid_strconv_ErrRange), ("strconv.ErrSyntax", laid_strconv_ErrSyntax)] }
def FormulaKnownSaid : Prop := formulaKnownRow.holds Tryz.pinned (OpenSpec.ofChange formulaKnownSpec)

/-- ITS FALSE NEIGHBOUR: 'it returns false'. Refute it at one input. -/
def formulaKnownWrong : ChangeSpec := { name := "formulaKnown", fn := fun _ => fun
  | [] => { results := [.lit (.bool false)], args := [] }
  | _ => none }
def FormulaKnownWrongFalsely : Prop := formulaKnownRow.holds Tryz.pinned (OpenSpec.ofChange formulaKnownWrong)

/-- 'quicksilverlaw07.FormulaBack': WHATEVER THE INPUT: true; the input reads as it did. -/
def formulaBackSpec : ChangeSpec := { name := "formulaBack", fn := fun _ => fun
  | [d1, d2] => { results := [.lit (.bool true)], args := [d1, d2] }
  | _ => none }
def formulaBackRow : OpenClaim := { program := "ytmceekhgnfpamaagreatdoor", sum := "7dd3229ffb62bfb852d8e2ec4e29dca8da78b72b3242d965b020ec0a03156621", func := "quicksilver/quicksilverlaw07.FormulaBack", spec := "formulaBack", inPlace := ["internal/abi.NoEscape", "internal/bytealg.MakeNoZero"], unfollowed := true, recurses := true, named := ["internal/strconv.uint64pow10", "math/bits.deBruijn32tab", "math/bits.deBruijn64tab", "strconv.ErrSyntax", "strconv.ErrRange"], apart := false, laid := [("math/bits.deBruijn32tab", laid_math_bits_deBruijn32tab), ("math/bits.deBruijn64tab", laid_math_bits_deBruijn64tab), ("internal/strconv.uint64pow10", laid_internal_strconv_uint64pow10), ("strconv.ErrRange", laid_strconv_ErrRange), ("strconv.ErrSyntax", laid_strconv_ErrSyntax)] }
def FormulaBackSaid : Prop := formulaBackRow.holds Tryz.pinned (OpenSpec.ofChange formulaBackSpec)

/-- ITS FALSE NEIGHBOUR: 'it returns false'. Refute it at one input. -/
def formulaBackWrong : ChangeSpec := { name := "formulaBack", fn := fun _ => fun
  | [d1, d2] => { results := [.lit (.bool false)], args := [d1, d2] }
  | _ => none }
def FormulaBackWrongFalsely : Prop := formulaBackRow.holds Tryz.pinned (OpenSpec.ofChange formulaBackWrong)

/-- 'quicksilverlaw07.FormulaWithin': WHATEVER THE INPUT: true; the input reads as it did. -/
def formulaWithinSpec : ChangeSpec := { name := "formulaWithin", fn := fun _ => fun
  | [d1, d2] => { results := [.lit (.bool true)], args := [d1, d2] }
  | _ => none }
def formulaWithinRow : OpenClaim := { program := "ytmceekhgnfpamaagreatdoor", sum := "7dd3229ffb62bfb852d8e2ec4e29dca8da78b72b3242d965b020ec0a03156621", func := "quicksilver/quicksilverlaw07.FormulaWithin", spec := "formulaWithin", inPlace := ["internal/abi.NoEscape", "internal/bytealg.MakeNoZero"], unfollowed := true, recurses := true, named := ["strconv.ErrSyntax", "strconv.ErrRange", "internal/strconv.uint64pow10", "math/bits.deBruijn32tab", "math/bits.deBruijn64tab"], apart := false, laid := [("math/bits.deBruijn32tab", laid_math_bits_deBruijn32tab), ("math/bits.deBruijn64tab", laid_math_bits_deBruijn64tab), ("internal/strconv.uint64pow10", laid_internal_strconv_uint64pow10), ("strconv.ErrRange", laid_strconv_ErrRange), ("strconv.ErrSyntax", laid_strconv_ErrSyntax)] }
def FormulaWithinSaid : Prop := formulaWithinRow.holds Tryz.pinned (OpenSpec.ofChange formulaWithinSpec)

/-- ITS FALSE NEIGHBOUR: 'it returns false'. Refute it at one input. -/
def formulaWithinWrong : ChangeSpec := { name := "formulaWithin", fn := fun _ => fun
  | [d1, d2] => { results := [.lit (.bool false)], args := [d1, d2] }
  | _ => none }
def FormulaWithinWrongFalsely : Prop := formulaWithinRow.holds Tryz.pinned (OpenSpec.ofChange formulaWithinWrong)

/-- 'quicksilverlaw07.FormulaWider': WHATEVER THE INPUT: true; the input reads as it did. -/
def formulaWiderSpec : ChangeSpec := { name := "formulaWider", fn := fun _ => fun
  | [d1, d2] => { results := [.lit (.bool true)], args := [d1, d2] }
  | _ => none }
def formulaWiderRow : OpenClaim := { program := "ytmceekhgnfpamaagreatdoor", sum := "7dd3229ffb62bfb852d8e2ec4e29dca8da78b72b3242d965b020ec0a03156621", func := "quicksilver/quicksilverlaw07.FormulaWider", spec := "formulaWider", inPlace := ["internal/abi.NoEscape", "internal/bytealg.MakeNoZero"], unfollowed := true, recurses := true, named := ["strconv.ErrSyntax", "strconv.ErrRange", "internal/strconv.uint64pow10", "math/bits.deBruijn32tab", "math/bits.deBruijn64tab"], apart := false, laid := [("math/bits.deBruijn32tab", laid_math_bits_deBruijn32tab), ("math/bits.deBruijn64tab", laid_math_bits_deBruijn64tab), ("internal/strconv.uint64pow10", laid_internal_strconv_uint64pow10), ("strconv.ErrRange", laid_strconv_ErrRange), ("strconv.ErrSyntax", laid_strconv_ErrSyntax)] }
def FormulaWiderSaid : Prop := formulaWiderRow.holds Tryz.pinned (OpenSpec.ofChange formulaWiderSpec)

/-- ITS FALSE NEIGHBOUR: 'it returns false'. Refute it at one input. -/
def formulaWiderWrong : ChangeSpec := { name := "formulaWider", fn := fun _ => fun
  | [d1, d2] => { results := [.lit (.bool false)], args := [d1, d2] }
  | _ => none }
def FormulaWiderWrongFalsely : Prop := formulaWiderRow.holds Tryz.pinned (OpenSpec.ofChange formulaWiderWrong)

/-- 'quicksilverlaw07.FormulaFloats': WHATEVER THE INPUT: true; the input reads as it did. -/
def formulaFloatsSpec : ChangeSpec := { name := "formulaFloats", fn := fun _ => fun
  | [d1, d2] => { results := [.lit (.bool true)], args := [d1, d2] }
  | _ => none }
def formulaFloatsRow : OpenClaim := { program := "ytmceekhgnfpamaagreatdoor", sum := "7dd3229ffb62bfb852d8e2ec4e29dca8da78b72b3242d965b020ec0a03156621", func := "quicksilver/quicksilverlaw07.FormulaFloats", spec := "formulaFloats", inPlace := ["internal/abi.NoEscape", "internal/bytealg.MakeNoZero"], unfollowed := true, recurses := true, named := ["strconv.ErrSyntax", "strconv.ErrRange", "internal/strconv.uint64pow10", "math/bits.deBruijn32tab", "math/bits.deBruijn64tab"], apart := false, laid := [("math/bits.deBruijn32tab", laid_math_bits_deBruijn32tab), ("math/bits.deBruijn64tab", laid_math_bits_deBruijn64tab), ("internal/strconv.uint64pow10", laid_internal_strconv_uint64pow10), ("strconv.ErrRange", laid_strconv_ErrRange), ("strconv.ErrSyntax", laid_strconv_ErrSyntax)] }
def FormulaFloatsSaid : Prop := formulaFloatsRow.holds Tryz.pinned (OpenSpec.ofChange formulaFloatsSpec)

/-- ITS FALSE NEIGHBOUR: 'it returns false'. Refute it at one input. -/
def formulaFloatsWrong : ChangeSpec := { name := "formulaFloats", fn := fun _ => fun
  | [d1, d2] => { results := [.lit (.bool false)], args := [d1, d2] }
  | _ => none }
def FormulaFloatsWrongFalsely : Prop := formulaFloatsRow.holds Tryz.pinned (OpenSpec.ofChange formulaFloatsWrong)

/-- 'quicksilverlaw07.FormulaSums': WHATEVER THE INPUT: true; the input reads as it did. -/
def formulaSumsSpec : ChangeSpec := { name := "formulaSums", fn := fun _ => fun
  | [d1, d2] => { results := [.lit (.bool true)], args := [d1, d2] }
  | _ => none }
def formulaSumsRow : OpenClaim := { program := "ytmceekhgnfpamaagreatdoor", sum := "7dd3229ffb62bfb852d8e2ec4e29dca8da78b72b3242d965b020ec0a03156621", func := "quicksilver/quicksilverlaw07.FormulaSums", spec := "formulaSums", inPlace := ["internal/abi.NoEscape", "internal/bytealg.MakeNoZero"], unfollowed := true, recurses := true, named := ["strconv.ErrSyntax", "strconv.ErrRange", "internal/strconv.uint64pow10", "math/bits.deBruijn32tab", "math/bits.deBruijn64tab"], apart := false, laid := [("math/bits.deBruijn32tab", laid_math_bits_deBruijn32tab), ("math/bits.deBruijn64tab", laid_math_bits_deBruijn64tab), ("internal/strconv.uint64pow10", laid_internal_strconv_uint64pow10), ("strconv.ErrRange", laid_strconv_ErrRange), ("strconv.ErrSyntax", laid_strconv_ErrSyntax)] }
def FormulaSumsSaid : Prop := formulaSumsRow.holds Tryz.pinned (OpenSpec.ofChange formulaSumsSpec)

/-- ITS FALSE NEIGHBOUR: 'it returns false'. Refute it at one input. -/
def formulaSumsWrong : ChangeSpec := { name := "formulaSums", fn := fun _ => fun
  | [d1, d2] => { results := [.lit (.bool false)], args := [d1, d2] }
  | _ => none }
def FormulaSumsWrongFalsely : Prop := formulaSumsRow.holds Tryz.pinned (OpenSpec.ofChange formulaSumsWrong)

/-- 'quicksilverlaw07.FormulaLaws': WHATEVER THE INPUT: true; the input reads as it did. -/
def formulaLawsSpec : ChangeSpec := { name := "formulaLaws", fn := fun _ => fun
  | [d1, d2] => { results := [.lit (.bool true)], args := [d1, d2] }
  | _ => none }
def formulaLawsRow : OpenClaim := { program := "ytmceekhgnfpamaagreatdoor", sum := "7dd3229ffb62bfb852d8e2ec4e29dca8da78b72b3242d965b020ec0a03156621", func := "quicksilver/quicksilverlaw07.FormulaLaws", spec := "formulaLaws", inPlace := ["internal/abi.NoEscape", "internal/bytealg.MakeNoZero"], unfollowed := true, recurses := true, named := ["strconv.ErrSyntax", "strconv.ErrRange", "internal/strconv.uint64pow10", "math/bits.deBruijn32tab", "math/bits.deBruijn64tab"], apart := false, laid := [("math/bits.deBruijn32tab", laid_math_bits_deBruijn32tab), ("math/bits.deBruijn64tab", laid_math_bits_deBruijn64tab), ("internal/strconv.uint64pow10", laid_internal_strconv_uint64pow10), ("strconv.ErrRange", laid_strconv_ErrRange), ("strconv.ErrSyntax", laid_strconv_ErrSyntax)] }
def FormulaLawsSaid : Prop := formulaLawsRow.holds Tryz.pinned (OpenSpec.ofChange formulaLawsSpec)

/-- ITS FALSE NEIGHBOUR: 'it returns false'. Refute it at one input. -/
def formulaLawsWrong : ChangeSpec := { name := "formulaLaws", fn := fun _ => fun
  | [d1, d2] => { results := [.lit (.bool false)], args := [d1, d2] }
  | _ => none }
def FormulaLawsWrongFalsely : Prop := formulaLawsRow.holds Tryz.pinned (OpenSpec.ofChange formulaLawsWrong)

/-- 'quicksilverlaw07.FormulaCut': WHATEVER THE INPUT: true; the input reads as it did. -/
def formulaCutSpec : ChangeSpec := { name := "formulaCut", fn := fun _ => fun
  | [d1, d2, d3] => { results := [.lit (.bool true)], args := [d1, d2, d3] }
  | _ => none }
def formulaCutRow : OpenClaim := { program := "ytmceekhgnfpamaagreatdoor", sum := "7dd3229ffb62bfb852d8e2ec4e29dca8da78b72b3242d965b020ec0a03156621", func := "quicksilver/quicksilverlaw07.FormulaCut", spec := "formulaCut", inPlace := ["internal/abi.NoEscape", "internal/bytealg.MakeNoZero"], unfollowed := true, recurses := true, named := ["strconv.ErrSyntax", "strconv.ErrRange", "internal/strconv.uint64pow10", "math/bits.deBruijn32tab", "math/bits.deBruijn64tab"], apart := false, laid := [("math/bits.deBruijn32tab", laid_math_bits_deBruijn32tab), ("math/bits.deBruijn64tab", laid_math_bits_deBruijn64tab), ("internal/strconv.uint64pow10", laid_internal_strconv_uint64pow10), ("strconv.ErrRange", laid_strconv_ErrRange), ("strconv.ErrSyntax", laid_strconv_ErrSyntax)] }
def FormulaCutSaid : Prop := formulaCutRow.holds Tryz.pinned (OpenSpec.ofChange formulaCutSpec)

/-- ITS FALSE NEIGHBOUR: 'it returns false'. Refute it at one input. -/
def formulaCutWrong : ChangeSpec := { name := "formulaCut", fn := fun _ => fun
  | [d1, d2, d3] => { results := [.lit (.bool false)], args := [d1, d2, d3] }
  | _ => none }
def FormulaCutWrongFalsely : Prop := formulaCutRow.holds Tryz.pinned (OpenSpec.ofChange formulaCutWrong)

/- THE SECOND FORM. 'bulk': how many values and letters a reading holds, each counted each time it is reached (what is shared counts as often as it is met; a slice's spare places count too). A statement '..UptoSaid' is the law's where the arguments, and the package variables that the reading takes, are together of bulk at most 1048576: NARROWER than '..Said'. Prove '..Said' where nothing that the law and all that it calls make is longer than what came in: it says more and counts as full. Else prove '..UptoSaid'. A law counts once. -/
mutual
def uptoBulk {H : Type} : DataW H → Nat
  | .lit (.string bytes) => bytes.length + 1
  | .lit _ => 1
  | .nil => 1
  | .ptr d => uptoBulk d + 1
  | .slice elems spare => uptoBulkAll elems + uptoBulkAll spare + 1
  | .agg parts => uptoBulkAll parts + 1
  | .iface _ d => uptoBulk d + 1
  | .map entries => uptoBulkEntries entries + 1
  | .held _ => 1
def uptoBulkAll {H : Type} : List (DataW H) → Nat
  | [] => 0
  | d :: r => uptoBulk d + uptoBulkAll r
def uptoBulkEntries {H : Type} : List (Lit × DataW H) → Nat
  | [] => 0
  | x :: r => uptoBulkEntry x + uptoBulkEntries r
def uptoBulkEntry {H : Type} : Lit × DataW H → Nat
  | (.string bytes, d) => bytes.length + uptoBulk d + 1
  | (_, d) => uptoBulk d + 1
 end
def uptoSmall : (H : Type) → List (DataW H) → Bool := fun _ ds => decide (uptoBulkAll ds ≤ 1048576)
def OpenSpec.upto (s : _root_.Go.ChangeSpec) : _root_.Go.OpenSpec := { _root_.Go.OpenSpec.ofChange s with cond := some uptoSmall }

/-- 'quicksilverlaw07.FormulaTexts', WHERE WHAT IT READS IS OF BULK AT MOST 1048576: true; the input reads as it did. -/
def formulaTextsUptoRow : OpenClaim := { program := "ytmceekhgnfpamaagreatdoor", sum := "7dd3229ffb62bfb852d8e2ec4e29dca8da78b72b3242d965b020ec0a03156621", func := "quicksilver/quicksilverlaw07.FormulaTexts", spec := "formulaTexts", inPlace := ["internal/abi.NoEscape", "internal/bytealg.MakeNoZero"], unfollowed := true, recurses := true, named := ["strconv.ErrSyntax", "strconv.ErrRange", "internal/strconv.uint64pow10", "math/bits.deBruijn32tab", "math/bits.deBruijn64tab"], apart := false, laid := [("math/bits.deBruijn32tab", laid_math_bits_deBruijn32tab), ("math/bits.deBruijn64tab", laid_math_bits_deBruijn64tab), ("internal/strconv.uint64pow10", laid_internal_strconv_uint64pow10), ("strconv.ErrRange", laid_strconv_ErrRange), ("strconv.ErrSyntax", laid_strconv_ErrSyntax)], narrowed := true }
def FormulaTextsUptoSaid : Prop := formulaTextsUptoRow.holds Tryz.pinned (OpenSpec.upto formulaTextsSpec)

/-- 'quicksilverlaw07.FormulaEvals', WHERE WHAT IT READS IS OF BULK AT MOST 1048576: true; the input reads as it did. -/
def formulaEvalsUptoRow : OpenClaim := { program := "ytmceekhgnfpamaagreatdoor", sum := "7dd3229ffb62bfb852d8e2ec4e29dca8da78b72b3242d965b020ec0a03156621", func := "quicksilver/quicksilverlaw07.FormulaEvals", spec := "formulaEvals", inPlace := ["internal/abi.NoEscape", "internal/bytealg.MakeNoZero"], unfollowed := true, recurses := true, named := ["strconv.ErrSyntax", "strconv.ErrRange", "internal/strconv.uint64pow10", "math/bits.deBruijn32tab", "math/bits.deBruijn64tab"], apart := false, laid := [("math/bits.deBruijn32tab", laid_math_bits_deBruijn32tab), ("math/bits.deBruijn64tab", laid_math_bits_deBruijn64tab), ("internal/strconv.uint64pow10", laid_internal_strconv_uint64pow10), ("strconv.ErrRange", laid_strconv_ErrRange), ("strconv.ErrSyntax", laid_strconv_ErrSyntax)], narrowed := true }
def FormulaEvalsUptoSaid : Prop := formulaEvalsUptoRow.holds Tryz.pinned (OpenSpec.upto formulaEvalsSpec)

/-- 'quicksilverlaw07.FormulaCompiles', WHERE WHAT IT READS IS OF BULK AT MOST 1048576: true; the input reads as it did. -/
def formulaCompilesUptoRow : OpenClaim := { program := "ytmceekhgnfpamaagreatdoor", sum := "7dd3229ffb62bfb852d8e2ec4e29dca8da78b72b3242d965b020ec0a03156621", func := "quicksilver/quicksilverlaw07.FormulaCompiles", spec := "formulaCompiles", inPlace := ["internal/abi.NoEscape", "internal/bytealg.MakeNoZero"], unfollowed := true, recurses := true, named := ["strconv.ErrSyntax", "strconv.ErrRange", "internal/strconv.uint64pow10", "math/bits.deBruijn32tab", "math/bits.deBruijn64tab"], apart := false, laid := [("math/bits.deBruijn32tab", laid_math_bits_deBruijn32tab), ("math/bits.deBruijn64tab", laid_math_bits_deBruijn64tab), ("internal/strconv.uint64pow10", laid_internal_strconv_uint64pow10), ("strconv.ErrRange", laid_strconv_ErrRange), ("strconv.ErrSyntax", laid_strconv_ErrSyntax)], narrowed := true }
def FormulaCompilesUptoSaid : Prop := formulaCompilesUptoRow.holds Tryz.pinned (OpenSpec.upto formulaCompilesSpec)

/-- 'quicksilverlaw07.FormulaCalcs', WHERE WHAT IT READS IS OF BULK AT MOST 1048576: true; the input reads as it did. -/
def formulaCalcsUptoRow : OpenClaim := { program := "ytmceekhgnfpamaagreatdoor", sum := "7dd3229ffb62bfb852d8e2ec4e29dca8da78b72b3242d965b020ec0a03156621", func := "quicksilver/quicksilverlaw07.FormulaCalcs", spec := "formulaCalcs", inPlace := ["internal/abi.NoEscape", "internal/bytealg.MakeNoZero"], unfollowed := true, recurses := true, named := ["strconv.ErrSyntax", "strconv.ErrRange", "internal/strconv.uint64pow10", "math/bits.deBruijn32tab", "math/bits.deBruijn64tab"], apart := false, laid := [("math/bits.deBruijn32tab", laid_math_bits_deBruijn32tab), ("math/bits.deBruijn64tab", laid_math_bits_deBruijn64tab), ("internal/strconv.uint64pow10", laid_internal_strconv_uint64pow10), ("strconv.ErrRange", laid_strconv_ErrRange), ("strconv.ErrSyntax", laid_strconv_ErrSyntax)], narrowed := true }
def FormulaCalcsUptoSaid : Prop := formulaCalcsUptoRow.holds Tryz.pinned (OpenSpec.upto formulaCalcsSpec)

/-- 'quicksilverlaw07.FormulaKnown', WHERE WHAT IT READS IS OF BULK AT MOST 1048576: true; the input reads as it did. -/
def formulaKnownUptoRow : OpenClaim := { program := "ytmceekhgnfpamaagreatdoor", sum := "7dd3229ffb62bfb852d8e2ec4e29dca8da78b72b3242d965b020ec0a03156621", func := "quicksilver/quicksilverlaw07.FormulaKnown", spec := "formulaKnown", inPlace := ["internal/abi.NoEscape", "internal/bytealg.MakeNoZero"], unfollowed := true, recurses := true, named := ["strconv.ErrSyntax", "strconv.ErrRange", "internal/strconv.uint64pow10", "math/bits.deBruijn32tab", "math/bits.deBruijn64tab"], apart := false, laid := [("math/bits.deBruijn32tab", laid_math_bits_deBruijn32tab), ("math/bits.deBruijn64tab", laid_math_bits_deBruijn64tab), ("internal/strconv.uint64pow10", laid_internal_strconv_uint64pow10), ("strconv.ErrRange", laid_strconv_ErrRange), ("strconv.ErrSyntax", laid_strconv_ErrSyntax)], narrowed := true }
def FormulaKnownUptoSaid : Prop := formulaKnownUptoRow.holds Tryz.pinned (OpenSpec.upto formulaKnownSpec)

/-- 'quicksilverlaw07.FormulaBack', WHERE WHAT IT READS IS OF BULK AT MOST 1048576: true; the input reads as it did. -/
def formulaBackUptoRow : OpenClaim := { program := "ytmceekhgnfpamaagreatdoor", sum := "7dd3229ffb62bfb852d8e2ec4e29dca8da78b72b3242d965b020ec0a03156621", func := "quicksilver/quicksilverlaw07.FormulaBack", spec := "formulaBack", inPlace := ["internal/abi.NoEscape", "internal/bytealg.MakeNoZero"], unfollowed := true, recurses := true, named := ["internal/strconv.uint64pow10", "math/bits.deBruijn32tab", "math/bits.deBruijn64tab", "strconv.ErrSyntax", "strconv.ErrRange"], apart := false, laid := [("math/bits.deBruijn32tab", laid_math_bits_deBruijn32tab), ("math/bits.deBruijn64tab", laid_math_bits_deBruijn64tab), ("internal/strconv.uint64pow10", laid_internal_strconv_uint64pow10), ("strconv.ErrRange", laid_strconv_ErrRange), ("strconv.ErrSyntax", laid_strconv_ErrSyntax)], narrowed := true }
def FormulaBackUptoSaid : Prop := formulaBackUptoRow.holds Tryz.pinned (OpenSpec.upto formulaBackSpec)

/-- 'quicksilverlaw07.FormulaWithin', WHERE WHAT IT READS IS OF BULK AT MOST 1048576: true; the input reads as it did. -/
def formulaWithinUptoRow : OpenClaim := { program := "ytmceekhgnfpamaagreatdoor", sum := "7dd3229ffb62bfb852d8e2ec4e29dca8da78b72b3242d965b020ec0a03156621", func := "quicksilver/quicksilverlaw07.FormulaWithin", spec := "formulaWithin", inPlace := ["internal/abi.NoEscape", "internal/bytealg.MakeNoZero"], unfollowed := true, recurses := true, named := ["strconv.ErrSyntax", "strconv.ErrRange", "internal/strconv.uint64pow10", "math/bits.deBruijn32tab", "math/bits.deBruijn64tab"], apart := false, laid := [("math/bits.deBruijn32tab", laid_math_bits_deBruijn32tab), ("math/bits.deBruijn64tab", laid_math_bits_deBruijn64tab), ("internal/strconv.uint64pow10", laid_internal_strconv_uint64pow10), ("strconv.ErrRange", laid_strconv_ErrRange), ("strconv.ErrSyntax", laid_strconv_ErrSyntax)], narrowed := true }
def FormulaWithinUptoSaid : Prop := formulaWithinUptoRow.holds Tryz.pinned (OpenSpec.upto formulaWithinSpec)

/-- 'quicksilverlaw07.FormulaWider', WHERE WHAT IT READS IS OF BULK AT MOST 1048576: true; the input reads as it did. -/
def formulaWiderUptoRow : OpenClaim := { program := "ytmceekhgnfpamaagreatdoor", sum := "7dd3229ffb62bfb852d8e2ec4e29dca8da78b72b3242d965b020ec0a03156621", func := "quicksilver/quicksilverlaw07.FormulaWider", spec := "formulaWider", inPlace := ["internal/abi.NoEscape", "internal/bytealg.MakeNoZero"], unfollowed := true, recurses := true, named := ["strconv.ErrSyntax", "strconv.ErrRange", "internal/strconv.uint64pow10", "math/bits.deBruijn32tab", "math/bits.deBruijn64tab"], apart := false, laid := [("math/bits.deBruijn32tab", laid_math_bits_deBruijn32tab), ("math/bits.deBruijn64tab", laid_math_bits_deBruijn64tab), ("internal/strconv.uint64pow10", laid_internal_strconv_uint64pow10), ("strconv.ErrRange", laid_strconv_ErrRange), ("strconv.ErrSyntax", laid_strconv_ErrSyntax)], narrowed := true }
def FormulaWiderUptoSaid : Prop := formulaWiderUptoRow.holds Tryz.pinned (OpenSpec.upto formulaWiderSpec)

/-- 'quicksilverlaw07.FormulaFloats', WHERE WHAT IT READS IS OF BULK AT MOST 1048576: true; the input reads as it did. -/
def formulaFloatsUptoRow : OpenClaim := { program := "ytmceekhgnfpamaagreatdoor", sum := "7dd3229ffb62bfb852d8e2ec4e29dca8da78b72b3242d965b020ec0a03156621", func := "quicksilver/quicksilverlaw07.FormulaFloats", spec := "formulaFloats", inPlace := ["internal/abi.NoEscape", "internal/bytealg.MakeNoZero"], unfollowed := true, recurses := true, named := ["strconv.ErrSyntax", "strconv.ErrRange", "internal/strconv.uint64pow10", "math/bits.deBruijn32tab", "math/bits.deBruijn64tab"], apart := false, laid := [("math/bits.deBruijn32tab", laid_math_bits_deBruijn32tab), ("math/bits.deBruijn64tab", laid_math_bits_deBruijn64tab), ("internal/strconv.uint64pow10", laid_internal_strconv_uint64pow10), ("strconv.ErrRange", laid_strconv_ErrRange), ("strconv.ErrSyntax", laid_strconv_ErrSyntax)], narrowed := true }
def FormulaFloatsUptoSaid : Prop := formulaFloatsUptoRow.holds Tryz.pinned (OpenSpec.upto formulaFloatsSpec)

/-- 'quicksilverlaw07.FormulaSums', WHERE WHAT IT READS IS OF BULK AT MOST 1048576: true; the input reads as it did. -/
def formulaSumsUptoRow : OpenClaim := { program := "ytmceekhgnfpamaagreatdoor", sum := "7dd3229ffb62bfb852d8e2ec4e29dca8da78b72b3242d965b020ec0a03156621", func := "quicksilver/quicksilverlaw07.FormulaSums", spec := "formulaSums", inPlace := ["internal/abi.NoEscape", "internal/bytealg.MakeNoZero"], unfollowed := true, recurses := true, named := ["strconv.ErrSyntax", "strconv.ErrRange", "internal/strconv.uint64pow10", "math/bits.deBruijn32tab", "math/bits.deBruijn64tab"], apart := false, laid := [("math/bits.deBruijn32tab", laid_math_bits_deBruijn32tab), ("math/bits.deBruijn64tab", laid_math_bits_deBruijn64tab), ("internal/strconv.uint64pow10", laid_internal_strconv_uint64pow10), ("strconv.ErrRange", laid_strconv_ErrRange), ("strconv.ErrSyntax", laid_strconv_ErrSyntax)], narrowed := true }
def FormulaSumsUptoSaid : Prop := formulaSumsUptoRow.holds Tryz.pinned (OpenSpec.upto formulaSumsSpec)

/-- 'quicksilverlaw07.FormulaLaws', WHERE WHAT IT READS IS OF BULK AT MOST 1048576: true; the input reads as it did. -/
def formulaLawsUptoRow : OpenClaim := { program := "ytmceekhgnfpamaagreatdoor", sum := "7dd3229ffb62bfb852d8e2ec4e29dca8da78b72b3242d965b020ec0a03156621", func := "quicksilver/quicksilverlaw07.FormulaLaws", spec := "formulaLaws", inPlace := ["internal/abi.NoEscape", "internal/bytealg.MakeNoZero"], unfollowed := true, recurses := true, named := ["strconv.ErrSyntax", "strconv.ErrRange", "internal/strconv.uint64pow10", "math/bits.deBruijn32tab", "math/bits.deBruijn64tab"], apart := false, laid := [("math/bits.deBruijn32tab", laid_math_bits_deBruijn32tab), ("math/bits.deBruijn64tab", laid_math_bits_deBruijn64tab), ("internal/strconv.uint64pow10", laid_internal_strconv_uint64pow10), ("strconv.ErrRange", laid_strconv_ErrRange), ("strconv.ErrSyntax", laid_strconv_ErrSyntax)], narrowed := true }
def FormulaLawsUptoSaid : Prop := formulaLawsUptoRow.holds Tryz.pinned (OpenSpec.upto formulaLawsSpec)

/-- 'quicksilverlaw07.FormulaCut', WHERE WHAT IT READS IS OF BULK AT MOST 1048576: true; the input reads as it did. -/
def formulaCutUptoRow : OpenClaim := { program := "ytmceekhgnfpamaagreatdoor", sum := "7dd3229ffb62bfb852d8e2ec4e29dca8da78b72b3242d965b020ec0a03156621", func := "quicksilver/quicksilverlaw07.FormulaCut", spec := "formulaCut", inPlace := ["internal/abi.NoEscape", "internal/bytealg.MakeNoZero"], unfollowed := true, recurses := true, named := ["strconv.ErrSyntax", "strconv.ErrRange", "internal/strconv.uint64pow10", "math/bits.deBruijn32tab", "math/bits.deBruijn64tab"], apart := false, laid := [("math/bits.deBruijn32tab", laid_math_bits_deBruijn32tab), ("math/bits.deBruijn64tab", laid_math_bits_deBruijn64tab), ("internal/strconv.uint64pow10", laid_internal_strconv_uint64pow10), ("strconv.ErrRange", laid_strconv_ErrRange), ("strconv.ErrSyntax", laid_strconv_ErrSyntax)], narrowed := true }
def FormulaCutUptoSaid : Prop := formulaCutUptoRow.holds Tryz.pinned (OpenSpec.upto formulaCutSpec)

end Rows
end Go.Proofs.YtmceekhgnfpamaaGreatDoor
