/-
  NARROWER THAN 'FOR EVERY INPUT', by the rows' own cells (each row's printed sentence says how): ServiceSolves: laid · ServicePrints: laid · ServiceRoots: laid · ServiceFinds: laid · ServicePays: laid · ServiceExact: laid · ServiceMade: laid · ServicePrinted: laid · ServiceBrackets: laid · ServiceNarrower: laid.
  DERIVED. THE GIVEN ROWS OF THIS SEAT. 10 by the template 'for every input the law returns true; each argument reads behind the call as it read before'; 0 by the template 'total and deterministic' (their statements: YtnpleednkmhhhaaDoorTotals.lean).
  GIVEN WITH THE SEED: the statements are not yours to turn. If you find one false, say at which input.
  Laid BY PROGRAM, IN A SANDBOX (cutbox-rows.mjs): the forced cells as the released guide's own fill.sh prints them over the translation 717c5d675ff97571… (all of the seat's roots in one cut). By AI agents, Wed Nov 11 2026. No macro, syntax, notation, axiom, sorry.
-/
import Derived.Test.YtnpleednkmhhhaaDoorChecked
import GoSem.Claim
import GoSem.ClaimJoined
import GoSem.ClaimMapViews
import Derived.JoinedTies
import Derived.KernelRfl
namespace Go.Proofs.YtnpleednkmhhhaaDoor
/- THE CELL 'sum', in the pinned program and in every row, IS THE sha256 OF THE DUMP (.gsa) THAT YtnpleednkmhhhaaDoorProg.lean LOADS. Nothing in Lean hashes anything: it is a label: what it is worth is what the hold of that sum in a sandbox is worth. -/
noncomputable def Tryd.pinned : Pinned := { name := "ytnpleednkmhhhaadoor", sum := "717c5d675ff97571c880384d59365ec8818ad1d623d9cce4f5c9ce75ee2fe8d5", checked := Tryd.checked }
namespace Rows
def none {H : Type} : Left H := { results := [], args := [] }

/- WHAT THE LISTED PACKAGE-LEVEL VARIABLES READ AS WHEN THE CALL BEGINS. Each datum BY PROGRAM (the guide's laid-datum.mjs) off the statement by which the dump's own 'gosem.cut.vars' lays the variable. In a bare row this is a premise. The card (YtnpleednkmhhhaaDoorCards.lean) ties it to the program's text. -/
def laid_math_bits_deBruijn32tab {H : Type} : DataW H := .agg [.lit (.int .u8 0), .lit (.int .u8 1), .lit (.int .u8 28), .lit (.int .u8 2), .lit (.int .u8 29), .lit (.int .u8 14), .lit (.int .u8 24), .lit (.int .u8 3), .lit (.int .u8 30), .lit (.int .u8 22), .lit (.int .u8 20), .lit (.int .u8 15), .lit (.int .u8 25), .lit (.int .u8 17), .lit (.int .u8 4), .lit (.int .u8 8), .lit (.int .u8 31), .lit (.int .u8 27), .lit (.int .u8 13), .lit (.int .u8 23), .lit (.int .u8 21), .lit (.int .u8 19), .lit (.int .u8 16), .lit (.int .u8 7), .lit (.int .u8 26), .lit (.int .u8 12), .lit (.int .u8 18), .lit (.int .u8 6), .lit (.int .u8 11), .lit (.int .u8 5), .lit (.int .u8 10), .lit (.int .u8 9)]
def laid_math_bits_deBruijn64tab {H : Type} : DataW H := .agg [.lit (.int .u8 0), .lit (.int .u8 1), .lit (.int .u8 56), .lit (.int .u8 2), .lit (.int .u8 57), .lit (.int .u8 49), .lit (.int .u8 28), .lit (.int .u8 3), .lit (.int .u8 61), .lit (.int .u8 58), .lit (.int .u8 42), .lit (.int .u8 50), .lit (.int .u8 38), .lit (.int .u8 29), .lit (.int .u8 17), .lit (.int .u8 4), .lit (.int .u8 62), .lit (.int .u8 47), .lit (.int .u8 59), .lit (.int .u8 36), .lit (.int .u8 45), .lit (.int .u8 43), .lit (.int .u8 51), .lit (.int .u8 22), .lit (.int .u8 53), .lit (.int .u8 39), .lit (.int .u8 33), .lit (.int .u8 30), .lit (.int .u8 24), .lit (.int .u8 18), .lit (.int .u8 12), .lit (.int .u8 5), .lit (.int .u8 63), .lit (.int .u8 55), .lit (.int .u8 48), .lit (.int .u8 27), .lit (.int .u8 60), .lit (.int .u8 41), .lit (.int .u8 37), .lit (.int .u8 16), .lit (.int .u8 46), .lit (.int .u8 35), .lit (.int .u8 44), .lit (.int .u8 21), .lit (.int .u8 52), .lit (.int .u8 32), .lit (.int .u8 23), .lit (.int .u8 11), .lit (.int .u8 54), .lit (.int .u8 26), .lit (.int .u8 40), .lit (.int .u8 15), .lit (.int .u8 34), .lit (.int .u8 20), .lit (.int .u8 31), .lit (.int .u8 10), .lit (.int .u8 25), .lit (.int .u8 14), .lit (.int .u8 19), .lit (.int .u8 9), .lit (.int .u8 13), .lit (.int .u8 8), .lit (.int .u8 7), .lit (.int .u8 6)]
def laid_internal_strconv_uint64pow10 {H : Type} : DataW H := .agg [.lit (.int .u64 1), .lit (.int .u64 10), .lit (.int .u64 100), .lit (.int .u64 1000), .lit (.int .u64 10000), .lit (.int .u64 100000), .lit (.int .u64 1000000), .lit (.int .u64 10000000), .lit (.int .u64 100000000), .lit (.int .u64 1000000000), .lit (.int .u64 10000000000), .lit (.int .u64 100000000000), .lit (.int .u64 1000000000000), .lit (.int .u64 10000000000000), .lit (.int .u64 100000000000000), .lit (.int .u64 1000000000000000), .lit (.int .u64 10000000000000000), .lit (.int .u64 100000000000000000), .lit (.int .u64 1000000000000000000), .lit (.int .u64 10000000000000000000)]

/-- 'quicksilverlaw09.ServiceSolves': WHATEVER THE INPUT: true; the input reads as it did. -/
def serviceSolvesSpec : ChangeSpec := { name := "serviceSolves", fn := fun _ => fun
  | [d] => { results := [.lit (.bool true)], args := [d] }
  | _ => none }
def serviceSolvesRow : OpenClaim := { program := "ytnpleednkmhhhaadoor", sum := "717c5d675ff97571c880384d59365ec8818ad1d623d9cce4f5c9ce75ee2fe8d5", func := "quicksilver/quicksilverlaw09.ServiceSolves", spec := "serviceSolves", inPlace := ["internal/abi.NoEscape", "internal/bytealg.MakeNoZero"], unfollowed := true, recurses := true, named := ["internal/strconv.uint64pow10", "math/bits.deBruijn32tab", "math/bits.deBruijn64tab"], apart := false, laid := [("math/bits.deBruijn32tab", laid_math_bits_deBruijn32tab), ("math/bits.deBruijn64tab", laid_math_bits_deBruijn64tab), ("internal/strconv.uint64pow10", laid_internal_strconv_uint64pow10)] }
def ServiceSolvesSaid : Prop := serviceSolvesRow.holds Tryd.pinned (OpenSpec.ofChange serviceSolvesSpec)

/-- ITS FALSE NEIGHBOUR: 'it returns false'. Refute it at one input. -/
def serviceSolvesWrong : ChangeSpec := { name := "serviceSolves", fn := fun _ => fun
  | [d] => { results := [.lit (.bool false)], args := [d] }
  | _ => none }
def ServiceSolvesWrongFalsely : Prop := serviceSolvesRow.holds Tryd.pinned (OpenSpec.ofChange serviceSolvesWrong)

/-- 'quicksilverlaw09.ServicePrints': WHATEVER THE INPUT: true; the input reads as it did. -/
def servicePrintsSpec : ChangeSpec := { name := "servicePrints", fn := fun _ => fun
  | [d1, d2] => { results := [.lit (.bool true)], args := [d1, d2] }
  | _ => none }
def servicePrintsRow : OpenClaim := { program := "ytnpleednkmhhhaadoor", sum := "717c5d675ff97571c880384d59365ec8818ad1d623d9cce4f5c9ce75ee2fe8d5", func := "quicksilver/quicksilverlaw09.ServicePrints", spec := "servicePrints", inPlace := ["internal/abi.NoEscape", "internal/bytealg.MakeNoZero"], unfollowed := true, recurses := true, named := ["internal/strconv.uint64pow10", "math/bits.deBruijn32tab", "math/bits.deBruijn64tab"], apart := false, laid := [("math/bits.deBruijn32tab", laid_math_bits_deBruijn32tab), ("math/bits.deBruijn64tab", laid_math_bits_deBruijn64tab), ("internal/strconv.uint64pow10", laid_internal_strconv_uint64pow10)] }
def ServicePrintsSaid : Prop := servicePrintsRow.holds Tryd.pinned (OpenSpec.ofChange servicePrintsSpec)

/-- ITS FALSE NEIGHBOUR: 'it returns false'. Refute it at one input. -/
def servicePrintsWrong : ChangeSpec := { name := "servicePrints", fn := fun _ => fun
  | [d1, d2] => { results := [.lit (.bool false)], args := [d1, d2] }
  | _ => none }
def ServicePrintsWrongFalsely : Prop := servicePrintsRow.holds Tryd.pinned (OpenSpec.ofChange servicePrintsWrong)

/-- 'quicksilverlaw09.ServiceRoots': WHATEVER THE INPUT: true; the input reads as it did. -/
def serviceRootsSpec : ChangeSpec := { name := "serviceRoots", fn := fun _ => fun
  | [d1, d2] => { results := [.lit (.bool true)], args := [d1, d2] }
  | _ => none }
def serviceRootsRow : OpenClaim := { program := "ytnpleednkmhhhaadoor", sum := "717c5d675ff97571c880384d59365ec8818ad1d623d9cce4f5c9ce75ee2fe8d5", func := "quicksilver/quicksilverlaw09.ServiceRoots", spec := "serviceRoots", inPlace := ["internal/abi.NoEscape", "internal/bytealg.MakeNoZero"], unfollowed := true, recurses := true, named := ["internal/strconv.uint64pow10", "math/bits.deBruijn32tab", "math/bits.deBruijn64tab"], apart := false, laid := [("math/bits.deBruijn32tab", laid_math_bits_deBruijn32tab), ("math/bits.deBruijn64tab", laid_math_bits_deBruijn64tab), ("internal/strconv.uint64pow10", laid_internal_strconv_uint64pow10)] }
def ServiceRootsSaid : Prop := serviceRootsRow.holds Tryd.pinned (OpenSpec.ofChange serviceRootsSpec)

/-- ITS FALSE NEIGHBOUR: 'it returns false'. Refute it at one input. -/
def serviceRootsWrong : ChangeSpec := { name := "serviceRoots", fn := fun _ => fun
  | [d1, d2] => { results := [.lit (.bool false)], args := [d1, d2] }
  | _ => none }
def ServiceRootsWrongFalsely : Prop := serviceRootsRow.holds Tryd.pinned (OpenSpec.ofChange serviceRootsWrong)

/-- 'quicksilverlaw09.ServiceFinds': WHATEVER THE INPUT: true; the input reads as it did. -/
def serviceFindsSpec : ChangeSpec := { name := "serviceFinds", fn := fun _ => fun
  | [d1, d2, d3] => { results := [.lit (.bool true)], args := [d1, d2, d3] }
  | _ => none }
def serviceFindsRow : OpenClaim := { program := "ytnpleednkmhhhaadoor", sum := "717c5d675ff97571c880384d59365ec8818ad1d623d9cce4f5c9ce75ee2fe8d5", func := "quicksilver/quicksilverlaw09.ServiceFinds", spec := "serviceFinds", inPlace := ["internal/abi.NoEscape", "internal/bytealg.MakeNoZero"], unfollowed := true, recurses := true, named := ["internal/strconv.uint64pow10", "math/bits.deBruijn32tab", "math/bits.deBruijn64tab"], apart := false, laid := [("math/bits.deBruijn32tab", laid_math_bits_deBruijn32tab), ("math/bits.deBruijn64tab", laid_math_bits_deBruijn64tab), ("internal/strconv.uint64pow10", laid_internal_strconv_uint64pow10)] }
def ServiceFindsSaid : Prop := serviceFindsRow.holds Tryd.pinned (OpenSpec.ofChange serviceFindsSpec)

/-- ITS FALSE NEIGHBOUR: 'it returns false'. Refute it at one input. -/
def serviceFindsWrong : ChangeSpec := { name := "serviceFinds", fn := fun _ => fun
  | [d1, d2, d3] => { results := [.lit (.bool false)], args := [d1, d2, d3] }
  | _ => none }
def ServiceFindsWrongFalsely : Prop := serviceFindsRow.holds Tryd.pinned (OpenSpec.ofChange serviceFindsWrong)

/-- 'quicksilverlaw09.ServicePays': WHATEVER THE INPUT: true; the input reads as it did. -/
def servicePaysSpec : ChangeSpec := { name := "servicePays", fn := fun _ => fun
  | [d1, d2, d3] => { results := [.lit (.bool true)], args := [d1, d2, d3] }
  | _ => none }
def servicePaysRow : OpenClaim := { program := "ytnpleednkmhhhaadoor", sum := "717c5d675ff97571c880384d59365ec8818ad1d623d9cce4f5c9ce75ee2fe8d5", func := "quicksilver/quicksilverlaw09.ServicePays", spec := "servicePays", inPlace := ["internal/abi.NoEscape", "internal/bytealg.MakeNoZero"], unfollowed := true, recurses := true, named := ["internal/strconv.uint64pow10", "math/bits.deBruijn32tab", "math/bits.deBruijn64tab"], apart := false, laid := [("math/bits.deBruijn32tab", laid_math_bits_deBruijn32tab), ("math/bits.deBruijn64tab", laid_math_bits_deBruijn64tab), ("internal/strconv.uint64pow10", laid_internal_strconv_uint64pow10)] }
def ServicePaysSaid : Prop := servicePaysRow.holds Tryd.pinned (OpenSpec.ofChange servicePaysSpec)

/-- ITS FALSE NEIGHBOUR: 'it returns false'. Refute it at one input. -/
def servicePaysWrong : ChangeSpec := { name := "servicePays", fn := fun _ => fun
  | [d1, d2, d3] => { results := [.lit (.bool false)], args := [d1, d2, d3] }
  | _ => none }
def ServicePaysWrongFalsely : Prop := servicePaysRow.holds Tryd.pinned (OpenSpec.ofChange servicePaysWrong)

/-- 'quicksilverlaw09.ServiceExact': WHATEVER THE INPUT: true; the input reads as it did. -/
def serviceExactSpec : ChangeSpec := { name := "serviceExact", fn := fun _ => fun
  | [d] => { results := [.lit (.bool true)], args := [d] }
  | _ => none }
def serviceExactRow : OpenClaim := { program := "ytnpleednkmhhhaadoor", sum := "717c5d675ff97571c880384d59365ec8818ad1d623d9cce4f5c9ce75ee2fe8d5", func := "quicksilver/quicksilverlaw09.ServiceExact", spec := "serviceExact", inPlace := ["internal/abi.NoEscape", "internal/bytealg.MakeNoZero"], unfollowed := true, recurses := true, named := ["internal/strconv.uint64pow10", "math/bits.deBruijn32tab", "math/bits.deBruijn64tab"], apart := false, laid := [("math/bits.deBruijn32tab", laid_math_bits_deBruijn32tab), ("math/bits.deBruijn64tab", laid_math_bits_deBruijn64tab), ("internal/strconv.uint64pow10", laid_internal_strconv_uint64pow10)] }
def ServiceExactSaid : Prop := serviceExactRow.holds Tryd.pinned (OpenSpec.ofChange serviceExactSpec)

/-- ITS FALSE NEIGHBOUR: 'it returns false'. Refute it at one input. -/
def serviceExactWrong : ChangeSpec := { name := "serviceExact", fn := fun _ => fun
  | [d] => { results := [.lit (.bool false)], args := [d] }
  | _ => none }
def ServiceExactWrongFalsely : Prop := serviceExactRow.holds Tryd.pinned (OpenSpec.ofChange serviceExactWrong)

/-- 'quicksilverlaw09.ServiceMade': WHATEVER THE INPUT: true; the input reads as it did. -/
def serviceMadeSpec : ChangeSpec := { name := "serviceMade", fn := fun _ => fun
  | [d1, d2] => { results := [.lit (.bool true)], args := [d1, d2] }
  | _ => none }
def serviceMadeRow : OpenClaim := { program := "ytnpleednkmhhhaadoor", sum := "717c5d675ff97571c880384d59365ec8818ad1d623d9cce4f5c9ce75ee2fe8d5", func := "quicksilver/quicksilverlaw09.ServiceMade", spec := "serviceMade", inPlace := ["internal/abi.NoEscape", "internal/bytealg.MakeNoZero"], unfollowed := true, recurses := true, named := ["internal/strconv.uint64pow10", "math/bits.deBruijn32tab", "math/bits.deBruijn64tab"], apart := false, laid := [("math/bits.deBruijn32tab", laid_math_bits_deBruijn32tab), ("math/bits.deBruijn64tab", laid_math_bits_deBruijn64tab), ("internal/strconv.uint64pow10", laid_internal_strconv_uint64pow10)] }
def ServiceMadeSaid : Prop := serviceMadeRow.holds Tryd.pinned (OpenSpec.ofChange serviceMadeSpec)

/-- ITS FALSE NEIGHBOUR: 'it returns false'. Refute it at one input. -/
def serviceMadeWrong : ChangeSpec := { name := "serviceMade", fn := fun _ => fun
  | [d1, d2] => { results := [.lit (.bool false)], args := [d1, d2] }
  | _ => none }
def ServiceMadeWrongFalsely : Prop := serviceMadeRow.holds Tryd.pinned (OpenSpec.ofChange serviceMadeWrong)

/-- 'quicksilverlaw09.ServicePrinted': WHATEVER THE INPUT: true; the input reads as it did. -/
def servicePrintedSpec : ChangeSpec := { name := "servicePrinted", fn := fun _ => fun
  | [d1, d2] => { results := [.lit (.bool true)], args := [d1, d2] }
  | _ => none }
def servicePrintedRow : OpenClaim := { program := "ytnpleednkmhhhaadoor", sum := "717c5d675ff97571c880384d59365ec8818ad1d623d9cce4f5c9ce75ee2fe8d5", func := "quicksilver/quicksilverlaw09.ServicePrinted", spec := "servicePrinted", inPlace := ["internal/abi.NoEscape", "internal/bytealg.MakeNoZero"], unfollowed := true, recurses := true, named := ["internal/strconv.uint64pow10", "math/bits.deBruijn32tab", "math/bits.deBruijn64tab"], apart := false, laid := [("math/bits.deBruijn32tab", laid_math_bits_deBruijn32tab), ("math/bits.deBruijn64tab", laid_math_bits_deBruijn64tab), ("internal/strconv.uint64pow10", laid_internal_strconv_uint64pow10)] }
def ServicePrintedSaid : Prop := servicePrintedRow.holds Tryd.pinned (OpenSpec.ofChange servicePrintedSpec)

/-- ITS FALSE NEIGHBOUR: 'it returns false'. Refute it at one input. -/
def servicePrintedWrong : ChangeSpec := { name := "servicePrinted", fn := fun _ => fun
  | [d1, d2] => { results := [.lit (.bool false)], args := [d1, d2] }
  | _ => none }
def ServicePrintedWrongFalsely : Prop := servicePrintedRow.holds Tryd.pinned (OpenSpec.ofChange servicePrintedWrong)

/-- 'quicksilverlaw09.ServiceBrackets': WHATEVER THE INPUT: true; the input reads as it did. -/
def serviceBracketsSpec : ChangeSpec := { name := "serviceBrackets", fn := fun _ => fun
  | [d1, d2] => { results := [.lit (.bool true)], args := [d1, d2] }
  | _ => none }
def serviceBracketsRow : OpenClaim := { program := "ytnpleednkmhhhaadoor", sum := "717c5d675ff97571c880384d59365ec8818ad1d623d9cce4f5c9ce75ee2fe8d5", func := "quicksilver/quicksilverlaw09.ServiceBrackets", spec := "serviceBrackets", inPlace := ["internal/abi.NoEscape", "internal/bytealg.MakeNoZero"], unfollowed := true, recurses := true, named := ["internal/strconv.uint64pow10", "math/bits.deBruijn32tab", "math/bits.deBruijn64tab"], apart := false, laid := [("math/bits.deBruijn32tab", laid_math_bits_deBruijn32tab), ("math/bits.deBruijn64tab", laid_math_bits_deBruijn64tab), ("internal/strconv.uint64pow10", laid_internal_strconv_uint64pow10)] }
def ServiceBracketsSaid : Prop := serviceBracketsRow.holds Tryd.pinned (OpenSpec.ofChange serviceBracketsSpec)

/-- ITS FALSE NEIGHBOUR: 'it returns false'. Refute it at one input. -/
def serviceBracketsWrong : ChangeSpec := { name := "serviceBrackets", fn := fun _ => fun
  | [d1, d2] => { results := [.lit (.bool false)], args := [d1, d2] }
  | _ => none }
def ServiceBracketsWrongFalsely : Prop := serviceBracketsRow.holds Tryd.pinned (OpenSpec.ofChange serviceBracketsWrong)

/-- 'quicksilverlaw09.ServiceNarrower': WHATEVER THE INPUT: true; the input reads as it did. -/
def serviceNarrowerSpec : ChangeSpec := { name := "serviceNarrower", fn := fun _ => fun
  | [d1, d2, d3] => { results := [.lit (.bool true)], args := [d1, d2, d3] }
  | _ => none }
def serviceNarrowerRow : OpenClaim := { program := "ytnpleednkmhhhaadoor", sum := "717c5d675ff97571c880384d59365ec8818ad1d623d9cce4f5c9ce75ee2fe8d5", func := "quicksilver/quicksilverlaw09.ServiceNarrower", spec := "serviceNarrower", inPlace := ["internal/abi.NoEscape", "internal/bytealg.MakeNoZero"], unfollowed := true, recurses := true, named := ["internal/strconv.uint64pow10", "math/bits.deBruijn32tab", "math/bits.deBruijn64tab"], apart := false, laid := [("math/bits.deBruijn32tab", laid_math_bits_deBruijn32tab), ("math/bits.deBruijn64tab", laid_math_bits_deBruijn64tab), ("internal/strconv.uint64pow10", laid_internal_strconv_uint64pow10)] }
def ServiceNarrowerSaid : Prop := serviceNarrowerRow.holds Tryd.pinned (OpenSpec.ofChange serviceNarrowerSpec)

/-- ITS FALSE NEIGHBOUR: 'it returns false'. Refute it at one input. -/
def serviceNarrowerWrong : ChangeSpec := { name := "serviceNarrower", fn := fun _ => fun
  | [d1, d2, d3] => { results := [.lit (.bool false)], args := [d1, d2, d3] }
  | _ => none }
def ServiceNarrowerWrongFalsely : Prop := serviceNarrowerRow.holds Tryd.pinned (OpenSpec.ofChange serviceNarrowerWrong)

/- THE SECOND FORM. 'bulk': how many values and letters a reading holds, each counted each time it is reached (what is shared counts as often as it is met; a slice's spare places count too). A statement '..UptoSaid' is the law's where the arguments, and the package variables that the reading takes, are together of bulk at most 1048576: NARROWER than '..Said'. Prove '..Said' where nothing that the law and all that it calls make is longer than what came in: it says more and counts as full. Else prove '..UptoSaid'. A law counts once. -/
mutual
def uptoBulk {H : Type} : DataW H → Nat
  | .lit (.string bytes) => bytes.length + 1
  | .lit _ => 1
  | .nil => 1
  | .ptr d => uptoBulk d + 1
  | .slice elems spare => uptoBulkAll elems + uptoBulkAll spare + 1
  | .agg parts => uptoBulkAll parts + 1
  | .iface _ d => uptoBulk d + 1
  | .map entries => uptoBulkEntries entries + 1
  | .held _ => 1
def uptoBulkAll {H : Type} : List (DataW H) → Nat
  | [] => 0
  | d :: r => uptoBulk d + uptoBulkAll r
def uptoBulkEntries {H : Type} : List (Lit × DataW H) → Nat
  | [] => 0
  | x :: r => uptoBulkEntry x + uptoBulkEntries r
def uptoBulkEntry {H : Type} : Lit × DataW H → Nat
  | (.string bytes, d) => bytes.length + uptoBulk d + 1
  | (_, d) => uptoBulk d + 1
 end
def uptoSmall : (H : Type) → List (DataW H) → Bool := fun _ ds => decide (uptoBulkAll ds ≤ 1048576)
def OpenSpec.upto (s : _root_.Go.ChangeSpec) : _root_.Go.OpenSpec := { _root_.Go.OpenSpec.ofChange s with cond := some uptoSmall }

/-- 'quicksilverlaw09.ServiceSolves', WHERE WHAT IT READS IS OF BULK AT MOST 1048576: true; the input reads as it did. -/
def serviceSolvesUptoRow : OpenClaim := { program := "ytnpleednkmhhhaadoor", sum := "717c5d675ff97571c880384d59365ec8818ad1d623d9cce4f5c9ce75ee2fe8d5", func := "quicksilver/quicksilverlaw09.ServiceSolves", spec := "serviceSolves", inPlace := ["internal/abi.NoEscape", "internal/bytealg.MakeNoZero"], unfollowed := true, recurses := true, named := ["internal/strconv.uint64pow10", "math/bits.deBruijn32tab", "math/bits.deBruijn64tab"], apart := false, laid := [("math/bits.deBruijn32tab", laid_math_bits_deBruijn32tab), ("math/bits.deBruijn64tab", laid_math_bits_deBruijn64tab), ("internal/strconv.uint64pow10", laid_internal_strconv_uint64pow10)], narrowed := true }
def ServiceSolvesUptoSaid : Prop := serviceSolvesUptoRow.holds Tryd.pinned (OpenSpec.upto serviceSolvesSpec)

/-- 'quicksilverlaw09.ServicePrints', WHERE WHAT IT READS IS OF BULK AT MOST 1048576: true; the input reads as it did. -/
def servicePrintsUptoRow : OpenClaim := { program := "ytnpleednkmhhhaadoor", sum := "717c5d675ff97571c880384d59365ec8818ad1d623d9cce4f5c9ce75ee2fe8d5", func := "quicksilver/quicksilverlaw09.ServicePrints", spec := "servicePrints", inPlace := ["internal/abi.NoEscape", "internal/bytealg.MakeNoZero"], unfollowed := true, recurses := true, named := ["internal/strconv.uint64pow10", "math/bits.deBruijn32tab", "math/bits.deBruijn64tab"], apart := false, laid := [("math/bits.deBruijn32tab", laid_math_bits_deBruijn32tab), ("math/bits.deBruijn64tab", laid_math_bits_deBruijn64tab), ("internal/strconv.uint64pow10", laid_internal_strconv_uint64pow10)], narrowed := true }
def ServicePrintsUptoSaid : Prop := servicePrintsUptoRow.holds Tryd.pinned (OpenSpec.upto servicePrintsSpec)

/-- 'quicksilverlaw09.ServiceRoots', WHERE WHAT IT READS IS OF BULK AT MOST 1048576: true; the input reads as it did. -/
def serviceRootsUptoRow : OpenClaim := { program := "ytnpleednkmhhhaadoor", sum := "717c5d675ff97571c880384d59365ec8818ad1d623d9cce4f5c9ce75ee2fe8d5", func := "quicksilver/quicksilverlaw09.ServiceRoots", spec := "serviceRoots", inPlace := ["internal/abi.NoEscape", "internal/bytealg.MakeNoZero"], unfollowed := true, recurses := true, named := ["internal/strconv.uint64pow10", "math/bits.deBruijn32tab", "math/bits.deBruijn64tab"], apart := false, laid := [("math/bits.deBruijn32tab", laid_math_bits_deBruijn32tab), ("math/bits.deBruijn64tab", laid_math_bits_deBruijn64tab), ("internal/strconv.uint64pow10", laid_internal_strconv_uint64pow10)], narrowed := true }
def ServiceRootsUptoSaid : Prop := serviceRootsUptoRow.holds Tryd.pinned (OpenSpec.upto serviceRootsSpec)

/-- 'quicksilverlaw09.ServiceFinds', WHERE WHAT IT READS IS OF BULK AT MOST 1048576: true; the input reads as it did. -/
def serviceFindsUptoRow : OpenClaim := { program := "ytnpleednkmhhhaadoor", sum := "717c5d675ff97571c880384d59365ec8818ad1d623d9cce4f5c9ce75ee2fe8d5", func := "quicksilver/quicksilverlaw09.ServiceFinds", spec := "serviceFinds", inPlace := ["internal/abi.NoEscape", "internal/bytealg.MakeNoZero"], unfollowed := true, recurses := true, named := ["internal/strconv.uint64pow10", "math/bits.deBruijn32tab", "math/bits.deBruijn64tab"], apart := false, laid := [("math/bits.deBruijn32tab", laid_math_bits_deBruijn32tab), ("math/bits.deBruijn64tab", laid_math_bits_deBruijn64tab), ("internal/strconv.uint64pow10", laid_internal_strconv_uint64pow10)], narrowed := true }
def ServiceFindsUptoSaid : Prop := serviceFindsUptoRow.holds Tryd.pinned (OpenSpec.upto serviceFindsSpec)

/-- 'quicksilverlaw09.ServicePays', WHERE WHAT IT READS IS OF BULK AT MOST 1048576: true; the input reads as it did. -/
def servicePaysUptoRow : OpenClaim := { program := "ytnpleednkmhhhaadoor", sum := "717c5d675ff97571c880384d59365ec8818ad1d623d9cce4f5c9ce75ee2fe8d5", func := "quicksilver/quicksilverlaw09.ServicePays", spec := "servicePays", inPlace := ["internal/abi.NoEscape", "internal/bytealg.MakeNoZero"], unfollowed := true, recurses := true, named := ["internal/strconv.uint64pow10", "math/bits.deBruijn32tab", "math/bits.deBruijn64tab"], apart := false, laid := [("math/bits.deBruijn32tab", laid_math_bits_deBruijn32tab), ("math/bits.deBruijn64tab", laid_math_bits_deBruijn64tab), ("internal/strconv.uint64pow10", laid_internal_strconv_uint64pow10)], narrowed := true }
def ServicePaysUptoSaid : Prop := servicePaysUptoRow.holds Tryd.pinned (OpenSpec.upto servicePaysSpec)

/-- 'quicksilverlaw09.ServiceExact', WHERE WHAT IT READS IS OF BULK AT MOST 1048576: true; the input reads as it did. -/
def serviceExactUptoRow : OpenClaim := { program := "ytnpleednkmhhhaadoor", sum := "717c5d675ff97571c880384d59365ec8818ad1d623d9cce4f5c9ce75ee2fe8d5", func := "quicksilver/quicksilverlaw09.ServiceExact", spec := "serviceExact", inPlace := ["internal/abi.NoEscape", "internal/bytealg.MakeNoZero"], unfollowed := true, recurses := true, named := ["internal/strconv.uint64pow10", "math/bits.deBruijn32tab", "math/bits.deBruijn64tab"], apart := false, laid := [("math/bits.deBruijn32tab", laid_math_bits_deBruijn32tab), ("math/bits.deBruijn64tab", laid_math_bits_deBruijn64tab), ("internal/strconv.uint64pow10", laid_internal_strconv_uint64pow10)], narrowed := true }
def ServiceExactUptoSaid : Prop := serviceExactUptoRow.holds Tryd.pinned (OpenSpec.upto serviceExactSpec)

/-- 'quicksilverlaw09.ServiceMade', WHERE WHAT IT READS IS OF BULK AT MOST 1048576: true; the input reads as it did. -/
def serviceMadeUptoRow : OpenClaim := { program := "ytnpleednkmhhhaadoor", sum := "717c5d675ff97571c880384d59365ec8818ad1d623d9cce4f5c9ce75ee2fe8d5", func := "quicksilver/quicksilverlaw09.ServiceMade", spec := "serviceMade", inPlace := ["internal/abi.NoEscape", "internal/bytealg.MakeNoZero"], unfollowed := true, recurses := true, named := ["internal/strconv.uint64pow10", "math/bits.deBruijn32tab", "math/bits.deBruijn64tab"], apart := false, laid := [("math/bits.deBruijn32tab", laid_math_bits_deBruijn32tab), ("math/bits.deBruijn64tab", laid_math_bits_deBruijn64tab), ("internal/strconv.uint64pow10", laid_internal_strconv_uint64pow10)], narrowed := true }
def ServiceMadeUptoSaid : Prop := serviceMadeUptoRow.holds Tryd.pinned (OpenSpec.upto serviceMadeSpec)

/-- 'quicksilverlaw09.ServicePrinted', WHERE WHAT IT READS IS OF BULK AT MOST 1048576: true; the input reads as it did. -/
def servicePrintedUptoRow : OpenClaim := { program := "ytnpleednkmhhhaadoor", sum := "717c5d675ff97571c880384d59365ec8818ad1d623d9cce4f5c9ce75ee2fe8d5", func := "quicksilver/quicksilverlaw09.ServicePrinted", spec := "servicePrinted", inPlace := ["internal/abi.NoEscape", "internal/bytealg.MakeNoZero"], unfollowed := true, recurses := true, named := ["internal/strconv.uint64pow10", "math/bits.deBruijn32tab", "math/bits.deBruijn64tab"], apart := false, laid := [("math/bits.deBruijn32tab", laid_math_bits_deBruijn32tab), ("math/bits.deBruijn64tab", laid_math_bits_deBruijn64tab), ("internal/strconv.uint64pow10", laid_internal_strconv_uint64pow10)], narrowed := true }
def ServicePrintedUptoSaid : Prop := servicePrintedUptoRow.holds Tryd.pinned (OpenSpec.upto servicePrintedSpec)

/-- 'quicksilverlaw09.ServiceBrackets', WHERE WHAT IT READS IS OF BULK AT MOST 1048576: true; the input reads as it did. -/
def serviceBracketsUptoRow : OpenClaim := { program := "ytnpleednkmhhhaadoor", sum := "717c5d675ff97571c880384d59365ec8818ad1d623d9cce4f5c9ce75ee2fe8d5", func := "quicksilver/quicksilverlaw09.ServiceBrackets", spec := "serviceBrackets", inPlace := ["internal/abi.NoEscape", "internal/bytealg.MakeNoZero"], unfollowed := true, recurses := true, named := ["internal/strconv.uint64pow10", "math/bits.deBruijn32tab", "math/bits.deBruijn64tab"], apart := false, laid := [("math/bits.deBruijn32tab", laid_math_bits_deBruijn32tab), ("math/bits.deBruijn64tab", laid_math_bits_deBruijn64tab), ("internal/strconv.uint64pow10", laid_internal_strconv_uint64pow10)], narrowed := true }
def ServiceBracketsUptoSaid : Prop := serviceBracketsUptoRow.holds Tryd.pinned (OpenSpec.upto serviceBracketsSpec)

/-- 'quicksilverlaw09.ServiceNarrower', WHERE WHAT IT READS IS OF BULK AT MOST 1048576: true; the input reads as it did. -/
def serviceNarrowerUptoRow : OpenClaim := { program := "ytnpleednkmhhhaadoor", sum := "717c5d675ff97571c880384d59365ec8818ad1d623d9cce4f5c9ce75ee2fe8d5", func := "quicksilver/quicksilverlaw09.ServiceNarrower", spec := "serviceNarrower", inPlace := ["internal/abi.NoEscape", "internal/bytealg.MakeNoZero"], unfollowed := true, recurses := true, named := ["internal/strconv.uint64pow10", "math/bits.deBruijn32tab", "math/bits.deBruijn64tab"], apart := false, laid := [("math/bits.deBruijn32tab", laid_math_bits_deBruijn32tab), ("math/bits.deBruijn64tab", laid_math_bits_deBruijn64tab), ("internal/strconv.uint64pow10", laid_internal_strconv_uint64pow10)], narrowed := true }
def ServiceNarrowerUptoSaid : Prop := serviceNarrowerUptoRow.holds Tryd.pinned (OpenSpec.upto serviceNarrowerSpec)

end Rows
end Go.Proofs.YtnpleednkmhhhaaDoor
