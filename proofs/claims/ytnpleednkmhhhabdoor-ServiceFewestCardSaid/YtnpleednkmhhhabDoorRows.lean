/-
  NARROWER THAN 'FOR EVERY INPUT', by the rows' own cells (each row's printed sentence says how): ServiceFound: laid · ServiceOnly: laid · ServiceNet: laid · ServiceFewest: laid · ServiceSmooth: laid · ServiceAreas: laid · ServiceKnown: laid · ServiceStrips: laid · ServiceJoined: laid.
  DERIVED. THE GIVEN ROWS OF THIS SEAT. 9 by the template 'for every input the law returns true; each argument reads behind the call as it read before'; 0 by the template 'total and deterministic' (their statements: YtnpleednkmhhhabDoorTotals.lean).
  GIVEN WITH THE SEED: the statements are not yours to turn. If you find one false, say at which input.
  Laid BY PROGRAM, IN A SANDBOX (cutbox-rows.mjs): the forced cells as the released guide's own fill.sh prints them over the translation 4da136ebba4d4b31… (all of the seat's roots in one cut). By AI agents, Wed Nov 11 2026. No macro, syntax, notation, axiom, sorry.
-/
import Derived.Test.YtnpleednkmhhhabDoorChecked
import GoSem.Claim
import GoSem.ClaimJoined
import GoSem.ClaimMapViews
import Derived.JoinedTies
import Derived.KernelRfl
namespace Go.Proofs.YtnpleednkmhhhabDoor
/- THE CELL 'sum', in the pinned program and in every row, IS THE sha256 OF THE DUMP (.gsa) THAT YtnpleednkmhhhabDoorProg.lean LOADS. Nothing in Lean hashes anything: it is a label: what it is worth is what the hold of that sum in a sandbox is worth. -/
noncomputable def Tryd.pinned : Pinned := { name := "ytnpleednkmhhhabdoor", sum := "4da136ebba4d4b31fa39db11de0eb625d90ba2e5913f9eb06f9184121c0a729a", checked := Tryd.checked }
namespace Rows
def none {H : Type} : Left H := { results := [], args := [] }

/- WHAT THE LISTED PACKAGE-LEVEL VARIABLES READ AS WHEN THE CALL BEGINS. Each datum BY PROGRAM (the guide's laid-datum.mjs) off the statement by which the dump's own 'gosem.cut.vars' lays the variable. In a bare row this is a premise. The card (YtnpleednkmhhhabDoorCards.lean) ties it to the program's text. -/
def laid_math_bits_deBruijn32tab {H : Type} : DataW H := .agg [.lit (.int .u8 0), .lit (.int .u8 1), .lit (.int .u8 28), .lit (.int .u8 2), .lit (.int .u8 29), .lit (.int .u8 14), .lit (.int .u8 24), .lit (.int .u8 3), .lit (.int .u8 30), .lit (.int .u8 22), .lit (.int .u8 20), .lit (.int .u8 15), .lit (.int .u8 25), .lit (.int .u8 17), .lit (.int .u8 4), .lit (.int .u8 8), .lit (.int .u8 31), .lit (.int .u8 27), .lit (.int .u8 13), .lit (.int .u8 23), .lit (.int .u8 21), .lit (.int .u8 19), .lit (.int .u8 16), .lit (.int .u8 7), .lit (.int .u8 26), .lit (.int .u8 12), .lit (.int .u8 18), .lit (.int .u8 6), .lit (.int .u8 11), .lit (.int .u8 5), .lit (.int .u8 10), .lit (.int .u8 9)]
def laid_math_bits_deBruijn64tab {H : Type} : DataW H := .agg [.lit (.int .u8 0), .lit (.int .u8 1), .lit (.int .u8 56), .lit (.int .u8 2), .lit (.int .u8 57), .lit (.int .u8 49), .lit (.int .u8 28), .lit (.int .u8 3), .lit (.int .u8 61), .lit (.int .u8 58), .lit (.int .u8 42), .lit (.int .u8 50), .lit (.int .u8 38), .lit (.int .u8 29), .lit (.int .u8 17), .lit (.int .u8 4), .lit (.int .u8 62), .lit (.int .u8 47), .lit (.int .u8 59), .lit (.int .u8 36), .lit (.int .u8 45), .lit (.int .u8 43), .lit (.int .u8 51), .lit (.int .u8 22), .lit (.int .u8 53), .lit (.int .u8 39), .lit (.int .u8 33), .lit (.int .u8 30), .lit (.int .u8 24), .lit (.int .u8 18), .lit (.int .u8 12), .lit (.int .u8 5), .lit (.int .u8 63), .lit (.int .u8 55), .lit (.int .u8 48), .lit (.int .u8 27), .lit (.int .u8 60), .lit (.int .u8 41), .lit (.int .u8 37), .lit (.int .u8 16), .lit (.int .u8 46), .lit (.int .u8 35), .lit (.int .u8 44), .lit (.int .u8 21), .lit (.int .u8 52), .lit (.int .u8 32), .lit (.int .u8 23), .lit (.int .u8 11), .lit (.int .u8 54), .lit (.int .u8 26), .lit (.int .u8 40), .lit (.int .u8 15), .lit (.int .u8 34), .lit (.int .u8 20), .lit (.int .u8 31), .lit (.int .u8 10), .lit (.int .u8 25), .lit (.int .u8 14), .lit (.int .u8 19), .lit (.int .u8 9), .lit (.int .u8 13), .lit (.int .u8 8), .lit (.int .u8 7), .lit (.int .u8 6)]
def laid_internal_strconv_uint64pow10 {H : Type} : DataW H := .agg [.lit (.int .u64 1), .lit (.int .u64 10), .lit (.int .u64 100), .lit (.int .u64 1000), .lit (.int .u64 10000), .lit (.int .u64 100000), .lit (.int .u64 1000000), .lit (.int .u64 10000000), .lit (.int .u64 100000000), .lit (.int .u64 1000000000), .lit (.int .u64 10000000000), .lit (.int .u64 100000000000), .lit (.int .u64 1000000000000), .lit (.int .u64 10000000000000), .lit (.int .u64 100000000000000), .lit (.int .u64 1000000000000000), .lit (.int .u64 10000000000000000), .lit (.int .u64 100000000000000000), .lit (.int .u64 1000000000000000000), .lit (.int .u64 10000000000000000000)]

/-- 'quicksilverlaw09.ServiceFound': WHATEVER THE INPUT: true; the input reads as it did. -/
def serviceFoundSpec : ChangeSpec := { name := "serviceFound", fn := fun _ => fun
  | [d1, d2] => { results := [.lit (.bool true)], args := [d1, d2] }
  | _ => none }
def serviceFoundRow : OpenClaim := { program := "ytnpleednkmhhhabdoor", sum := "4da136ebba4d4b31fa39db11de0eb625d90ba2e5913f9eb06f9184121c0a729a", func := "quicksilver/quicksilverlaw09.ServiceFound", spec := "serviceFound", inPlace := ["internal/abi.NoEscape", "internal/bytealg.MakeNoZero"], unfollowed := true, recurses := true, named := ["internal/strconv.uint64pow10", "math/bits.deBruijn32tab", "math/bits.deBruijn64tab"], apart := false, laid := [("math/bits.deBruijn32tab", laid_math_bits_deBruijn32tab), ("math/bits.deBruijn64tab", laid_math_bits_deBruijn64tab), ("internal/strconv.uint64pow10", laid_internal_strconv_uint64pow10)] }
def ServiceFoundSaid : Prop := serviceFoundRow.holds Tryd.pinned (OpenSpec.ofChange serviceFoundSpec)

/-- ITS FALSE NEIGHBOUR: 'it returns false'. Refute it at one input. -/
def serviceFoundWrong : ChangeSpec := { name := "serviceFound", fn := fun _ => fun
  | [d1, d2] => { results := [.lit (.bool false)], args := [d1, d2] }
  | _ => none }
def ServiceFoundWrongFalsely : Prop := serviceFoundRow.holds Tryd.pinned (OpenSpec.ofChange serviceFoundWrong)

/-- 'quicksilverlaw09.ServiceOnly': WHATEVER THE INPUT: true; the input reads as it did. -/
def serviceOnlySpec : ChangeSpec := { name := "serviceOnly", fn := fun _ => fun
  | [d1, d2, d3] => { results := [.lit (.bool true)], args := [d1, d2, d3] }
  | _ => none }
def serviceOnlyRow : OpenClaim := { program := "ytnpleednkmhhhabdoor", sum := "4da136ebba4d4b31fa39db11de0eb625d90ba2e5913f9eb06f9184121c0a729a", func := "quicksilver/quicksilverlaw09.ServiceOnly", spec := "serviceOnly", inPlace := ["internal/abi.NoEscape", "internal/bytealg.MakeNoZero"], unfollowed := true, recurses := true, named := ["internal/strconv.uint64pow10", "math/bits.deBruijn32tab", "math/bits.deBruijn64tab"], apart := false, laid := [("math/bits.deBruijn32tab", laid_math_bits_deBruijn32tab), ("math/bits.deBruijn64tab", laid_math_bits_deBruijn64tab), ("internal/strconv.uint64pow10", laid_internal_strconv_uint64pow10)] }
def ServiceOnlySaid : Prop := serviceOnlyRow.holds Tryd.pinned (OpenSpec.ofChange serviceOnlySpec)

/-- ITS FALSE NEIGHBOUR: 'it returns false'. Refute it at one input. -/
def serviceOnlyWrong : ChangeSpec := { name := "serviceOnly", fn := fun _ => fun
  | [d1, d2, d3] => { results := [.lit (.bool false)], args := [d1, d2, d3] }
  | _ => none }
def ServiceOnlyWrongFalsely : Prop := serviceOnlyRow.holds Tryd.pinned (OpenSpec.ofChange serviceOnlyWrong)

/-- 'quicksilverlaw09.ServiceNet': WHATEVER THE INPUT: true; the input reads as it did. -/
def serviceNetSpec : ChangeSpec := { name := "serviceNet", fn := fun _ => fun
  | [d1, d2, d3] => { results := [.lit (.bool true)], args := [d1, d2, d3] }
  | _ => none }
def serviceNetRow : OpenClaim := { program := "ytnpleednkmhhhabdoor", sum := "4da136ebba4d4b31fa39db11de0eb625d90ba2e5913f9eb06f9184121c0a729a", func := "quicksilver/quicksilverlaw09.ServiceNet", spec := "serviceNet", inPlace := ["internal/abi.NoEscape", "internal/bytealg.MakeNoZero"], unfollowed := true, recurses := true, named := ["internal/strconv.uint64pow10", "math/bits.deBruijn32tab", "math/bits.deBruijn64tab"], apart := false, laid := [("math/bits.deBruijn32tab", laid_math_bits_deBruijn32tab), ("math/bits.deBruijn64tab", laid_math_bits_deBruijn64tab), ("internal/strconv.uint64pow10", laid_internal_strconv_uint64pow10)] }
def ServiceNetSaid : Prop := serviceNetRow.holds Tryd.pinned (OpenSpec.ofChange serviceNetSpec)

/-- ITS FALSE NEIGHBOUR: 'it returns false'. Refute it at one input. -/
def serviceNetWrong : ChangeSpec := { name := "serviceNet", fn := fun _ => fun
  | [d1, d2, d3] => { results := [.lit (.bool false)], args := [d1, d2, d3] }
  | _ => none }
def ServiceNetWrongFalsely : Prop := serviceNetRow.holds Tryd.pinned (OpenSpec.ofChange serviceNetWrong)

/-- 'quicksilverlaw09.ServiceFewest': WHATEVER THE INPUT: true; the input reads as it did. -/
def serviceFewestSpec : ChangeSpec := { name := "serviceFewest", fn := fun _ => fun
  | [d1, d2] => { results := [.lit (.bool true)], args := [d1, d2] }
  | _ => none }
def serviceFewestRow : OpenClaim := { program := "ytnpleednkmhhhabdoor", sum := "4da136ebba4d4b31fa39db11de0eb625d90ba2e5913f9eb06f9184121c0a729a", func := "quicksilver/quicksilverlaw09.ServiceFewest", spec := "serviceFewest", inPlace := ["internal/abi.NoEscape", "internal/bytealg.MakeNoZero"], unfollowed := true, recurses := true, named := ["internal/strconv.uint64pow10", "math/bits.deBruijn32tab", "math/bits.deBruijn64tab"], apart := false, laid := [("math/bits.deBruijn32tab", laid_math_bits_deBruijn32tab), ("math/bits.deBruijn64tab", laid_math_bits_deBruijn64tab), ("internal/strconv.uint64pow10", laid_internal_strconv_uint64pow10)] }
def ServiceFewestSaid : Prop := serviceFewestRow.holds Tryd.pinned (OpenSpec.ofChange serviceFewestSpec)

/-- ITS FALSE NEIGHBOUR: 'it returns false'. Refute it at one input. -/
def serviceFewestWrong : ChangeSpec := { name := "serviceFewest", fn := fun _ => fun
  | [d1, d2] => { results := [.lit (.bool false)], args := [d1, d2] }
  | _ => none }
def ServiceFewestWrongFalsely : Prop := serviceFewestRow.holds Tryd.pinned (OpenSpec.ofChange serviceFewestWrong)

/-- 'quicksilverlaw09.ServiceSmooth': WHATEVER THE INPUT: true; the input reads as it did. -/
def serviceSmoothSpec : ChangeSpec := { name := "serviceSmooth", fn := fun _ => fun
  | [d1, d2] => { results := [.lit (.bool true)], args := [d1, d2] }
  | _ => none }
def serviceSmoothRow : OpenClaim := { program := "ytnpleednkmhhhabdoor", sum := "4da136ebba4d4b31fa39db11de0eb625d90ba2e5913f9eb06f9184121c0a729a", func := "quicksilver/quicksilverlaw09.ServiceSmooth", spec := "serviceSmooth", inPlace := ["internal/abi.NoEscape", "internal/bytealg.MakeNoZero"], unfollowed := true, recurses := true, named := ["internal/strconv.uint64pow10", "math/bits.deBruijn32tab", "math/bits.deBruijn64tab"], apart := false, laid := [("math/bits.deBruijn32tab", laid_math_bits_deBruijn32tab), ("math/bits.deBruijn64tab", laid_math_bits_deBruijn64tab), ("internal/strconv.uint64pow10", laid_internal_strconv_uint64pow10)] }
def ServiceSmoothSaid : Prop := serviceSmoothRow.holds Tryd.pinned (OpenSpec.ofChange serviceSmoothSpec)

/-- ITS FALSE NEIGHBOUR: 'it returns false'. Refute it at one input. -/
def serviceSmoothWrong : ChangeSpec := { name := "serviceSmooth", fn := fun _ => fun
  | [d1, d2] => { results := [.lit (.bool false)], args := [d1, d2] }
  | _ => none }
def ServiceSmoothWrongFalsely : Prop := serviceSmoothRow.holds Tryd.pinned (OpenSpec.ofChange serviceSmoothWrong)

/-- 'quicksilverlaw09.ServiceAreas': WHATEVER THE INPUT: true; the input reads as it did. -/
def serviceAreasSpec : ChangeSpec := { name := "serviceAreas", fn := fun _ => fun
  | [d1, d2] => { results := [.lit (.bool true)], args := [d1, d2] }
  | _ => none }
def serviceAreasRow : OpenClaim := { program := "ytnpleednkmhhhabdoor", sum := "4da136ebba4d4b31fa39db11de0eb625d90ba2e5913f9eb06f9184121c0a729a", func := "quicksilver/quicksilverlaw09.ServiceAreas", spec := "serviceAreas", inPlace := ["internal/abi.NoEscape", "internal/bytealg.MakeNoZero"], unfollowed := true, recurses := true, named := ["internal/strconv.uint64pow10", "math/bits.deBruijn32tab", "math/bits.deBruijn64tab"], apart := false, laid := [("math/bits.deBruijn32tab", laid_math_bits_deBruijn32tab), ("math/bits.deBruijn64tab", laid_math_bits_deBruijn64tab), ("internal/strconv.uint64pow10", laid_internal_strconv_uint64pow10)] }
def ServiceAreasSaid : Prop := serviceAreasRow.holds Tryd.pinned (OpenSpec.ofChange serviceAreasSpec)

/-- ITS FALSE NEIGHBOUR: 'it returns false'. Refute it at one input. -/
def serviceAreasWrong : ChangeSpec := { name := "serviceAreas", fn := fun _ => fun
  | [d1, d2] => { results := [.lit (.bool false)], args := [d1, d2] }
  | _ => none }
def ServiceAreasWrongFalsely : Prop := serviceAreasRow.holds Tryd.pinned (OpenSpec.ofChange serviceAreasWrong)

/-- 'quicksilverlaw09.ServiceKnown': WHATEVER THE INPUT: true; the input reads as it did. -/
def serviceKnownSpec : ChangeSpec := { name := "serviceKnown", fn := fun _ => fun
  | [] => { results := [.lit (.bool true)], args := [] }
  | _ => none }
def serviceKnownRow : OpenClaim := { program := "ytnpleednkmhhhabdoor", sum := "4da136ebba4d4b31fa39db11de0eb625d90ba2e5913f9eb06f9184121c0a729a", func := "quicksilver/quicksilverlaw09.ServiceKnown", spec := "serviceKnown", inPlace := ["internal/abi.NoEscape", "internal/bytealg.MakeNoZero"], unfollowed := true, recurses := true, named := ["internal/strconv.uint64pow10", "math/bits.deBruijn32tab", "math/bits.deBruijn64tab"], apart := false, laid := [("math/bits.deBruijn32tab", laid_math_bits_deBruijn32tab), ("math/bits.deBruijn64tab", laid_math_bits_deBruijn64tab), ("internal/strconv.uint64pow10", laid_internal_strconv_uint64pow10)] }
def ServiceKnownSaid : Prop := serviceKnownRow.holds Tryd.pinned (OpenSpec.ofChange serviceKnownSpec)

/-- ITS FALSE NEIGHBOUR: 'it returns false'. Refute it at one input. -/
def serviceKnownWrong : ChangeSpec := { name := "serviceKnown", fn := fun _ => fun
  | [] => { results := [.lit (.bool false)], args := [] }
  | _ => none }
def ServiceKnownWrongFalsely : Prop := serviceKnownRow.holds Tryd.pinned (OpenSpec.ofChange serviceKnownWrong)

/-- 'quicksilverlaw09.ServiceStrips': WHATEVER THE INPUT: true; the input reads as it did. -/
def serviceStripsSpec : ChangeSpec := { name := "serviceStrips", fn := fun _ => fun
  | [d1, d2] => { results := [.lit (.bool true)], args := [d1, d2] }
  | _ => none }
def serviceStripsRow : OpenClaim := { program := "ytnpleednkmhhhabdoor", sum := "4da136ebba4d4b31fa39db11de0eb625d90ba2e5913f9eb06f9184121c0a729a", func := "quicksilver/quicksilverlaw09.ServiceStrips", spec := "serviceStrips", inPlace := ["internal/abi.NoEscape", "internal/bytealg.MakeNoZero"], unfollowed := true, recurses := true, named := ["internal/strconv.uint64pow10", "math/bits.deBruijn32tab", "math/bits.deBruijn64tab"], apart := false, laid := [("math/bits.deBruijn32tab", laid_math_bits_deBruijn32tab), ("math/bits.deBruijn64tab", laid_math_bits_deBruijn64tab), ("internal/strconv.uint64pow10", laid_internal_strconv_uint64pow10)] }
def ServiceStripsSaid : Prop := serviceStripsRow.holds Tryd.pinned (OpenSpec.ofChange serviceStripsSpec)

/-- ITS FALSE NEIGHBOUR: 'it returns false'. Refute it at one input. -/
def serviceStripsWrong : ChangeSpec := { name := "serviceStrips", fn := fun _ => fun
  | [d1, d2] => { results := [.lit (.bool false)], args := [d1, d2] }
  | _ => none }
def ServiceStripsWrongFalsely : Prop := serviceStripsRow.holds Tryd.pinned (OpenSpec.ofChange serviceStripsWrong)

/-- 'quicksilverlaw09.ServiceJoined': WHATEVER THE INPUT: true; the input reads as it did. -/
def serviceJoinedSpec : ChangeSpec := { name := "serviceJoined", fn := fun _ => fun
  | [d1, d2] => { results := [.lit (.bool true)], args := [d1, d2] }
  | _ => none }
def serviceJoinedRow : OpenClaim := { program := "ytnpleednkmhhhabdoor", sum := "4da136ebba4d4b31fa39db11de0eb625d90ba2e5913f9eb06f9184121c0a729a", func := "quicksilver/quicksilverlaw09.ServiceJoined", spec := "serviceJoined", inPlace := ["internal/abi.NoEscape", "internal/bytealg.MakeNoZero"], unfollowed := true, recurses := true, named := ["internal/strconv.uint64pow10", "math/bits.deBruijn32tab", "math/bits.deBruijn64tab"], apart := false, laid := [("math/bits.deBruijn32tab", laid_math_bits_deBruijn32tab), ("math/bits.deBruijn64tab", laid_math_bits_deBruijn64tab), ("internal/strconv.uint64pow10", laid_internal_strconv_uint64pow10)] }
def ServiceJoinedSaid : Prop := serviceJoinedRow.holds Tryd.pinned (OpenSpec.ofChange serviceJoinedSpec)

/-- ITS FALSE NEIGHBOUR: 'it returns false'. Refute it at one input. -/
def serviceJoinedWrong : ChangeSpec := { name := "serviceJoined", fn := fun _ => fun
  | [d1, d2] => { results := [.lit (.bool false)], args := [d1, d2] }
  | _ => none }
def ServiceJoinedWrongFalsely : Prop := serviceJoinedRow.holds Tryd.pinned (OpenSpec.ofChange serviceJoinedWrong)

/- THE SECOND FORM. 'bulk': how many values and letters a reading holds, each counted each time it is reached (what is shared counts as often as it is met; a slice's spare places count too). A statement '..UptoSaid' is the law's where the arguments, and the package variables that the reading takes, are together of bulk at most 1048576: NARROWER than '..Said'. Prove '..Said' where nothing that the law and all that it calls make is longer than what came in: it says more and counts as full. Else prove '..UptoSaid'. A law counts once. -/
mutual
def uptoBulk {H : Type} : DataW H → Nat
  | .lit (.string bytes) => bytes.length + 1
  | .lit _ => 1
  | .nil => 1
  | .ptr d => uptoBulk d + 1
  | .slice elems spare => uptoBulkAll elems + uptoBulkAll spare + 1
  | .agg parts => uptoBulkAll parts + 1
  | .iface _ d => uptoBulk d + 1
  | .map entries => uptoBulkEntries entries + 1
  | .held _ => 1
def uptoBulkAll {H : Type} : List (DataW H) → Nat
  | [] => 0
  | d :: r => uptoBulk d + uptoBulkAll r
def uptoBulkEntries {H : Type} : List (Lit × DataW H) → Nat
  | [] => 0
  | x :: r => uptoBulkEntry x + uptoBulkEntries r
def uptoBulkEntry {H : Type} : Lit × DataW H → Nat
  | (.string bytes, d) => bytes.length + uptoBulk d + 1
  | (_, d) => uptoBulk d + 1
 end
def uptoSmall : (H : Type) → List (DataW H) → Bool := fun _ ds => decide (uptoBulkAll ds ≤ 1048576)
def OpenSpec.upto (s : _root_.Go.ChangeSpec) : _root_.Go.OpenSpec := { _root_.Go.OpenSpec.ofChange s with cond := some uptoSmall }

/-- 'quicksilverlaw09.ServiceFound', WHERE WHAT IT READS IS OF BULK AT MOST 1048576: true; the input reads as it did. -/
def serviceFoundUptoRow : OpenClaim := { program := "ytnpleednkmhhhabdoor", sum := "4da136ebba4d4b31fa39db11de0eb625d90ba2e5913f9eb06f9184121c0a729a", func := "quicksilver/quicksilverlaw09.ServiceFound", spec := "serviceFound", inPlace := ["internal/abi.NoEscape", "internal/bytealg.MakeNoZero"], unfollowed := true, recurses := true, named := ["internal/strconv.uint64pow10", "math/bits.deBruijn32tab", "math/bits.deBruijn64tab"], apart := false, laid := [("math/bits.deBruijn32tab", laid_math_bits_deBruijn32tab), ("math/bits.deBruijn64tab", laid_math_bits_deBruijn64tab), ("internal/strconv.uint64pow10", laid_internal_strconv_uint64pow10)], narrowed := true }
def ServiceFoundUptoSaid : Prop := serviceFoundUptoRow.holds Tryd.pinned (OpenSpec.upto serviceFoundSpec)

/-- 'quicksilverlaw09.ServiceOnly', WHERE WHAT IT READS IS OF BULK AT MOST 1048576: true; the input reads as it did. -/
def serviceOnlyUptoRow : OpenClaim := { program := "ytnpleednkmhhhabdoor", sum := "4da136ebba4d4b31fa39db11de0eb625d90ba2e5913f9eb06f9184121c0a729a", func := "quicksilver/quicksilverlaw09.ServiceOnly", spec := "serviceOnly", inPlace := ["internal/abi.NoEscape", "internal/bytealg.MakeNoZero"], unfollowed := true, recurses := true, named := ["internal/strconv.uint64pow10", "math/bits.deBruijn32tab", "math/bits.deBruijn64tab"], apart := false, laid := [("math/bits.deBruijn32tab", laid_math_bits_deBruijn32tab), ("math/bits.deBruijn64tab", laid_math_bits_deBruijn64tab), ("internal/strconv.uint64pow10", laid_internal_strconv_uint64pow10)], narrowed := true }
def ServiceOnlyUptoSaid : Prop := serviceOnlyUptoRow.holds Tryd.pinned (OpenSpec.upto serviceOnlySpec)

/-- 'quicksilverlaw09.ServiceNet', WHERE WHAT IT READS IS OF BULK AT MOST 1048576: true; the input reads as it did. -/
def serviceNetUptoRow : OpenClaim := { program := "ytnpleednkmhhhabdoor", sum := "4da136ebba4d4b31fa39db11de0eb625d90ba2e5913f9eb06f9184121c0a729a", func := "quicksilver/quicksilverlaw09.ServiceNet", spec := "serviceNet", inPlace := ["internal/abi.NoEscape", "internal/bytealg.MakeNoZero"], unfollowed := true, recurses := true, named := ["internal/strconv.uint64pow10", "math/bits.deBruijn32tab", "math/bits.deBruijn64tab"], apart := false, laid := [("math/bits.deBruijn32tab", laid_math_bits_deBruijn32tab), ("math/bits.deBruijn64tab", laid_math_bits_deBruijn64tab), ("internal/strconv.uint64pow10", laid_internal_strconv_uint64pow10)], narrowed := true }
def ServiceNetUptoSaid : Prop := serviceNetUptoRow.holds Tryd.pinned (OpenSpec.upto serviceNetSpec)

/-- 'quicksilverlaw09.ServiceFewest', WHERE WHAT IT READS IS OF BULK AT MOST 1048576: true; the input reads as it did. -/
def serviceFewestUptoRow : OpenClaim := { program := "ytnpleednkmhhhabdoor", sum := "4da136ebba4d4b31fa39db11de0eb625d90ba2e5913f9eb06f9184121c0a729a", func := "quicksilver/quicksilverlaw09.ServiceFewest", spec := "serviceFewest", inPlace := ["internal/abi.NoEscape", "internal/bytealg.MakeNoZero"], unfollowed := true, recurses := true, named := ["internal/strconv.uint64pow10", "math/bits.deBruijn32tab", "math/bits.deBruijn64tab"], apart := false, laid := [("math/bits.deBruijn32tab", laid_math_bits_deBruijn32tab), ("math/bits.deBruijn64tab", laid_math_bits_deBruijn64tab), ("internal/strconv.uint64pow10", laid_internal_strconv_uint64pow10)], narrowed := true }
def ServiceFewestUptoSaid : Prop := serviceFewestUptoRow.holds Tryd.pinned (OpenSpec.upto serviceFewestSpec)

/-- 'quicksilverlaw09.ServiceSmooth', WHERE WHAT IT READS IS OF BULK AT MOST 1048576: true; the input reads as it did. -/
def serviceSmoothUptoRow : OpenClaim := { program := "ytnpleednkmhhhabdoor", sum := "4da136ebba4d4b31fa39db11de0eb625d90ba2e5913f9eb06f9184121c0a729a", func := "quicksilver/quicksilverlaw09.ServiceSmooth", spec := "serviceSmooth", inPlace := ["internal/abi.NoEscape", "internal/bytealg.MakeNoZero"], unfollowed := true, recurses := true, named := ["internal/strconv.uint64pow10", "math/bits.deBruijn32tab", "math/bits.deBruijn64tab"], apart := false, laid := [("math/bits.deBruijn32tab", laid_math_bits_deBruijn32tab), ("math/bits.deBruijn64tab", laid_math_bits_deBruijn64tab), ("internal/strconv.uint64pow10", laid_internal_strconv_uint64pow10)], narrowed := true }
def ServiceSmoothUptoSaid : Prop := serviceSmoothUptoRow.holds Tryd.pinned (OpenSpec.upto serviceSmoothSpec)

/-- 'quicksilverlaw09.ServiceAreas', WHERE WHAT IT READS IS OF BULK AT MOST 1048576: true; the input reads as it did. -/
def serviceAreasUptoRow : OpenClaim := { program := "ytnpleednkmhhhabdoor", sum := "4da136ebba4d4b31fa39db11de0eb625d90ba2e5913f9eb06f9184121c0a729a", func := "quicksilver/quicksilverlaw09.ServiceAreas", spec := "serviceAreas", inPlace := ["internal/abi.NoEscape", "internal/bytealg.MakeNoZero"], unfollowed := true, recurses := true, named := ["internal/strconv.uint64pow10", "math/bits.deBruijn32tab", "math/bits.deBruijn64tab"], apart := false, laid := [("math/bits.deBruijn32tab", laid_math_bits_deBruijn32tab), ("math/bits.deBruijn64tab", laid_math_bits_deBruijn64tab), ("internal/strconv.uint64pow10", laid_internal_strconv_uint64pow10)], narrowed := true }
def ServiceAreasUptoSaid : Prop := serviceAreasUptoRow.holds Tryd.pinned (OpenSpec.upto serviceAreasSpec)

/-- 'quicksilverlaw09.ServiceKnown', WHERE WHAT IT READS IS OF BULK AT MOST 1048576: true; the input reads as it did. -/
def serviceKnownUptoRow : OpenClaim := { program := "ytnpleednkmhhhabdoor", sum := "4da136ebba4d4b31fa39db11de0eb625d90ba2e5913f9eb06f9184121c0a729a", func := "quicksilver/quicksilverlaw09.ServiceKnown", spec := "serviceKnown", inPlace := ["internal/abi.NoEscape", "internal/bytealg.MakeNoZero"], unfollowed := true, recurses := true, named := ["internal/strconv.uint64pow10", "math/bits.deBruijn32tab", "math/bits.deBruijn64tab"], apart := false, laid := [("math/bits.deBruijn32tab", laid_math_bits_deBruijn32tab), ("math/bits.deBruijn64tab", laid_math_bits_deBruijn64tab), ("internal/strconv.uint64pow10", laid_internal_strconv_uint64pow10)], narrowed := true }
def ServiceKnownUptoSaid : Prop := serviceKnownUptoRow.holds Tryd.pinned (OpenSpec.upto serviceKnownSpec)

/-- 'quicksilverlaw09.ServiceStrips', WHERE WHAT IT READS IS OF BULK AT MOST 1048576: true; the input reads as it did. -/
def serviceStripsUptoRow : OpenClaim := { program := "ytnpleednkmhhhabdoor", sum := "4da136ebba4d4b31fa39db11de0eb625d90ba2e5913f9eb06f9184121c0a729a", func := "quicksilver/quicksilverlaw09.ServiceStrips", spec := "serviceStrips", inPlace := ["internal/abi.NoEscape", "internal/bytealg.MakeNoZero"], unfollowed := true, recurses := true, named := ["internal/strconv.uint64pow10", "math/bits.deBruijn32tab", "math/bits.deBruijn64tab"], apart := false, laid := [("math/bits.deBruijn32tab", laid_math_bits_deBruijn32tab), ("math/bits.deBruijn64tab", laid_math_bits_deBruijn64tab), ("internal/strconv.uint64pow10", laid_internal_strconv_uint64pow10)], narrowed := true }
def ServiceStripsUptoSaid : Prop := serviceStripsUptoRow.holds Tryd.pinned (OpenSpec.upto serviceStripsSpec)

/-- 'quicksilverlaw09.ServiceJoined', WHERE WHAT IT READS IS OF BULK AT MOST 1048576: true; the input reads as it did. -/
def serviceJoinedUptoRow : OpenClaim := { program := "ytnpleednkmhhhabdoor", sum := "4da136ebba4d4b31fa39db11de0eb625d90ba2e5913f9eb06f9184121c0a729a", func := "quicksilver/quicksilverlaw09.ServiceJoined", spec := "serviceJoined", inPlace := ["internal/abi.NoEscape", "internal/bytealg.MakeNoZero"], unfollowed := true, recurses := true, named := ["internal/strconv.uint64pow10", "math/bits.deBruijn32tab", "math/bits.deBruijn64tab"], apart := false, laid := [("math/bits.deBruijn32tab", laid_math_bits_deBruijn32tab), ("math/bits.deBruijn64tab", laid_math_bits_deBruijn64tab), ("internal/strconv.uint64pow10", laid_internal_strconv_uint64pow10)], narrowed := true }
def ServiceJoinedUptoSaid : Prop := serviceJoinedUptoRow.holds Tryd.pinned (OpenSpec.upto serviceJoinedSpec)

end Rows
end Go.Proofs.YtnpleednkmhhhabDoor
