/-
  NARROWER THAN 'FOR EVERY INPUT', by the rows' own cells (each row's printed sentence says how): LinkTwo: laid · LinkLearns: laid · LinkOld: laid · LinkLease: laid · LinkTail: laid · LinkPass: laid · LinkAcks: laid · LinkNeeds: laid · LinkWrites: laid · LinkForeign: laid · LinkNone: laid · LinkReads: laid.
  DERIVED. THE GIVEN ROWS OF THIS SEAT. 12 by the template 'for every input the law returns true; each argument reads behind the call as it read before'; 0 by the template 'total and deterministic' (their statements: YtefdfaeieekioaaGreatDoorTotals.lean).
  GIVEN WITH THE SEED: the statements are not yours to turn. If you find one false, say at which input.
  Laid BY PROGRAM, IN A SANDBOX (cutbox-rows.mjs): the forced cells as the released guide's own fill.sh prints them over the translation a9afce7729c13fa1… (all of the seat's roots in one cut). By AI agents, Wed Nov 11 2026. No macro, syntax, notation, axiom, sorry.
-/
import Derived.Test.YtefdfaeieekioaaGreatDoorChecked
import GoSem.Claim
import GoSem.ClaimJoined
import GoSem.ClaimMapViews
import Derived.JoinedTies
import Derived.KernelRfl
namespace Go.Proofs.YtefdfaeieekioaaGreatDoor
/- THE CELL 'sum', in the pinned program and in every row, IS THE sha256 OF THE DUMP (.gsa) THAT YtefdfaeieekioaaGreatDoorProg.lean LOADS. Nothing in Lean hashes anything: it is a label: what it is worth is what the hold of that sum in a sandbox is worth. -/
noncomputable def Tryz.pinned : Pinned := { name := "ytefdfaeieekioaagreatdoor", sum := "a9afce7729c13fa1f61e7b1ead113850efd53a9c0590dc205c1c736c61c161c4", checked := Tryz.checked }
namespace Rows
def none {H : Type} : Left H := { results := [], args := [] }

/- WHAT THE LISTED PACKAGE-LEVEL VARIABLES READ AS WHEN THE CALL BEGINS. Each datum BY PROGRAM (the guide's laid-datum.mjs) off the statement by which the dump's own 'gosem.cut.vars' lays the variable. In a bare row this is a premise. The card (YtefdfaeieekioaaGreatDoorCards.lean) ties it to the program's text. -/
def laid_math_bits_deBruijn32tab {H : Type} : DataW H := .agg [.lit (.int .u8 0), .lit (.int .u8 1), .lit (.int .u8 28), .lit (.int .u8 2), .lit (.int .u8 29), .lit (.int .u8 14), .lit (.int .u8 24), .lit (.int .u8 3), .lit (.int .u8 30), .lit (.int .u8 22), .lit (.int .u8 20), .lit (.int .u8 15), .lit (.int .u8 25), .lit (.int .u8 17), .lit (.int .u8 4), .lit (.int .u8 8), .lit (.int .u8 31), .lit (.int .u8 27), .lit (.int .u8 13), .lit (.int .u8 23), .lit (.int .u8 21), .lit (.int .u8 19), .lit (.int .u8 16), .lit (.int .u8 7), .lit (.int .u8 26), .lit (.int .u8 12), .lit (.int .u8 18), .lit (.int .u8 6), .lit (.int .u8 11), .lit (.int .u8 5), .lit (.int .u8 10), .lit (.int .u8 9)]
def laid_math_bits_deBruijn64tab {H : Type} : DataW H := .agg [.lit (.int .u8 0), .lit (.int .u8 1), .lit (.int .u8 56), .lit (.int .u8 2), .lit (.int .u8 57), .lit (.int .u8 49), .lit (.int .u8 28), .lit (.int .u8 3), .lit (.int .u8 61), .lit (.int .u8 58), .lit (.int .u8 42), .lit (.int .u8 50), .lit (.int .u8 38), .lit (.int .u8 29), .lit (.int .u8 17), .lit (.int .u8 4), .lit (.int .u8 62), .lit (.int .u8 47), .lit (.int .u8 59), .lit (.int .u8 36), .lit (.int .u8 45), .lit (.int .u8 43), .lit (.int .u8 51), .lit (.int .u8 22), .lit (.int .u8 53), .lit (.int .u8 39), .lit (.int .u8 33), .lit (.int .u8 30), .lit (.int .u8 24), .lit (.int .u8 18), .lit (.int .u8 12), .lit (.int .u8 5), .lit (.int .u8 63), .lit (.int .u8 55), .lit (.int .u8 48), .lit (.int .u8 27), .lit (.int .u8 60), .lit (.int .u8 41), .lit (.int .u8 37), .lit (.int .u8 16), .lit (.int .u8 46), .lit (.int .u8 35), .lit (.int .u8 44), .lit (.int .u8 21), .lit (.int .u8 52), .lit (.int .u8 32), .lit (.int .u8 23), .lit (.int .u8 11), .lit (.int .u8 54), .lit (.int .u8 26), .lit (.int .u8 40), .lit (.int .u8 15), .lit (.int .u8 34), .lit (.int .u8 20), .lit (.int .u8 31), .lit (.int .u8 10), .lit (.int .u8 25), .lit (.int .u8 14), .lit (.int .u8 19), .lit (.int .u8 9), .lit (.int .u8 13), .lit (.int .u8 8), .lit (.int .u8 7), .lit (.int .u8 6)]
def laid_internal_strconv_uint64pow10 {H : Type} : DataW H := .agg [.lit (.int .u64 1), .lit (.int .u64 10), .lit (.int .u64 100), .lit (.int .u64 1000), .lit (.int .u64 10000), .lit (.int .u64 100000), .lit (.int .u64 1000000), .lit (.int .u64 10000000), .lit (.int .u64 100000000), .lit (.int .u64 1000000000), .lit (.int .u64 10000000000), .lit (.int .u64 100000000000), .lit (.int .u64 1000000000000), .lit (.int .u64 10000000000000), .lit (.int .u64 100000000000000), .lit (.int .u64 1000000000000000), .lit (.int .u64 10000000000000000), .lit (.int .u64 100000000000000000), .lit (.int .u64 1000000000000000000), .lit (.int .u64 10000000000000000000)]
def laid_strconv_ErrRange {H : Type} : DataW H := .iface "*errors.errorString" (.ptr (.agg [.lit (.string [118, 97, 108, 117, 101, 32, 111, 117, 116, 32, 111, 102, 32, 114, 97, 110, 103, 101])]))
def laid_strconv_ErrSyntax {H : Type} : DataW H := .iface "*errors.errorString" (.ptr (.agg [.lit (.string [105, 110, 118, 97, 108, 105, 100, 32, 115, 121, 110, 116, 97, 120])]))

/-- 'armariumlaw13.LinkTwo': WHATEVER THE INPUT: true; the input reads as it did. -/
def linkTwoSpec : ChangeSpec := { name := "linkTwo", fn := fun _ => fun
  | [d1, d2] => { results := [.lit (.bool true)], args := [d1, d2] }
  | _ => none }
def linkTwoRow : OpenClaim := { program := "ytefdfaeieekioaagreatdoor", sum := "a9afce7729c13fa1f61e7b1ead113850efd53a9c0590dc205c1c736c61c161c4", func := "armarium/armariumlaw13.LinkTwo", spec := "linkTwo", inPlace := ["math.archTrunc", "math.Float64bits", "math.Float64frombits", "internal/abi.NoEscape", "internal/bytealg.IndexByteString", "slices.overlaps[armarium/api.Entry]", "slices.overlaps[armarium/api.Memo]"], unfollowed := true, recurses := true, named := ["internal/strconv.uint64pow10", "math/bits.deBruijn32tab", "math/bits.deBruijn64tab", "strconv.ErrSyntax", "strconv.ErrRange"], apart := false, laid := [("math/bits.deBruijn32tab", laid_math_bits_deBruijn32tab), ("math/bits.deBruijn64tab", laid_math_bits_deBruijn64tab), ("internal/strconv.uint64pow10", laid_internal_strconv_uint64pow10), ("strconv.ErrRange", laid_strconv_ErrRange), ("strconv.ErrSyntax", laid_strconv_ErrSyntax)] }
def LinkTwoSaid : Prop := linkTwoRow.holds Tryz.pinned (OpenSpec.ofChange linkTwoSpec)

/-- ITS FALSE NEIGHBOUR: 'it returns false'. Refute it at one input. -/
def linkTwoWrong : ChangeSpec := { name := "linkTwo", fn := fun _ => fun
  | [d1, d2] => { results := [.lit (.bool false)], args := [d1, d2] }
  | _ => none }
def LinkTwoWrongFalsely : Prop := linkTwoRow.holds Tryz.pinned (OpenSpec.ofChange linkTwoWrong)

/-- 'armariumlaw13.LinkLearns': WHATEVER THE INPUT: true; the input reads as it did. -/
def linkLearnsSpec : ChangeSpec := { name := "linkLearns", fn := fun _ => fun
  | [d1, d2, d3] => { results := [.lit (.bool true)], args := [d1, d2, d3] }
  | _ => none }
def linkLearnsRow : OpenClaim := { program := "ytefdfaeieekioaagreatdoor", sum := "a9afce7729c13fa1f61e7b1ead113850efd53a9c0590dc205c1c736c61c161c4", func := "armarium/armariumlaw13.LinkLearns", spec := "linkLearns", inPlace := ["math.archTrunc", "math.Float64bits", "math.Float64frombits", "internal/abi.NoEscape", "internal/bytealg.IndexByteString", "slices.overlaps[armarium/api.Entry]", "slices.overlaps[armarium/api.Memo]"], unfollowed := true, recurses := true, named := ["internal/strconv.uint64pow10", "math/bits.deBruijn32tab", "math/bits.deBruijn64tab", "strconv.ErrSyntax", "strconv.ErrRange"], apart := false, laid := [("math/bits.deBruijn32tab", laid_math_bits_deBruijn32tab), ("math/bits.deBruijn64tab", laid_math_bits_deBruijn64tab), ("internal/strconv.uint64pow10", laid_internal_strconv_uint64pow10), ("strconv.ErrRange", laid_strconv_ErrRange), ("strconv.ErrSyntax", laid_strconv_ErrSyntax)] }
def LinkLearnsSaid : Prop := linkLearnsRow.holds Tryz.pinned (OpenSpec.ofChange linkLearnsSpec)

/-- ITS FALSE NEIGHBOUR: 'it returns false'. Refute it at one input. -/
def linkLearnsWrong : ChangeSpec := { name := "linkLearns", fn := fun _ => fun
  | [d1, d2, d3] => { results := [.lit (.bool false)], args := [d1, d2, d3] }
  | _ => none }
def LinkLearnsWrongFalsely : Prop := linkLearnsRow.holds Tryz.pinned (OpenSpec.ofChange linkLearnsWrong)

/-- 'armariumlaw13.LinkOld': WHATEVER THE INPUT: true; the input reads as it did. -/
def linkOldSpec : ChangeSpec := { name := "linkOld", fn := fun _ => fun
  | [d1, d2, d3] => { results := [.lit (.bool true)], args := [d1, d2, d3] }
  | _ => none }
def linkOldRow : OpenClaim := { program := "ytefdfaeieekioaagreatdoor", sum := "a9afce7729c13fa1f61e7b1ead113850efd53a9c0590dc205c1c736c61c161c4", func := "armarium/armariumlaw13.LinkOld", spec := "linkOld", inPlace := ["math.archTrunc", "math.Float64bits", "math.Float64frombits", "internal/abi.NoEscape", "internal/bytealg.IndexByteString", "slices.overlaps[armarium/api.Entry]", "slices.overlaps[armarium/api.Memo]"], unfollowed := true, recurses := true, named := ["internal/strconv.uint64pow10", "math/bits.deBruijn32tab", "math/bits.deBruijn64tab", "strconv.ErrSyntax", "strconv.ErrRange"], apart := false, laid := [("math/bits.deBruijn32tab", laid_math_bits_deBruijn32tab), ("math/bits.deBruijn64tab", laid_math_bits_deBruijn64tab), ("internal/strconv.uint64pow10", laid_internal_strconv_uint64pow10), ("strconv.ErrRange", laid_strconv_ErrRange), ("strconv.ErrSyntax", laid_strconv_ErrSyntax)] }
def LinkOldSaid : Prop := linkOldRow.holds Tryz.pinned (OpenSpec.ofChange linkOldSpec)

/-- ITS FALSE NEIGHBOUR: 'it returns false'. Refute it at one input. -/
def linkOldWrong : ChangeSpec := { name := "linkOld", fn := fun _ => fun
  | [d1, d2, d3] => { results := [.lit (.bool false)], args := [d1, d2, d3] }
  | _ => none }
def LinkOldWrongFalsely : Prop := linkOldRow.holds Tryz.pinned (OpenSpec.ofChange linkOldWrong)

/-- 'armariumlaw13.LinkLease': WHATEVER THE INPUT: true; the input reads as it did. -/
def linkLeaseSpec : ChangeSpec := { name := "linkLease", fn := fun _ => fun
  | [d1, d2, d3] => { results := [.lit (.bool true)], args := [d1, d2, d3] }
  | _ => none }
def linkLeaseRow : OpenClaim := { program := "ytefdfaeieekioaagreatdoor", sum := "a9afce7729c13fa1f61e7b1ead113850efd53a9c0590dc205c1c736c61c161c4", func := "armarium/armariumlaw13.LinkLease", spec := "linkLease", inPlace := ["math.archTrunc", "math.Float64bits", "math.Float64frombits", "internal/abi.NoEscape", "internal/bytealg.IndexByteString", "slices.overlaps[armarium/api.Entry]", "slices.overlaps[armarium/api.Memo]"], unfollowed := true, recurses := true, named := ["internal/strconv.uint64pow10", "math/bits.deBruijn32tab", "math/bits.deBruijn64tab", "strconv.ErrSyntax", "strconv.ErrRange"], apart := false, laid := [("math/bits.deBruijn32tab", laid_math_bits_deBruijn32tab), ("math/bits.deBruijn64tab", laid_math_bits_deBruijn64tab), ("internal/strconv.uint64pow10", laid_internal_strconv_uint64pow10), ("strconv.ErrRange", laid_strconv_ErrRange), ("strconv.ErrSyntax", laid_strconv_ErrSyntax)] }
def LinkLeaseSaid : Prop := linkLeaseRow.holds Tryz.pinned (OpenSpec.ofChange linkLeaseSpec)

/-- ITS FALSE NEIGHBOUR: 'it returns false'. Refute it at one input. -/
def linkLeaseWrong : ChangeSpec := { name := "linkLease", fn := fun _ => fun
  | [d1, d2, d3] => { results := [.lit (.bool false)], args := [d1, d2, d3] }
  | _ => none }
def LinkLeaseWrongFalsely : Prop := linkLeaseRow.holds Tryz.pinned (OpenSpec.ofChange linkLeaseWrong)

/-- 'armariumlaw13.LinkTail': WHATEVER THE INPUT: true; the input reads as it did. -/
def linkTailSpec : ChangeSpec := { name := "linkTail", fn := fun _ => fun
  | [d] => { results := [.lit (.bool true)], args := [d] }
  | _ => none }
def linkTailRow : OpenClaim := { program := "ytefdfaeieekioaagreatdoor", sum := "a9afce7729c13fa1f61e7b1ead113850efd53a9c0590dc205c1c736c61c161c4", func := "armarium/armariumlaw13.LinkTail", spec := "linkTail", inPlace := ["math.archTrunc", "math.Float64bits", "math.Float64frombits", "internal/abi.NoEscape", "internal/bytealg.IndexByteString", "slices.overlaps[armarium/api.Entry]", "slices.overlaps[armarium/api.Memo]"], unfollowed := true, recurses := true, named := ["internal/strconv.uint64pow10", "math/bits.deBruijn32tab", "math/bits.deBruijn64tab", "strconv.ErrSyntax", "strconv.ErrRange"], apart := false, laid := [("math/bits.deBruijn32tab", laid_math_bits_deBruijn32tab), ("math/bits.deBruijn64tab", laid_math_bits_deBruijn64tab), ("internal/strconv.uint64pow10", laid_internal_strconv_uint64pow10), ("strconv.ErrRange", laid_strconv_ErrRange), ("strconv.ErrSyntax", laid_strconv_ErrSyntax)] }
def LinkTailSaid : Prop := linkTailRow.holds Tryz.pinned (OpenSpec.ofChange linkTailSpec)

/-- ITS FALSE NEIGHBOUR: 'it returns false'. Refute it at one input. -/
def linkTailWrong : ChangeSpec := { name := "linkTail", fn := fun _ => fun
  | [d] => { results := [.lit (.bool false)], args := [d] }
  | _ => none }
def LinkTailWrongFalsely : Prop := linkTailRow.holds Tryz.pinned (OpenSpec.ofChange linkTailWrong)

/-- 'armariumlaw13.LinkPass': WHATEVER THE INPUT: true; the input reads as it did. -/
def linkPassSpec : ChangeSpec := { name := "linkPass", fn := fun _ => fun
  | [d1, d2] => { results := [.lit (.bool true)], args := [d1, d2] }
  | _ => none }
def linkPassRow : OpenClaim := { program := "ytefdfaeieekioaagreatdoor", sum := "a9afce7729c13fa1f61e7b1ead113850efd53a9c0590dc205c1c736c61c161c4", func := "armarium/armariumlaw13.LinkPass", spec := "linkPass", inPlace := ["math.archTrunc", "math.Float64bits", "math.Float64frombits", "internal/abi.NoEscape", "internal/bytealg.IndexByteString", "slices.overlaps[armarium/api.Entry]", "slices.overlaps[armarium/api.Memo]"], unfollowed := true, recurses := true, named := ["internal/strconv.uint64pow10", "math/bits.deBruijn32tab", "math/bits.deBruijn64tab", "strconv.ErrSyntax", "strconv.ErrRange"], apart := false, laid := [("math/bits.deBruijn32tab", laid_math_bits_deBruijn32tab), ("math/bits.deBruijn64tab", laid_math_bits_deBruijn64tab), ("internal/strconv.uint64pow10", laid_internal_strconv_uint64pow10), ("strconv.ErrRange", laid_strconv_ErrRange), ("strconv.ErrSyntax", laid_strconv_ErrSyntax)] }
def LinkPassSaid : Prop := linkPassRow.holds Tryz.pinned (OpenSpec.ofChange linkPassSpec)

/-- ITS FALSE NEIGHBOUR: 'it returns false'. Refute it at one input. -/
def linkPassWrong : ChangeSpec := { name := "linkPass", fn := fun _ => fun
  | [d1, d2] => { results := [.lit (.bool false)], args := [d1, d2] }
  | _ => none }
def LinkPassWrongFalsely : Prop := linkPassRow.holds Tryz.pinned (OpenSpec.ofChange linkPassWrong)

/-- 'armariumlaw13.LinkAcks': WHATEVER THE INPUT: true; the input reads as it did. -/
def linkAcksSpec : ChangeSpec := { name := "linkAcks", fn := fun _ => fun
  | [d1, d2] => { results := [.lit (.bool true)], args := [d1, d2] }
  | _ => none }
def linkAcksRow : OpenClaim := { program := "ytefdfaeieekioaagreatdoor", sum := "a9afce7729c13fa1f61e7b1ead113850efd53a9c0590dc205c1c736c61c161c4", func := "armarium/armariumlaw13.LinkAcks", spec := "linkAcks", inPlace := ["math.archTrunc", "math.Float64bits", "math.Float64frombits", "internal/abi.NoEscape", "internal/bytealg.IndexByteString", "slices.overlaps[armarium/api.Entry]", "slices.overlaps[armarium/api.Memo]"], unfollowed := true, recurses := true, named := ["internal/strconv.uint64pow10", "math/bits.deBruijn32tab", "math/bits.deBruijn64tab", "strconv.ErrSyntax", "strconv.ErrRange"], apart := false, laid := [("math/bits.deBruijn32tab", laid_math_bits_deBruijn32tab), ("math/bits.deBruijn64tab", laid_math_bits_deBruijn64tab), ("internal/strconv.uint64pow10", laid_internal_strconv_uint64pow10), ("strconv.ErrRange", laid_strconv_ErrRange), ("strconv.ErrSyntax", laid_strconv_ErrSyntax)] }
def LinkAcksSaid : Prop := linkAcksRow.holds Tryz.pinned (OpenSpec.ofChange linkAcksSpec)

/-- ITS FALSE NEIGHBOUR: 'it returns false'. Refute it at one input. -/
def linkAcksWrong : ChangeSpec := { name := "linkAcks", fn := fun _ => fun
  | [d1, d2] => { results := [.lit (.bool false)], args := [d1, d2] }
  | _ => none }
def LinkAcksWrongFalsely : Prop := linkAcksRow.holds Tryz.pinned (OpenSpec.ofChange linkAcksWrong)

/-- 'armariumlaw13.LinkNeeds': WHATEVER THE INPUT: true; the input reads as it did. -/
def linkNeedsSpec : ChangeSpec := { name := "linkNeeds", fn := fun _ => fun
  | [d1, d2, d3] => { results := [.lit (.bool true)], args := [d1, d2, d3] }
  | _ => none }
def linkNeedsRow : OpenClaim := { program := "ytefdfaeieekioaagreatdoor", sum := "a9afce7729c13fa1f61e7b1ead113850efd53a9c0590dc205c1c736c61c161c4", func := "armarium/armariumlaw13.LinkNeeds", spec := "linkNeeds", inPlace := ["math.archTrunc", "math.Float64bits", "math.Float64frombits", "internal/abi.NoEscape", "internal/bytealg.IndexByteString", "slices.overlaps[armarium/api.Entry]", "slices.overlaps[armarium/api.Memo]"], unfollowed := true, recurses := true, named := ["internal/strconv.uint64pow10", "math/bits.deBruijn32tab", "math/bits.deBruijn64tab", "strconv.ErrSyntax", "strconv.ErrRange"], apart := false, laid := [("math/bits.deBruijn32tab", laid_math_bits_deBruijn32tab), ("math/bits.deBruijn64tab", laid_math_bits_deBruijn64tab), ("internal/strconv.uint64pow10", laid_internal_strconv_uint64pow10), ("strconv.ErrRange", laid_strconv_ErrRange), ("strconv.ErrSyntax", laid_strconv_ErrSyntax)] }
def LinkNeedsSaid : Prop := linkNeedsRow.holds Tryz.pinned (OpenSpec.ofChange linkNeedsSpec)

/-- ITS FALSE NEIGHBOUR: 'it returns false'. Refute it at one input. -/
def linkNeedsWrong : ChangeSpec := { name := "linkNeeds", fn := fun _ => fun
  | [d1, d2, d3] => { results := [.lit (.bool false)], args := [d1, d2, d3] }
  | _ => none }
def LinkNeedsWrongFalsely : Prop := linkNeedsRow.holds Tryz.pinned (OpenSpec.ofChange linkNeedsWrong)

/-- 'armariumlaw13.LinkWrites': WHATEVER THE INPUT: true; the input reads as it did. -/
def linkWritesSpec : ChangeSpec := { name := "linkWrites", fn := fun _ => fun
  | [d1, d2, d3] => { results := [.lit (.bool true)], args := [d1, d2, d3] }
  | _ => none }
def linkWritesRow : OpenClaim := { program := "ytefdfaeieekioaagreatdoor", sum := "a9afce7729c13fa1f61e7b1ead113850efd53a9c0590dc205c1c736c61c161c4", func := "armarium/armariumlaw13.LinkWrites", spec := "linkWrites", inPlace := ["math.archTrunc", "math.Float64bits", "math.Float64frombits", "internal/abi.NoEscape", "internal/bytealg.IndexByteString", "slices.overlaps[armarium/api.Entry]", "slices.overlaps[armarium/api.Memo]"], unfollowed := true, recurses := true, named := ["internal/strconv.uint64pow10", "math/bits.deBruijn32tab", "math/bits.deBruijn64tab", "strconv.ErrSyntax", "strconv.ErrRange"], apart := false, laid := [("math/bits.deBruijn32tab", laid_math_bits_deBruijn32tab), ("math/bits.deBruijn64tab", laid_math_bits_deBruijn64tab), ("internal/strconv.uint64pow10", laid_internal_strconv_uint64pow10), ("strconv.ErrRange", laid_strconv_ErrRange), ("strconv.ErrSyntax", laid_strconv_ErrSyntax)] }
def LinkWritesSaid : Prop := linkWritesRow.holds Tryz.pinned (OpenSpec.ofChange linkWritesSpec)

/-- ITS FALSE NEIGHBOUR: 'it returns false'. Refute it at one input. -/
def linkWritesWrong : ChangeSpec := { name := "linkWrites", fn := fun _ => fun
  | [d1, d2, d3] => { results := [.lit (.bool false)], args := [d1, d2, d3] }
  | _ => none }
def LinkWritesWrongFalsely : Prop := linkWritesRow.holds Tryz.pinned (OpenSpec.ofChange linkWritesWrong)

/-- 'armariumlaw13.LinkForeign': WHATEVER THE INPUT: true; the input reads as it did. -/
def linkForeignSpec : ChangeSpec := { name := "linkForeign", fn := fun _ => fun
  | [d] => { results := [.lit (.bool true)], args := [d] }
  | _ => none }
def linkForeignRow : OpenClaim := { program := "ytefdfaeieekioaagreatdoor", sum := "a9afce7729c13fa1f61e7b1ead113850efd53a9c0590dc205c1c736c61c161c4", func := "armarium/armariumlaw13.LinkForeign", spec := "linkForeign", inPlace := ["math.archTrunc", "math.Float64bits", "math.Float64frombits", "internal/abi.NoEscape", "internal/bytealg.IndexByteString", "slices.overlaps[armarium/api.Entry]", "slices.overlaps[armarium/api.Memo]"], unfollowed := true, recurses := true, named := ["internal/strconv.uint64pow10", "math/bits.deBruijn32tab", "math/bits.deBruijn64tab", "strconv.ErrSyntax", "strconv.ErrRange"], apart := false, laid := [("math/bits.deBruijn32tab", laid_math_bits_deBruijn32tab), ("math/bits.deBruijn64tab", laid_math_bits_deBruijn64tab), ("internal/strconv.uint64pow10", laid_internal_strconv_uint64pow10), ("strconv.ErrRange", laid_strconv_ErrRange), ("strconv.ErrSyntax", laid_strconv_ErrSyntax)] }
def LinkForeignSaid : Prop := linkForeignRow.holds Tryz.pinned (OpenSpec.ofChange linkForeignSpec)

/-- ITS FALSE NEIGHBOUR: 'it returns false'. Refute it at one input. -/
def linkForeignWrong : ChangeSpec := { name := "linkForeign", fn := fun _ => fun
  | [d] => { results := [.lit (.bool false)], args := [d] }
  | _ => none }
def LinkForeignWrongFalsely : Prop := linkForeignRow.holds Tryz.pinned (OpenSpec.ofChange linkForeignWrong)

/-- 'armariumlaw13.LinkNone': WHATEVER THE INPUT: true; the input reads as it did. -/
def linkNoneSpec : ChangeSpec := { name := "linkNone", fn := fun _ => fun
  | [] => { results := [.lit (.bool true)], args := [] }
  | _ => none }
def linkNoneRow : OpenClaim := { program := "ytefdfaeieekioaagreatdoor", sum := "a9afce7729c13fa1f61e7b1ead113850efd53a9c0590dc205c1c736c61c161c4", func := "armarium/armariumlaw13.LinkNone", spec := "linkNone", inPlace := ["math.archTrunc", "math.Float64bits", "math.Float64frombits", "internal/abi.NoEscape", "internal/bytealg.IndexByteString", "slices.overlaps[armarium/api.Entry]", "slices.overlaps[armarium/api.Memo]"], unfollowed := true, recurses := true, named := ["internal/strconv.uint64pow10", "math/bits.deBruijn32tab", "math/bits.deBruijn64tab", "strconv.ErrSyntax", "strconv.ErrRange"], apart := false, laid := [("math/bits.deBruijn32tab", laid_math_bits_deBruijn32tab), ("math/bits.deBruijn64tab", laid_math_bits_deBruijn64tab), ("internal/strconv.uint64pow10", laid_internal_strconv_uint64pow10), ("strconv.ErrRange", laid_strconv_ErrRange), ("strconv.ErrSyntax", laid_strconv_ErrSyntax)] }
def LinkNoneSaid : Prop := linkNoneRow.holds Tryz.pinned (OpenSpec.ofChange linkNoneSpec)

/-- ITS FALSE NEIGHBOUR: 'it returns false'. Refute it at one input. -/
def linkNoneWrong : ChangeSpec := { name := "linkNone", fn := fun _ => fun
  | [] => { results := [.lit (.bool false)], args := [] }
  | _ => none }
def LinkNoneWrongFalsely : Prop := linkNoneRow.holds Tryz.pinned (OpenSpec.ofChange linkNoneWrong)

/-- 'armariumlaw13.LinkReads': WHATEVER THE INPUT: true; the input reads as it did. -/
def linkReadsSpec : ChangeSpec := { name := "linkReads", fn := fun _ => fun
  | [d1, d2] => { results := [.lit (.bool true)], args := [d1, d2] }
  | _ => none }
def linkReadsRow : OpenClaim := { program := "ytefdfaeieekioaagreatdoor", sum := "a9afce7729c13fa1f61e7b1ead113850efd53a9c0590dc205c1c736c61c161c4", func := "armarium/armariumlaw13.LinkReads", spec := "linkReads", inPlace := ["math.archTrunc", "math.Float64bits", "math.Float64frombits", "internal/abi.NoEscape", "internal/bytealg.IndexByteString", "slices.overlaps[armarium/api.Entry]", "slices.overlaps[armarium/api.Memo]"], unfollowed := true, recurses := true, named := ["internal/strconv.uint64pow10", "math/bits.deBruijn32tab", "math/bits.deBruijn64tab", "strconv.ErrSyntax", "strconv.ErrRange"], apart := false, laid := [("math/bits.deBruijn32tab", laid_math_bits_deBruijn32tab), ("math/bits.deBruijn64tab", laid_math_bits_deBruijn64tab), ("internal/strconv.uint64pow10", laid_internal_strconv_uint64pow10), ("strconv.ErrRange", laid_strconv_ErrRange), ("strconv.ErrSyntax", laid_strconv_ErrSyntax)] }
def LinkReadsSaid : Prop := linkReadsRow.holds Tryz.pinned (OpenSpec.ofChange linkReadsSpec)

/-- ITS FALSE NEIGHBOUR: 'it returns false'. Refute it at one input. -/
def linkReadsWrong : ChangeSpec := { name := "linkReads", fn := fun _ => fun
  | [d1, d2] => { results := [.lit (.bool false)], args := [d1, d2] }
  | _ => none }
def LinkReadsWrongFalsely : Prop := linkReadsRow.holds Tryz.pinned (OpenSpec.ofChange linkReadsWrong)

/- THE SECOND FORM. 'bulk': how many values and letters a reading holds, each counted each time it is reached (what is shared counts as often as it is met; a slice's spare places count too). A statement '..UptoSaid' is the law's where the arguments, and the package variables that the reading takes, are together of bulk at most 1048576: NARROWER than '..Said'. Prove '..Said' where nothing that the law and all that it calls make is longer than what came in: it says more and counts as full. Else prove '..UptoSaid'. A law counts once. -/
mutual
def uptoBulk {H : Type} : DataW H → Nat
  | .lit (.string bytes) => bytes.length + 1
  | .lit _ => 1
  | .nil => 1
  | .ptr d => uptoBulk d + 1
  | .slice elems spare => uptoBulkAll elems + uptoBulkAll spare + 1
  | .agg parts => uptoBulkAll parts + 1
  | .iface _ d => uptoBulk d + 1
  | .map entries => uptoBulkEntries entries + 1
  | .held _ => 1
def uptoBulkAll {H : Type} : List (DataW H) → Nat
  | [] => 0
  | d :: r => uptoBulk d + uptoBulkAll r
def uptoBulkEntries {H : Type} : List (Lit × DataW H) → Nat
  | [] => 0
  | x :: r => uptoBulkEntry x + uptoBulkEntries r
def uptoBulkEntry {H : Type} : Lit × DataW H → Nat
  | (.string bytes, d) => bytes.length + uptoBulk d + 1
  | (_, d) => uptoBulk d + 1
 end
def uptoSmall : (H : Type) → List (DataW H) → Bool := fun _ ds => decide (uptoBulkAll ds ≤ 1048576)
def OpenSpec.upto (s : _root_.Go.ChangeSpec) : _root_.Go.OpenSpec := { _root_.Go.OpenSpec.ofChange s with cond := some uptoSmall }

/-- 'armariumlaw13.LinkTwo', WHERE WHAT IT READS IS OF BULK AT MOST 1048576: true; the input reads as it did. -/
def linkTwoUptoRow : OpenClaim := { program := "ytefdfaeieekioaagreatdoor", sum := "a9afce7729c13fa1f61e7b1ead113850efd53a9c0590dc205c1c736c61c161c4", func := "armarium/armariumlaw13.LinkTwo", spec := "linkTwo", inPlace := ["math.archTrunc", "math.Float64bits", "math.Float64frombits", "internal/abi.NoEscape", "internal/bytealg.IndexByteString", "slices.overlaps[armarium/api.Entry]", "slices.overlaps[armarium/api.Memo]"], unfollowed := true, recurses := true, named := ["internal/strconv.uint64pow10", "math/bits.deBruijn32tab", "math/bits.deBruijn64tab", "strconv.ErrSyntax", "strconv.ErrRange"], apart := false, laid := [("math/bits.deBruijn32tab", laid_math_bits_deBruijn32tab), ("math/bits.deBruijn64tab", laid_math_bits_deBruijn64tab), ("internal/strconv.uint64pow10", laid_internal_strconv_uint64pow10), ("strconv.ErrRange", laid_strconv_ErrRange), ("strconv.ErrSyntax", laid_strconv_ErrSyntax)], narrowed := true }
def LinkTwoUptoSaid : Prop := linkTwoUptoRow.holds Tryz.pinned (OpenSpec.upto linkTwoSpec)

/-- 'armariumlaw13.LinkLearns', WHERE WHAT IT READS IS OF BULK AT MOST 1048576: true; the input reads as it did. -/
def linkLearnsUptoRow : OpenClaim := { program := "ytefdfaeieekioaagreatdoor", sum := "a9afce7729c13fa1f61e7b1ead113850efd53a9c0590dc205c1c736c61c161c4", func := "armarium/armariumlaw13.LinkLearns", spec := "linkLearns", inPlace := ["math.archTrunc", "math.Float64bits", "math.Float64frombits", "internal/abi.NoEscape", "internal/bytealg.IndexByteString", "slices.overlaps[armarium/api.Entry]", "slices.overlaps[armarium/api.Memo]"], unfollowed := true, recurses := true, named := ["internal/strconv.uint64pow10", "math/bits.deBruijn32tab", "math/bits.deBruijn64tab", "strconv.ErrSyntax", "strconv.ErrRange"], apart := false, laid := [("math/bits.deBruijn32tab", laid_math_bits_deBruijn32tab), ("math/bits.deBruijn64tab", laid_math_bits_deBruijn64tab), ("internal/strconv.uint64pow10", laid_internal_strconv_uint64pow10), ("strconv.ErrRange", laid_strconv_ErrRange), ("strconv.ErrSyntax", laid_strconv_ErrSyntax)], narrowed := true }
def LinkLearnsUptoSaid : Prop := linkLearnsUptoRow.holds Tryz.pinned (OpenSpec.upto linkLearnsSpec)

/-- 'armariumlaw13.LinkOld', WHERE WHAT IT READS IS OF BULK AT MOST 1048576: true; the input reads as it did. -/
def linkOldUptoRow : OpenClaim := { program := "ytefdfaeieekioaagreatdoor", sum := "a9afce7729c13fa1f61e7b1ead113850efd53a9c0590dc205c1c736c61c161c4", func := "armarium/armariumlaw13.LinkOld", spec := "linkOld", inPlace := ["math.archTrunc", "math.Float64bits", "math.Float64frombits", "internal/abi.NoEscape", "internal/bytealg.IndexByteString", "slices.overlaps[armarium/api.Entry]", "slices.overlaps[armarium/api.Memo]"], unfollowed := true, recurses := true, named := ["internal/strconv.uint64pow10", "math/bits.deBruijn32tab", "math/bits.deBruijn64tab", "strconv.ErrSyntax", "strconv.ErrRange"], apart := false, laid := [("math/bits.deBruijn32tab", laid_math_bits_deBruijn32tab), ("math/bits.deBruijn64tab", laid_math_bits_deBruijn64tab), ("internal/strconv.uint64pow10", laid_internal_strconv_uint64pow10), ("strconv.ErrRange", laid_strconv_ErrRange), ("strconv.ErrSyntax", laid_strconv_ErrSyntax)], narrowed := true }
def LinkOldUptoSaid : Prop := linkOldUptoRow.holds Tryz.pinned (OpenSpec.upto linkOldSpec)

/-- 'armariumlaw13.LinkLease', WHERE WHAT IT READS IS OF BULK AT MOST 1048576: true; the input reads as it did. -/
def linkLeaseUptoRow : OpenClaim := { program := "ytefdfaeieekioaagreatdoor", sum := "a9afce7729c13fa1f61e7b1ead113850efd53a9c0590dc205c1c736c61c161c4", func := "armarium/armariumlaw13.LinkLease", spec := "linkLease", inPlace := ["math.archTrunc", "math.Float64bits", "math.Float64frombits", "internal/abi.NoEscape", "internal/bytealg.IndexByteString", "slices.overlaps[armarium/api.Entry]", "slices.overlaps[armarium/api.Memo]"], unfollowed := true, recurses := true, named := ["internal/strconv.uint64pow10", "math/bits.deBruijn32tab", "math/bits.deBruijn64tab", "strconv.ErrSyntax", "strconv.ErrRange"], apart := false, laid := [("math/bits.deBruijn32tab", laid_math_bits_deBruijn32tab), ("math/bits.deBruijn64tab", laid_math_bits_deBruijn64tab), ("internal/strconv.uint64pow10", laid_internal_strconv_uint64pow10), ("strconv.ErrRange", laid_strconv_ErrRange), ("strconv.ErrSyntax", laid_strconv_ErrSyntax)], narrowed := true }
def LinkLeaseUptoSaid : Prop := linkLeaseUptoRow.holds Tryz.pinned (OpenSpec.upto linkLeaseSpec)

/-- 'armariumlaw13.LinkTail', WHERE WHAT IT READS IS OF BULK AT MOST 1048576: true; the input reads as it did. -/
def linkTailUptoRow : OpenClaim := { program := "ytefdfaeieekioaagreatdoor", sum := "a9afce7729c13fa1f61e7b1ead113850efd53a9c0590dc205c1c736c61c161c4", func := "armarium/armariumlaw13.LinkTail", spec := "linkTail", inPlace := ["math.archTrunc", "math.Float64bits", "math.Float64frombits", "internal/abi.NoEscape", "internal/bytealg.IndexByteString", "slices.overlaps[armarium/api.Entry]", "slices.overlaps[armarium/api.Memo]"], unfollowed := true, recurses := true, named := ["internal/strconv.uint64pow10", "math/bits.deBruijn32tab", "math/bits.deBruijn64tab", "strconv.ErrSyntax", "strconv.ErrRange"], apart := false, laid := [("math/bits.deBruijn32tab", laid_math_bits_deBruijn32tab), ("math/bits.deBruijn64tab", laid_math_bits_deBruijn64tab), ("internal/strconv.uint64pow10", laid_internal_strconv_uint64pow10), ("strconv.ErrRange", laid_strconv_ErrRange), ("strconv.ErrSyntax", laid_strconv_ErrSyntax)], narrowed := true }
def LinkTailUptoSaid : Prop := linkTailUptoRow.holds Tryz.pinned (OpenSpec.upto linkTailSpec)

/-- 'armariumlaw13.LinkPass', WHERE WHAT IT READS IS OF BULK AT MOST 1048576: true; the input reads as it did. -/
def linkPassUptoRow : OpenClaim := { program := "ytefdfaeieekioaagreatdoor", sum := "a9afce7729c13fa1f61e7b1ead113850efd53a9c0590dc205c1c736c61c161c4", func := "armarium/armariumlaw13.LinkPass", spec := "linkPass", inPlace := ["math.archTrunc", "math.Float64bits", "math.Float64frombits", "internal/abi.NoEscape", "internal/bytealg.IndexByteString", "slices.overlaps[armarium/api.Entry]", "slices.overlaps[armarium/api.Memo]"], unfollowed := true, recurses := true, named := ["internal/strconv.uint64pow10", "math/bits.deBruijn32tab", "math/bits.deBruijn64tab", "strconv.ErrSyntax", "strconv.ErrRange"], apart := false, laid := [("math/bits.deBruijn32tab", laid_math_bits_deBruijn32tab), ("math/bits.deBruijn64tab", laid_math_bits_deBruijn64tab), ("internal/strconv.uint64pow10", laid_internal_strconv_uint64pow10), ("strconv.ErrRange", laid_strconv_ErrRange), ("strconv.ErrSyntax", laid_strconv_ErrSyntax)], narrowed := true }
def LinkPassUptoSaid : Prop := linkPassUptoRow.holds Tryz.pinned (OpenSpec.upto linkPassSpec)

/-- 'armariumlaw13.LinkAcks', WHERE WHAT IT READS IS OF BULK AT MOST 1048576: true; the input reads as it did. -/
def linkAcksUptoRow : OpenClaim := { program := "ytefdfaeieekioaagreatdoor", sum := "a9afce7729c13fa1f61e7b1ead113850efd53a9c0590dc205c1c736c61c161c4", func := "armarium/armariumlaw13.LinkAcks", spec := "linkAcks", inPlace := ["math.archTrunc", "math.Float64bits", "math.Float64frombits", "internal/abi.NoEscape", "internal/bytealg.IndexByteString", "slices.overlaps[armarium/api.Entry]", "slices.overlaps[armarium/api.Memo]"], unfollowed := true, recurses := true, named := ["internal/strconv.uint64pow10", "math/bits.deBruijn32tab", "math/bits.deBruijn64tab", "strconv.ErrSyntax", "strconv.ErrRange"], apart := false, laid := [("math/bits.deBruijn32tab", laid_math_bits_deBruijn32tab), ("math/bits.deBruijn64tab", laid_math_bits_deBruijn64tab), ("internal/strconv.uint64pow10", laid_internal_strconv_uint64pow10), ("strconv.ErrRange", laid_strconv_ErrRange), ("strconv.ErrSyntax", laid_strconv_ErrSyntax)], narrowed := true }
def LinkAcksUptoSaid : Prop := linkAcksUptoRow.holds Tryz.pinned (OpenSpec.upto linkAcksSpec)

/-- 'armariumlaw13.LinkNeeds', WHERE WHAT IT READS IS OF BULK AT MOST 1048576: true; the input reads as it did. -/
def linkNeedsUptoRow : OpenClaim := { program := "ytefdfaeieekioaagreatdoor", sum := "a9afce7729c13fa1f61e7b1ead113850efd53a9c0590dc205c1c736c61c161c4", func := "armarium/armariumlaw13.LinkNeeds", spec := "linkNeeds", inPlace := ["math.archTrunc", "math.Float64bits", "math.Float64frombits", "internal/abi.NoEscape", "internal/bytealg.IndexByteString", "slices.overlaps[armarium/api.Entry]", "slices.overlaps[armarium/api.Memo]"], unfollowed := true, recurses := true, named := ["internal/strconv.uint64pow10", "math/bits.deBruijn32tab", "math/bits.deBruijn64tab", "strconv.ErrSyntax", "strconv.ErrRange"], apart := false, laid := [("math/bits.deBruijn32tab", laid_math_bits_deBruijn32tab), ("math/bits.deBruijn64tab", laid_math_bits_deBruijn64tab), ("internal/strconv.uint64pow10", laid_internal_strconv_uint64pow10), ("strconv.ErrRange", laid_strconv_ErrRange), ("strconv.ErrSyntax", laid_strconv_ErrSyntax)], narrowed := true }
def LinkNeedsUptoSaid : Prop := linkNeedsUptoRow.holds Tryz.pinned (OpenSpec.upto linkNeedsSpec)

/-- 'armariumlaw13.LinkWrites', WHERE WHAT IT READS IS OF BULK AT MOST 1048576: true; the input reads as it did. -/
def linkWritesUptoRow : OpenClaim := { program := "ytefdfaeieekioaagreatdoor", sum := "a9afce7729c13fa1f61e7b1ead113850efd53a9c0590dc205c1c736c61c161c4", func := "armarium/armariumlaw13.LinkWrites", spec := "linkWrites", inPlace := ["math.archTrunc", "math.Float64bits", "math.Float64frombits", "internal/abi.NoEscape", "internal/bytealg.IndexByteString", "slices.overlaps[armarium/api.Entry]", "slices.overlaps[armarium/api.Memo]"], unfollowed := true, recurses := true, named := ["internal/strconv.uint64pow10", "math/bits.deBruijn32tab", "math/bits.deBruijn64tab", "strconv.ErrSyntax", "strconv.ErrRange"], apart := false, laid := [("math/bits.deBruijn32tab", laid_math_bits_deBruijn32tab), ("math/bits.deBruijn64tab", laid_math_bits_deBruijn64tab), ("internal/strconv.uint64pow10", laid_internal_strconv_uint64pow10), ("strconv.ErrRange", laid_strconv_ErrRange), ("strconv.ErrSyntax", laid_strconv_ErrSyntax)], narrowed := true }
def LinkWritesUptoSaid : Prop := linkWritesUptoRow.holds Tryz.pinned (OpenSpec.upto linkWritesSpec)

/-- 'armariumlaw13.LinkForeign', WHERE WHAT IT READS IS OF BULK AT MOST 1048576: true; the input reads as it did. -/
def linkForeignUptoRow : OpenClaim := { program := "ytefdfaeieekioaagreatdoor", sum := "a9afce7729c13fa1f61e7b1ead113850efd53a9c0590dc205c1c736c61c161c4", func := "armarium/armariumlaw13.LinkForeign", spec := "linkForeign", inPlace := ["math.archTrunc", "math.Float64bits", "math.Float64frombits", "internal/abi.NoEscape", "internal/bytealg.IndexByteString", "slices.overlaps[armarium/api.Entry]", "slices.overlaps[armarium/api.Memo]"], unfollowed := true, recurses := true, named := ["internal/strconv.uint64pow10", "math/bits.deBruijn32tab", "math/bits.deBruijn64tab", "strconv.ErrSyntax", "strconv.ErrRange"], apart := false, laid := [("math/bits.deBruijn32tab", laid_math_bits_deBruijn32tab), ("math/bits.deBruijn64tab", laid_math_bits_deBruijn64tab), ("internal/strconv.uint64pow10", laid_internal_strconv_uint64pow10), ("strconv.ErrRange", laid_strconv_ErrRange), ("strconv.ErrSyntax", laid_strconv_ErrSyntax)], narrowed := true }
def LinkForeignUptoSaid : Prop := linkForeignUptoRow.holds Tryz.pinned (OpenSpec.upto linkForeignSpec)

/-- 'armariumlaw13.LinkNone', WHERE WHAT IT READS IS OF BULK AT MOST 1048576: true; the input reads as it did. -/
def linkNoneUptoRow : OpenClaim := { program := "ytefdfaeieekioaagreatdoor", sum := "a9afce7729c13fa1f61e7b1ead113850efd53a9c0590dc205c1c736c61c161c4", func := "armarium/armariumlaw13.LinkNone", spec := "linkNone", inPlace := ["math.archTrunc", "math.Float64bits", "math.Float64frombits", "internal/abi.NoEscape", "internal/bytealg.IndexByteString", "slices.overlaps[armarium/api.Entry]", "slices.overlaps[armarium/api.Memo]"], unfollowed := true, recurses := true, named := ["internal/strconv.uint64pow10", "math/bits.deBruijn32tab", "math/bits.deBruijn64tab", "strconv.ErrSyntax", "strconv.ErrRange"], apart := false, laid := [("math/bits.deBruijn32tab", laid_math_bits_deBruijn32tab), ("math/bits.deBruijn64tab", laid_math_bits_deBruijn64tab), ("internal/strconv.uint64pow10", laid_internal_strconv_uint64pow10), ("strconv.ErrRange", laid_strconv_ErrRange), ("strconv.ErrSyntax", laid_strconv_ErrSyntax)], narrowed := true }
def LinkNoneUptoSaid : Prop := linkNoneUptoRow.holds Tryz.pinned (OpenSpec.upto linkNoneSpec)

/-- 'armariumlaw13.LinkReads', WHERE WHAT IT READS IS OF BULK AT MOST 1048576: true; the input reads as it did. -/
def linkReadsUptoRow : OpenClaim := { program := "ytefdfaeieekioaagreatdoor", sum := "a9afce7729c13fa1f61e7b1ead113850efd53a9c0590dc205c1c736c61c161c4", func := "armarium/armariumlaw13.LinkReads", spec := "linkReads", inPlace := ["math.archTrunc", "math.Float64bits", "math.Float64frombits", "internal/abi.NoEscape", "internal/bytealg.IndexByteString", "slices.overlaps[armarium/api.Entry]", "slices.overlaps[armarium/api.Memo]"], unfollowed := true, recurses := true, named := ["internal/strconv.uint64pow10", "math/bits.deBruijn32tab", "math/bits.deBruijn64tab", "strconv.ErrSyntax", "strconv.ErrRange"], apart := false, laid := [("math/bits.deBruijn32tab", laid_math_bits_deBruijn32tab), ("math/bits.deBruijn64tab", laid_math_bits_deBruijn64tab), ("internal/strconv.uint64pow10", laid_internal_strconv_uint64pow10), ("strconv.ErrRange", laid_strconv_ErrRange), ("strconv.ErrSyntax", laid_strconv_ErrSyntax)], narrowed := true }
def LinkReadsUptoSaid : Prop := linkReadsUptoRow.holds Tryz.pinned (OpenSpec.upto linkReadsSpec)

end Rows
end Go.Proofs.YtefdfaeieekioaaGreatDoor
