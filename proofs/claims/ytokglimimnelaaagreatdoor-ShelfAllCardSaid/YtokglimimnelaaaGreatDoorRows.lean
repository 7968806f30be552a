/-
  NARROWER THAN 'FOR EVERY INPUT', by the rows' own cells (each row's printed sentence says how): ShelfLost: laid · ShelfFull: laid · ShelfOwn: laid · ShelfRoom: laid · ShelfOrder: laid · ShelfEpochs: laid · ShelfPack: laid · ShelfLearn: laid · ShelfAll: laid · ShelfNone: laid.
  DERIVED. THE GIVEN ROWS OF THIS SEAT. 10 by the template 'for every input the law returns true; each argument reads behind the call as it read before'; 0 by the template 'total and deterministic' (their statements: YtokglimimnelaaaGreatDoorTotals.lean).
  GIVEN WITH THE SEED: the statements are not yours to turn. If you find one false, say at which input.
  Laid BY PROGRAM, IN A SANDBOX (cutbox-rows.mjs): the forced cells as the released guide's own fill.sh prints them over the translation ffce273f6d69213b… (all of the seat's roots in one cut). By AI agents, Wed Nov 11 2026. No macro, syntax, notation, axiom, sorry.
-/
import Derived.Test.YtokglimimnelaaaGreatDoorChecked
import GoSem.Claim
import GoSem.ClaimJoined
import GoSem.ClaimMapViews
import Derived.JoinedTies
import Derived.KernelRfl
namespace Go.Proofs.YtokglimimnelaaaGreatDoor
/- THE CELL 'sum', in the pinned program and in every row, IS THE sha256 OF THE DUMP (.gsa) THAT YtokglimimnelaaaGreatDoorProg.lean LOADS. Nothing in Lean hashes anything: it is a label: what it is worth is what the hold of that sum in a sandbox is worth. -/
noncomputable def Tryz.pinned : Pinned := { name := "ytokglimimnelaaagreatdoor", sum := "ffce273f6d69213b55f2bfc497bb7f954be808e0c8e2965f7397063370b7d3c4", checked := Tryz.checked }
namespace Rows
def none {H : Type} : Left H := { results := [], args := [] }

/- WHAT THE LISTED PACKAGE-LEVEL VARIABLES READ AS WHEN THE CALL BEGINS. Each datum BY PROGRAM (the guide's laid-datum.mjs) off the statement by which the dump's own 'gosem.cut.vars' lays the variable. In a bare row this is a premise. The card (YtokglimimnelaaaGreatDoorCards.lean) ties it to the program's text. -/
def laid_math_bits_deBruijn32tab {H : Type} : DataW H := .agg [.lit (.int .u8 0), .lit (.int .u8 1), .lit (.int .u8 28), .lit (.int .u8 2), .lit (.int .u8 29), .lit (.int .u8 14), .lit (.int .u8 24), .lit (.int .u8 3), .lit (.int .u8 30), .lit (.int .u8 22), .lit (.int .u8 20), .lit (.int .u8 15), .lit (.int .u8 25), .lit (.int .u8 17), .lit (.int .u8 4), .lit (.int .u8 8), .lit (.int .u8 31), .lit (.int .u8 27), .lit (.int .u8 13), .lit (.int .u8 23), .lit (.int .u8 21), .lit (.int .u8 19), .lit (.int .u8 16), .lit (.int .u8 7), .lit (.int .u8 26), .lit (.int .u8 12), .lit (.int .u8 18), .lit (.int .u8 6), .lit (.int .u8 11), .lit (.int .u8 5), .lit (.int .u8 10), .lit (.int .u8 9)]
def laid_math_bits_deBruijn64tab {H : Type} : DataW H := .agg [.lit (.int .u8 0), .lit (.int .u8 1), .lit (.int .u8 56), .lit (.int .u8 2), .lit (.int .u8 57), .lit (.int .u8 49), .lit (.int .u8 28), .lit (.int .u8 3), .lit (.int .u8 61), .lit (.int .u8 58), .lit (.int .u8 42), .lit (.int .u8 50), .lit (.int .u8 38), .lit (.int .u8 29), .lit (.int .u8 17), .lit (.int .u8 4), .lit (.int .u8 62), .lit (.int .u8 47), .lit (.int .u8 59), .lit (.int .u8 36), .lit (.int .u8 45), .lit (.int .u8 43), .lit (.int .u8 51), .lit (.int .u8 22), .lit (.int .u8 53), .lit (.int .u8 39), .lit (.int .u8 33), .lit (.int .u8 30), .lit (.int .u8 24), .lit (.int .u8 18), .lit (.int .u8 12), .lit (.int .u8 5), .lit (.int .u8 63), .lit (.int .u8 55), .lit (.int .u8 48), .lit (.int .u8 27), .lit (.int .u8 60), .lit (.int .u8 41), .lit (.int .u8 37), .lit (.int .u8 16), .lit (.int .u8 46), .lit (.int .u8 35), .lit (.int .u8 44), .lit (.int .u8 21), .lit (.int .u8 52), .lit (.int .u8 32), .lit (.int .u8 23), .lit (.int .u8 11), .lit (.int .u8 54), .lit (.int .u8 26), .lit (.int .u8 40), .lit (.int .u8 15), .lit (.int .u8 34), .lit (.int .u8 20), .lit (.int .u8 31), .lit (.int .u8 10), .lit (.int .u8 25), .lit (.int .u8 14), .lit (.int .u8 19), .lit (.int .u8 9), .lit (.int .u8 13), .lit (.int .u8 8), .lit (.int .u8 7), .lit (.int .u8 6)]
def laid_internal_strconv_uint64pow10 {H : Type} : DataW H := .agg [.lit (.int .u64 1), .lit (.int .u64 10), .lit (.int .u64 100), .lit (.int .u64 1000), .lit (.int .u64 10000), .lit (.int .u64 100000), .lit (.int .u64 1000000), .lit (.int .u64 10000000), .lit (.int .u64 100000000), .lit (.int .u64 1000000000), .lit (.int .u64 10000000000), .lit (.int .u64 100000000000), .lit (.int .u64 1000000000000), .lit (.int .u64 10000000000000), .lit (.int .u64 100000000000000), .lit (.int .u64 1000000000000000), .lit (.int .u64 10000000000000000), .lit (.int .u64 100000000000000000), .lit (.int .u64 1000000000000000000), .lit (.int .u64 10000000000000000000)]
def laid_strconv_ErrRange {H : Type} : DataW H := .iface "*errors.errorString" (.ptr (.agg [.lit (.string [118, 97, 108, 117, 101, 32, 111, 117, 116, 32, 111, 102, 32, 114, 97, 110, 103, 101])]))
def laid_strconv_ErrSyntax {H : Type} : DataW H := .iface "*errors.errorString" (.ptr (.agg [.lit (.string [105, 110, 118, 97, 108, 105, 100, 32, 115, 121, 110, 116, 97, 120])]))

/-- 'armariumlaw8.ShelfLost': WHATEVER THE INPUT: true; the input reads as it did. -/
def shelfLostSpec : ChangeSpec := { name := "shelfLost", fn := fun _ => fun
  | [d1, d2, d3] => { results := [.lit (.bool true)], args := [d1, d2, d3] }
  | _ => none }
def shelfLostRow : OpenClaim := { program := "ytokglimimnelaaagreatdoor", sum := "ffce273f6d69213b55f2bfc497bb7f954be808e0c8e2965f7397063370b7d3c4", func := "armarium/armariumlaw8.ShelfLost", spec := "shelfLost", inPlace := ["math.archTrunc", "math.Float64bits", "math.Float64frombits", "internal/abi.NoEscape", "internal/bytealg.IndexByteString", "slices.overlaps[armarium/api.Entry]", "slices.overlaps[armarium/api.Memo]"], unfollowed := true, recurses := true, named := ["internal/strconv.uint64pow10", "math/bits.deBruijn32tab", "math/bits.deBruijn64tab", "strconv.ErrSyntax", "strconv.ErrRange"], apart := false, laid := [("math/bits.deBruijn32tab", laid_math_bits_deBruijn32tab), ("math/bits.deBruijn64tab", laid_math_bits_deBruijn64tab), ("internal/strconv.uint64pow10", laid_internal_strconv_uint64pow10), ("strconv.ErrRange", laid_strconv_ErrRange), ("strconv.ErrSyntax", laid_strconv_ErrSyntax)] }
def ShelfLostSaid : Prop := shelfLostRow.holds Tryz.pinned (OpenSpec.ofChange shelfLostSpec)

/-- ITS FALSE NEIGHBOUR: 'it returns false'. Refute it at one input. -/
def shelfLostWrong : ChangeSpec := { name := "shelfLost", fn := fun _ => fun
  | [d1, d2, d3] => { results := [.lit (.bool false)], args := [d1, d2, d3] }
  | _ => none }
def ShelfLostWrongFalsely : Prop := shelfLostRow.holds Tryz.pinned (OpenSpec.ofChange shelfLostWrong)

/-- 'armariumlaw8.ShelfFull': WHATEVER THE INPUT: true; the input reads as it did. -/
def shelfFullSpec : ChangeSpec := { name := "shelfFull", fn := fun _ => fun
  | [d1, d2] => { results := [.lit (.bool true)], args := [d1, d2] }
  | _ => none }
def shelfFullRow : OpenClaim := { program := "ytokglimimnelaaagreatdoor", sum := "ffce273f6d69213b55f2bfc497bb7f954be808e0c8e2965f7397063370b7d3c4", func := "armarium/armariumlaw8.ShelfFull", spec := "shelfFull", inPlace := ["math.archTrunc", "math.Float64bits", "math.Float64frombits", "internal/abi.NoEscape", "internal/bytealg.IndexByteString", "slices.overlaps[armarium/api.Entry]", "slices.overlaps[armarium/api.Memo]"], unfollowed := true, recurses := true, named := ["internal/strconv.uint64pow10", "math/bits.deBruijn32tab", "math/bits.deBruijn64tab", "strconv.ErrSyntax", "strconv.ErrRange"], apart := false, laid := [("math/bits.deBruijn32tab", laid_math_bits_deBruijn32tab), ("math/bits.deBruijn64tab", laid_math_bits_deBruijn64tab), ("internal/strconv.uint64pow10", laid_internal_strconv_uint64pow10), ("strconv.ErrRange", laid_strconv_ErrRange), ("strconv.ErrSyntax", laid_strconv_ErrSyntax)] }
def ShelfFullSaid : Prop := shelfFullRow.holds Tryz.pinned (OpenSpec.ofChange shelfFullSpec)

/-- ITS FALSE NEIGHBOUR: 'it returns false'. Refute it at one input. -/
def shelfFullWrong : ChangeSpec := { name := "shelfFull", fn := fun _ => fun
  | [d1, d2] => { results := [.lit (.bool false)], args := [d1, d2] }
  | _ => none }
def ShelfFullWrongFalsely : Prop := shelfFullRow.holds Tryz.pinned (OpenSpec.ofChange shelfFullWrong)

/-- 'armariumlaw8.ShelfOwn': WHATEVER THE INPUT: true; the input reads as it did. -/
def shelfOwnSpec : ChangeSpec := { name := "shelfOwn", fn := fun _ => fun
  | [d] => { results := [.lit (.bool true)], args := [d] }
  | _ => none }
def shelfOwnRow : OpenClaim := { program := "ytokglimimnelaaagreatdoor", sum := "ffce273f6d69213b55f2bfc497bb7f954be808e0c8e2965f7397063370b7d3c4", func := "armarium/armariumlaw8.ShelfOwn", spec := "shelfOwn", inPlace := ["math.archTrunc", "math.Float64bits", "math.Float64frombits", "internal/abi.NoEscape", "internal/bytealg.IndexByteString", "slices.overlaps[armarium/api.Entry]", "slices.overlaps[armarium/api.Memo]"], unfollowed := true, recurses := true, named := ["internal/strconv.uint64pow10", "math/bits.deBruijn32tab", "math/bits.deBruijn64tab", "strconv.ErrSyntax", "strconv.ErrRange"], apart := false, laid := [("math/bits.deBruijn32tab", laid_math_bits_deBruijn32tab), ("math/bits.deBruijn64tab", laid_math_bits_deBruijn64tab), ("internal/strconv.uint64pow10", laid_internal_strconv_uint64pow10), ("strconv.ErrRange", laid_strconv_ErrRange), ("strconv.ErrSyntax", laid_strconv_ErrSyntax)] }
def ShelfOwnSaid : Prop := shelfOwnRow.holds Tryz.pinned (OpenSpec.ofChange shelfOwnSpec)

/-- ITS FALSE NEIGHBOUR: 'it returns false'. Refute it at one input. -/
def shelfOwnWrong : ChangeSpec := { name := "shelfOwn", fn := fun _ => fun
  | [d] => { results := [.lit (.bool false)], args := [d] }
  | _ => none }
def ShelfOwnWrongFalsely : Prop := shelfOwnRow.holds Tryz.pinned (OpenSpec.ofChange shelfOwnWrong)

/-- 'armariumlaw8.ShelfRoom': WHATEVER THE INPUT: true; the input reads as it did. -/
def shelfRoomSpec : ChangeSpec := { name := "shelfRoom", fn := fun _ => fun
  | [d1, d2] => { results := [.lit (.bool true)], args := [d1, d2] }
  | _ => none }
def shelfRoomRow : OpenClaim := { program := "ytokglimimnelaaagreatdoor", sum := "ffce273f6d69213b55f2bfc497bb7f954be808e0c8e2965f7397063370b7d3c4", func := "armarium/armariumlaw8.ShelfRoom", spec := "shelfRoom", inPlace := ["math.archTrunc", "math.Float64bits", "math.Float64frombits", "internal/abi.NoEscape", "internal/bytealg.IndexByteString", "slices.overlaps[armarium/api.Entry]", "slices.overlaps[armarium/api.Memo]"], unfollowed := true, recurses := true, named := ["internal/strconv.uint64pow10", "math/bits.deBruijn32tab", "math/bits.deBruijn64tab", "strconv.ErrSyntax", "strconv.ErrRange"], apart := false, laid := [("math/bits.deBruijn32tab", laid_math_bits_deBruijn32tab), ("math/bits.deBruijn64tab", laid_math_bits_deBruijn64tab), ("internal/strconv.uint64pow10", laid_internal_strconv_uint64pow10), ("strconv.ErrRange", laid_strconv_ErrRange), ("strconv.ErrSyntax", laid_strconv_ErrSyntax)] }
def ShelfRoomSaid : Prop := shelfRoomRow.holds Tryz.pinned (OpenSpec.ofChange shelfRoomSpec)

/-- ITS FALSE NEIGHBOUR: 'it returns false'. Refute it at one input. -/
def shelfRoomWrong : ChangeSpec := { name := "shelfRoom", fn := fun _ => fun
  | [d1, d2] => { results := [.lit (.bool false)], args := [d1, d2] }
  | _ => none }
def ShelfRoomWrongFalsely : Prop := shelfRoomRow.holds Tryz.pinned (OpenSpec.ofChange shelfRoomWrong)

/-- 'armariumlaw8.ShelfOrder': WHATEVER THE INPUT: true; the input reads as it did. -/
def shelfOrderSpec : ChangeSpec := { name := "shelfOrder", fn := fun _ => fun
  | [d1, d2] => { results := [.lit (.bool true)], args := [d1, d2] }
  | _ => none }
def shelfOrderRow : OpenClaim := { program := "ytokglimimnelaaagreatdoor", sum := "ffce273f6d69213b55f2bfc497bb7f954be808e0c8e2965f7397063370b7d3c4", func := "armarium/armariumlaw8.ShelfOrder", spec := "shelfOrder", inPlace := ["math.archTrunc", "math.Float64bits", "math.Float64frombits", "internal/abi.NoEscape", "internal/bytealg.IndexByteString", "slices.overlaps[armarium/api.Entry]", "slices.overlaps[armarium/api.Memo]"], unfollowed := true, recurses := true, named := ["internal/strconv.uint64pow10", "math/bits.deBruijn32tab", "math/bits.deBruijn64tab", "strconv.ErrSyntax", "strconv.ErrRange"], apart := false, laid := [("math/bits.deBruijn32tab", laid_math_bits_deBruijn32tab), ("math/bits.deBruijn64tab", laid_math_bits_deBruijn64tab), ("internal/strconv.uint64pow10", laid_internal_strconv_uint64pow10), ("strconv.ErrRange", laid_strconv_ErrRange), ("strconv.ErrSyntax", laid_strconv_ErrSyntax)] }
def ShelfOrderSaid : Prop := shelfOrderRow.holds Tryz.pinned (OpenSpec.ofChange shelfOrderSpec)

/-- ITS FALSE NEIGHBOUR: 'it returns false'. Refute it at one input. -/
def shelfOrderWrong : ChangeSpec := { name := "shelfOrder", fn := fun _ => fun
  | [d1, d2] => { results := [.lit (.bool false)], args := [d1, d2] }
  | _ => none }
def ShelfOrderWrongFalsely : Prop := shelfOrderRow.holds Tryz.pinned (OpenSpec.ofChange shelfOrderWrong)

/-- 'armariumlaw8.ShelfEpochs': WHATEVER THE INPUT: true; the input reads as it did. -/
def shelfEpochsSpec : ChangeSpec := { name := "shelfEpochs", fn := fun _ => fun
  | [d1, d2] => { results := [.lit (.bool true)], args := [d1, d2] }
  | _ => none }
def shelfEpochsRow : OpenClaim := { program := "ytokglimimnelaaagreatdoor", sum := "ffce273f6d69213b55f2bfc497bb7f954be808e0c8e2965f7397063370b7d3c4", func := "armarium/armariumlaw8.ShelfEpochs", spec := "shelfEpochs", inPlace := ["math.archTrunc", "math.Float64bits", "math.Float64frombits", "internal/abi.NoEscape", "internal/bytealg.IndexByteString", "slices.overlaps[armarium/api.Entry]", "slices.overlaps[armarium/api.Memo]"], unfollowed := true, recurses := true, named := ["internal/strconv.uint64pow10", "math/bits.deBruijn32tab", "math/bits.deBruijn64tab", "strconv.ErrSyntax", "strconv.ErrRange"], apart := false, laid := [("math/bits.deBruijn32tab", laid_math_bits_deBruijn32tab), ("math/bits.deBruijn64tab", laid_math_bits_deBruijn64tab), ("internal/strconv.uint64pow10", laid_internal_strconv_uint64pow10), ("strconv.ErrRange", laid_strconv_ErrRange), ("strconv.ErrSyntax", laid_strconv_ErrSyntax)] }
def ShelfEpochsSaid : Prop := shelfEpochsRow.holds Tryz.pinned (OpenSpec.ofChange shelfEpochsSpec)

/-- ITS FALSE NEIGHBOUR: 'it returns false'. Refute it at one input. -/
def shelfEpochsWrong : ChangeSpec := { name := "shelfEpochs", fn := fun _ => fun
  | [d1, d2] => { results := [.lit (.bool false)], args := [d1, d2] }
  | _ => none }
def ShelfEpochsWrongFalsely : Prop := shelfEpochsRow.holds Tryz.pinned (OpenSpec.ofChange shelfEpochsWrong)

/-- 'armariumlaw8.ShelfPack': WHATEVER THE INPUT: true; the input reads as it did. -/
def shelfPackSpec : ChangeSpec := { name := "shelfPack", fn := fun _ => fun
  | [d1, d2, d3] => { results := [.lit (.bool true)], args := [d1, d2, d3] }
  | _ => none }
def shelfPackRow : OpenClaim := { program := "ytokglimimnelaaagreatdoor", sum := "ffce273f6d69213b55f2bfc497bb7f954be808e0c8e2965f7397063370b7d3c4", func := "armarium/armariumlaw8.ShelfPack", spec := "shelfPack", inPlace := ["math.archTrunc", "math.Float64bits", "math.Float64frombits", "internal/abi.NoEscape", "internal/bytealg.IndexByteString", "slices.overlaps[armarium/api.Entry]", "slices.overlaps[armarium/api.Memo]"], unfollowed := true, recurses := true, named := ["internal/strconv.uint64pow10", "math/bits.deBruijn32tab", "math/bits.deBruijn64tab", "strconv.ErrSyntax", "strconv.ErrRange"], apart := false, laid := [("math/bits.deBruijn32tab", laid_math_bits_deBruijn32tab), ("math/bits.deBruijn64tab", laid_math_bits_deBruijn64tab), ("internal/strconv.uint64pow10", laid_internal_strconv_uint64pow10), ("strconv.ErrRange", laid_strconv_ErrRange), ("strconv.ErrSyntax", laid_strconv_ErrSyntax)] }
def ShelfPackSaid : Prop := shelfPackRow.holds Tryz.pinned (OpenSpec.ofChange shelfPackSpec)

/-- ITS FALSE NEIGHBOUR: 'it returns false'. Refute it at one input. -/
def shelfPackWrong : ChangeSpec := { name := "shelfPack", fn := fun _ => fun
  | [d1, d2, d3] => { results := [.lit (.bool false)], args := [d1, d2, d3] }
  | _ => none }
def ShelfPackWrongFalsely : Prop := shelfPackRow.holds Tryz.pinned (OpenSpec.ofChange shelfPackWrong)

/-- 'armariumlaw8.ShelfLearn': WHATEVER THE INPUT: true; the input reads as it did. -/
def shelfLearnSpec : ChangeSpec := { name := "shelfLearn", fn := fun _ => fun
  | [d1, d2, d3, d4] => { results := [.lit (.bool true)], args := [d1, d2, d3, d4] }
  | _ => none }
def shelfLearnRow : OpenClaim := { program := "ytokglimimnelaaagreatdoor", sum := "ffce273f6d69213b55f2bfc497bb7f954be808e0c8e2965f7397063370b7d3c4", func := "armarium/armariumlaw8.ShelfLearn", spec := "shelfLearn", inPlace := ["math.archTrunc", "math.Float64bits", "math.Float64frombits", "internal/abi.NoEscape", "internal/bytealg.IndexByteString", "slices.overlaps[armarium/api.Entry]", "slices.overlaps[armarium/api.Memo]"], unfollowed := true, recurses := true, named := ["internal/strconv.uint64pow10", "math/bits.deBruijn32tab", "math/bits.deBruijn64tab", "strconv.ErrSyntax", "strconv.ErrRange"], apart := false, laid := [("math/bits.deBruijn32tab", laid_math_bits_deBruijn32tab), ("math/bits.deBruijn64tab", laid_math_bits_deBruijn64tab), ("internal/strconv.uint64pow10", laid_internal_strconv_uint64pow10), ("strconv.ErrRange", laid_strconv_ErrRange), ("strconv.ErrSyntax", laid_strconv_ErrSyntax)] }
def ShelfLearnSaid : Prop := shelfLearnRow.holds Tryz.pinned (OpenSpec.ofChange shelfLearnSpec)

/-- ITS FALSE NEIGHBOUR: 'it returns false'. Refute it at one input. -/
def shelfLearnWrong : ChangeSpec := { name := "shelfLearn", fn := fun _ => fun
  | [d1, d2, d3, d4] => { results := [.lit (.bool false)], args := [d1, d2, d3, d4] }
  | _ => none }
def ShelfLearnWrongFalsely : Prop := shelfLearnRow.holds Tryz.pinned (OpenSpec.ofChange shelfLearnWrong)

/-- 'armariumlaw8.ShelfAll': WHATEVER THE INPUT: true; the input reads as it did. -/
def shelfAllSpec : ChangeSpec := { name := "shelfAll", fn := fun _ => fun
  | [d] => { results := [.lit (.bool true)], args := [d] }
  | _ => none }
def shelfAllRow : OpenClaim := { program := "ytokglimimnelaaagreatdoor", sum := "ffce273f6d69213b55f2bfc497bb7f954be808e0c8e2965f7397063370b7d3c4", func := "armarium/armariumlaw8.ShelfAll", spec := "shelfAll", inPlace := ["math.archTrunc", "math.Float64bits", "math.Float64frombits", "internal/abi.NoEscape", "internal/bytealg.IndexByteString", "slices.overlaps[armarium/api.Entry]", "slices.overlaps[armarium/api.Memo]"], unfollowed := true, recurses := true, named := ["internal/strconv.uint64pow10", "math/bits.deBruijn32tab", "math/bits.deBruijn64tab", "strconv.ErrSyntax", "strconv.ErrRange"], apart := false, laid := [("math/bits.deBruijn32tab", laid_math_bits_deBruijn32tab), ("math/bits.deBruijn64tab", laid_math_bits_deBruijn64tab), ("internal/strconv.uint64pow10", laid_internal_strconv_uint64pow10), ("strconv.ErrRange", laid_strconv_ErrRange), ("strconv.ErrSyntax", laid_strconv_ErrSyntax)] }
def ShelfAllSaid : Prop := shelfAllRow.holds Tryz.pinned (OpenSpec.ofChange shelfAllSpec)

/-- ITS FALSE NEIGHBOUR: 'it returns false'. Refute it at one input. -/
def shelfAllWrong : ChangeSpec := { name := "shelfAll", fn := fun _ => fun
  | [d] => { results := [.lit (.bool false)], args := [d] }
  | _ => none }
def ShelfAllWrongFalsely : Prop := shelfAllRow.holds Tryz.pinned (OpenSpec.ofChange shelfAllWrong)

/-- 'armariumlaw8.ShelfNone': WHATEVER THE INPUT: true; the input reads as it did. -/
def shelfNoneSpec : ChangeSpec := { name := "shelfNone", fn := fun _ => fun
  | [] => { results := [.lit (.bool true)], args := [] }
  | _ => none }
def shelfNoneRow : OpenClaim := { program := "ytokglimimnelaaagreatdoor", sum := "ffce273f6d69213b55f2bfc497bb7f954be808e0c8e2965f7397063370b7d3c4", func := "armarium/armariumlaw8.ShelfNone", spec := "shelfNone", inPlace := ["math.archTrunc", "math.Float64bits", "math.Float64frombits", "slices.overlaps[armarium/api.Entry]", "slices.overlaps[armarium/api.Memo]", "internal/abi.NoEscape", "internal/bytealg.IndexByteString"], unfollowed := true, recurses := true, named := ["internal/strconv.uint64pow10", "math/bits.deBruijn32tab", "math/bits.deBruijn64tab", "strconv.ErrSyntax", "strconv.ErrRange"], apart := false, laid := [("math/bits.deBruijn32tab", laid_math_bits_deBruijn32tab), ("math/bits.deBruijn64tab", laid_math_bits_deBruijn64tab), ("internal/strconv.uint64pow10", laid_internal_strconv_uint64pow10), ("strconv.ErrRange", laid_strconv_ErrRange), ("strconv.ErrSyntax", laid_strconv_ErrSyntax)] }
def ShelfNoneSaid : Prop := shelfNoneRow.holds Tryz.pinned (OpenSpec.ofChange shelfNoneSpec)

/-- ITS FALSE NEIGHBOUR: 'it returns false'. Refute it at one input. -/
def shelfNoneWrong : ChangeSpec := { name := "shelfNone", fn := fun _ => fun
  | [] => { results := [.lit (.bool false)], args := [] }
  | _ => none }
def ShelfNoneWrongFalsely : Prop := shelfNoneRow.holds Tryz.pinned (OpenSpec.ofChange shelfNoneWrong)

/- THE SECOND FORM. 'bulk': how many values and letters a reading holds, each counted each time it is reached (what is shared counts as often as it is met; a slice's spare places count too). A statement '..UptoSaid' is the law's where the arguments, and the package variables that the reading takes, are together of bulk at most 1048576: NARROWER than '..Said'. Prove '..Said' where nothing that the law and all that it calls make is longer than what came in: it says more and counts as full. Else prove '..UptoSaid'. A law counts once. -/
mutual
def uptoBulk {H : Type} : DataW H → Nat
  | .lit (.string bytes) => bytes.length + 1
  | .lit _ => 1
  | .nil => 1
  | .ptr d => uptoBulk d + 1
  | .slice elems spare => uptoBulkAll elems + uptoBulkAll spare + 1
  | .agg parts => uptoBulkAll parts + 1
  | .iface _ d => uptoBulk d + 1
  | .map entries => uptoBulkEntries entries + 1
  | .held _ => 1
def uptoBulkAll {H : Type} : List (DataW H) → Nat
  | [] => 0
  | d :: r => uptoBulk d + uptoBulkAll r
def uptoBulkEntries {H : Type} : List (Lit × DataW H) → Nat
  | [] => 0
  | x :: r => uptoBulkEntry x + uptoBulkEntries r
def uptoBulkEntry {H : Type} : Lit × DataW H → Nat
  | (.string bytes, d) => bytes.length + uptoBulk d + 1
  | (_, d) => uptoBulk d + 1
 end
def uptoSmall : (H : Type) → List (DataW H) → Bool := fun _ ds => decide (uptoBulkAll ds ≤ 1048576)
def OpenSpec.upto (s : _root_.Go.ChangeSpec) : _root_.Go.OpenSpec := { _root_.Go.OpenSpec.ofChange s with cond := some uptoSmall }

/-- 'armariumlaw8.ShelfLost', WHERE WHAT IT READS IS OF BULK AT MOST 1048576: true; the input reads as it did. -/
def shelfLostUptoRow : OpenClaim := { program := "ytokglimimnelaaagreatdoor", sum := "ffce273f6d69213b55f2bfc497bb7f954be808e0c8e2965f7397063370b7d3c4", func := "armarium/armariumlaw8.ShelfLost", spec := "shelfLost", inPlace := ["math.archTrunc", "math.Float64bits", "math.Float64frombits", "internal/abi.NoEscape", "internal/bytealg.IndexByteString", "slices.overlaps[armarium/api.Entry]", "slices.overlaps[armarium/api.Memo]"], unfollowed := true, recurses := true, named := ["internal/strconv.uint64pow10", "math/bits.deBruijn32tab", "math/bits.deBruijn64tab", "strconv.ErrSyntax", "strconv.ErrRange"], apart := false, laid := [("math/bits.deBruijn32tab", laid_math_bits_deBruijn32tab), ("math/bits.deBruijn64tab", laid_math_bits_deBruijn64tab), ("internal/strconv.uint64pow10", laid_internal_strconv_uint64pow10), ("strconv.ErrRange", laid_strconv_ErrRange), ("strconv.ErrSyntax", laid_strconv_ErrSyntax)], narrowed := true }
def ShelfLostUptoSaid : Prop := shelfLostUptoRow.holds Tryz.pinned (OpenSpec.upto shelfLostSpec)

/-- 'armariumlaw8.ShelfFull', WHERE WHAT IT READS IS OF BULK AT MOST 1048576: true; the input reads as it did. -/
def shelfFullUptoRow : OpenClaim := { program := "ytokglimimnelaaagreatdoor", sum := "ffce273f6d69213b55f2bfc497bb7f954be808e0c8e2965f7397063370b7d3c4", func := "armarium/armariumlaw8.ShelfFull", spec := "shelfFull", inPlace := ["math.archTrunc", "math.Float64bits", "math.Float64frombits", "internal/abi.NoEscape", "internal/bytealg.IndexByteString", "slices.overlaps[armarium/api.Entry]", "slices.overlaps[armarium/api.Memo]"], unfollowed := true, recurses := true, named := ["internal/strconv.uint64pow10", "math/bits.deBruijn32tab", "math/bits.deBruijn64tab", "strconv.ErrSyntax", "strconv.ErrRange"], apart := false, laid := [("math/bits.deBruijn32tab", laid_math_bits_deBruijn32tab), ("math/bits.deBruijn64tab", laid_math_bits_deBruijn64tab), ("internal/strconv.uint64pow10", laid_internal_strconv_uint64pow10), ("strconv.ErrRange", laid_strconv_ErrRange), ("strconv.ErrSyntax", laid_strconv_ErrSyntax)], narrowed := true }
def ShelfFullUptoSaid : Prop := shelfFullUptoRow.holds Tryz.pinned (OpenSpec.upto shelfFullSpec)

/-- 'armariumlaw8.ShelfOwn', WHERE WHAT IT READS IS OF BULK AT MOST 1048576: true; the input reads as it did. -/
def shelfOwnUptoRow : OpenClaim := { program := "ytokglimimnelaaagreatdoor", sum := "ffce273f6d69213b55f2bfc497bb7f954be808e0c8e2965f7397063370b7d3c4", func := "armarium/armariumlaw8.ShelfOwn", spec := "shelfOwn", inPlace := ["math.archTrunc", "math.Float64bits", "math.Float64frombits", "internal/abi.NoEscape", "internal/bytealg.IndexByteString", "slices.overlaps[armarium/api.Entry]", "slices.overlaps[armarium/api.Memo]"], unfollowed := true, recurses := true, named := ["internal/strconv.uint64pow10", "math/bits.deBruijn32tab", "math/bits.deBruijn64tab", "strconv.ErrSyntax", "strconv.ErrRange"], apart := false, laid := [("math/bits.deBruijn32tab", laid_math_bits_deBruijn32tab), ("math/bits.deBruijn64tab", laid_math_bits_deBruijn64tab), ("internal/strconv.uint64pow10", laid_internal_strconv_uint64pow10), ("strconv.ErrRange", laid_strconv_ErrRange), ("strconv.ErrSyntax", laid_strconv_ErrSyntax)], narrowed := true }
def ShelfOwnUptoSaid : Prop := shelfOwnUptoRow.holds Tryz.pinned (OpenSpec.upto shelfOwnSpec)

/-- 'armariumlaw8.ShelfRoom', WHERE WHAT IT READS IS OF BULK AT MOST 1048576: true; the input reads as it did. -/
def shelfRoomUptoRow : OpenClaim := { program := "ytokglimimnelaaagreatdoor", sum := "ffce273f6d69213b55f2bfc497bb7f954be808e0c8e2965f7397063370b7d3c4", func := "armarium/armariumlaw8.ShelfRoom", spec := "shelfRoom", inPlace := ["math.archTrunc", "math.Float64bits", "math.Float64frombits", "internal/abi.NoEscape", "internal/bytealg.IndexByteString", "slices.overlaps[armarium/api.Entry]", "slices.overlaps[armarium/api.Memo]"], unfollowed := true, recurses := true, named := ["internal/strconv.uint64pow10", "math/bits.deBruijn32tab", "math/bits.deBruijn64tab", "strconv.ErrSyntax", "strconv.ErrRange"], apart := false, laid := [("math/bits.deBruijn32tab", laid_math_bits_deBruijn32tab), ("math/bits.deBruijn64tab", laid_math_bits_deBruijn64tab), ("internal/strconv.uint64pow10", laid_internal_strconv_uint64pow10), ("strconv.ErrRange", laid_strconv_ErrRange), ("strconv.ErrSyntax", laid_strconv_ErrSyntax)], narrowed := true }
def ShelfRoomUptoSaid : Prop := shelfRoomUptoRow.holds Tryz.pinned (OpenSpec.upto shelfRoomSpec)

/-- 'armariumlaw8.ShelfOrder', WHERE WHAT IT READS IS OF BULK AT MOST 1048576: true; the input reads as it did. -/
def shelfOrderUptoRow : OpenClaim := { program := "ytokglimimnelaaagreatdoor", sum := "ffce273f6d69213b55f2bfc497bb7f954be808e0c8e2965f7397063370b7d3c4", func := "armarium/armariumlaw8.ShelfOrder", spec := "shelfOrder", inPlace := ["math.archTrunc", "math.Float64bits", "math.Float64frombits", "internal/abi.NoEscape", "internal/bytealg.IndexByteString", "slices.overlaps[armarium/api.Entry]", "slices.overlaps[armarium/api.Memo]"], unfollowed := true, recurses := true, named := ["internal/strconv.uint64pow10", "math/bits.deBruijn32tab", "math/bits.deBruijn64tab", "strconv.ErrSyntax", "strconv.ErrRange"], apart := false, laid := [("math/bits.deBruijn32tab", laid_math_bits_deBruijn32tab), ("math/bits.deBruijn64tab", laid_math_bits_deBruijn64tab), ("internal/strconv.uint64pow10", laid_internal_strconv_uint64pow10), ("strconv.ErrRange", laid_strconv_ErrRange), ("strconv.ErrSyntax", laid_strconv_ErrSyntax)], narrowed := true }
def ShelfOrderUptoSaid : Prop := shelfOrderUptoRow.holds Tryz.pinned (OpenSpec.upto shelfOrderSpec)

/-- 'armariumlaw8.ShelfEpochs', WHERE WHAT IT READS IS OF BULK AT MOST 1048576: true; the input reads as it did. -/
def shelfEpochsUptoRow : OpenClaim := { program := "ytokglimimnelaaagreatdoor", sum := "ffce273f6d69213b55f2bfc497bb7f954be808e0c8e2965f7397063370b7d3c4", func := "armarium/armariumlaw8.ShelfEpochs", spec := "shelfEpochs", inPlace := ["math.archTrunc", "math.Float64bits", "math.Float64frombits", "internal/abi.NoEscape", "internal/bytealg.IndexByteString", "slices.overlaps[armarium/api.Entry]", "slices.overlaps[armarium/api.Memo]"], unfollowed := true, recurses := true, named := ["internal/strconv.uint64pow10", "math/bits.deBruijn32tab", "math/bits.deBruijn64tab", "strconv.ErrSyntax", "strconv.ErrRange"], apart := false, laid := [("math/bits.deBruijn32tab", laid_math_bits_deBruijn32tab), ("math/bits.deBruijn64tab", laid_math_bits_deBruijn64tab), ("internal/strconv.uint64pow10", laid_internal_strconv_uint64pow10), ("strconv.ErrRange", laid_strconv_ErrRange), ("strconv.ErrSyntax", laid_strconv_ErrSyntax)], narrowed := true }
def ShelfEpochsUptoSaid : Prop := shelfEpochsUptoRow.holds Tryz.pinned (OpenSpec.upto shelfEpochsSpec)

/-- 'armariumlaw8.ShelfPack', WHERE WHAT IT READS IS OF BULK AT MOST 1048576: true; the input reads as it did. -/
def shelfPackUptoRow : OpenClaim := { program := "ytokglimimnelaaagreatdoor", sum := "ffce273f6d69213b55f2bfc497bb7f954be808e0c8e2965f7397063370b7d3c4", func := "armarium/armariumlaw8.ShelfPack", spec := "shelfPack", inPlace := ["math.archTrunc", "math.Float64bits", "math.Float64frombits", "internal/abi.NoEscape", "internal/bytealg.IndexByteString", "slices.overlaps[armarium/api.Entry]", "slices.overlaps[armarium/api.Memo]"], unfollowed := true, recurses := true, named := ["internal/strconv.uint64pow10", "math/bits.deBruijn32tab", "math/bits.deBruijn64tab", "strconv.ErrSyntax", "strconv.ErrRange"], apart := false, laid := [("math/bits.deBruijn32tab", laid_math_bits_deBruijn32tab), ("math/bits.deBruijn64tab", laid_math_bits_deBruijn64tab), ("internal/strconv.uint64pow10", laid_internal_strconv_uint64pow10), ("strconv.ErrRange", laid_strconv_ErrRange), ("strconv.ErrSyntax", laid_strconv_ErrSyntax)], narrowed := true }
def ShelfPackUptoSaid : Prop := shelfPackUptoRow.holds Tryz.pinned (OpenSpec.upto shelfPackSpec)

/-- 'armariumlaw8.ShelfLearn', WHERE WHAT IT READS IS OF BULK AT MOST 1048576: true; the input reads as it did. -/
def shelfLearnUptoRow : OpenClaim := { program := "ytokglimimnelaaagreatdoor", sum := "ffce273f6d69213b55f2bfc497bb7f954be808e0c8e2965f7397063370b7d3c4", func := "armarium/armariumlaw8.ShelfLearn", spec := "shelfLearn", inPlace := ["math.archTrunc", "math.Float64bits", "math.Float64frombits", "internal/abi.NoEscape", "internal/bytealg.IndexByteString", "slices.overlaps[armarium/api.Entry]", "slices.overlaps[armarium/api.Memo]"], unfollowed := true, recurses := true, named := ["internal/strconv.uint64pow10", "math/bits.deBruijn32tab", "math/bits.deBruijn64tab", "strconv.ErrSyntax", "strconv.ErrRange"], apart := false, laid := [("math/bits.deBruijn32tab", laid_math_bits_deBruijn32tab), ("math/bits.deBruijn64tab", laid_math_bits_deBruijn64tab), ("internal/strconv.uint64pow10", laid_internal_strconv_uint64pow10), ("strconv.ErrRange", laid_strconv_ErrRange), ("strconv.ErrSyntax", laid_strconv_ErrSyntax)], narrowed := true }
def ShelfLearnUptoSaid : Prop := shelfLearnUptoRow.holds Tryz.pinned (OpenSpec.upto shelfLearnSpec)

/-- 'armariumlaw8.ShelfAll', WHERE WHAT IT READS IS OF BULK AT MOST 1048576: true; the input reads as it did. -/
def shelfAllUptoRow : OpenClaim := { program := "ytokglimimnelaaagreatdoor", sum := "ffce273f6d69213b55f2bfc497bb7f954be808e0c8e2965f7397063370b7d3c4", func := "armarium/armariumlaw8.ShelfAll", spec := "shelfAll", inPlace := ["math.archTrunc", "math.Float64bits", "math.Float64frombits", "internal/abi.NoEscape", "internal/bytealg.IndexByteString", "slices.overlaps[armarium/api.Entry]", "slices.overlaps[armarium/api.Memo]"], unfollowed := true, recurses := true, named := ["internal/strconv.uint64pow10", "math/bits.deBruijn32tab", "math/bits.deBruijn64tab", "strconv.ErrSyntax", "strconv.ErrRange"], apart := false, laid := [("math/bits.deBruijn32tab", laid_math_bits_deBruijn32tab), ("math/bits.deBruijn64tab", laid_math_bits_deBruijn64tab), ("internal/strconv.uint64pow10", laid_internal_strconv_uint64pow10), ("strconv.ErrRange", laid_strconv_ErrRange), ("strconv.ErrSyntax", laid_strconv_ErrSyntax)], narrowed := true }
def ShelfAllUptoSaid : Prop := shelfAllUptoRow.holds Tryz.pinned (OpenSpec.upto shelfAllSpec)

/-- 'armariumlaw8.ShelfNone', WHERE WHAT IT READS IS OF BULK AT MOST 1048576: true; the input reads as it did. -/
def shelfNoneUptoRow : OpenClaim := { program := "ytokglimimnelaaagreatdoor", sum := "ffce273f6d69213b55f2bfc497bb7f954be808e0c8e2965f7397063370b7d3c4", func := "armarium/armariumlaw8.ShelfNone", spec := "shelfNone", inPlace := ["math.archTrunc", "math.Float64bits", "math.Float64frombits", "slices.overlaps[armarium/api.Entry]", "slices.overlaps[armarium/api.Memo]", "internal/abi.NoEscape", "internal/bytealg.IndexByteString"], unfollowed := true, recurses := true, named := ["internal/strconv.uint64pow10", "math/bits.deBruijn32tab", "math/bits.deBruijn64tab", "strconv.ErrSyntax", "strconv.ErrRange"], apart := false, laid := [("math/bits.deBruijn32tab", laid_math_bits_deBruijn32tab), ("math/bits.deBruijn64tab", laid_math_bits_deBruijn64tab), ("internal/strconv.uint64pow10", laid_internal_strconv_uint64pow10), ("strconv.ErrRange", laid_strconv_ErrRange), ("strconv.ErrSyntax", laid_strconv_ErrSyntax)], narrowed := true }
def ShelfNoneUptoSaid : Prop := shelfNoneUptoRow.holds Tryz.pinned (OpenSpec.upto shelfNoneSpec)

end Rows
end Go.Proofs.YtokglimimnelaaaGreatDoor
