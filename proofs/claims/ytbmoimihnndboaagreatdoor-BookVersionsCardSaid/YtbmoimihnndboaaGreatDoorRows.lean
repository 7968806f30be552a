/-
  NARROWER THAN 'FOR EVERY INPUT', by the rows' own cells (each row's printed sentence says how): DeedAll: laid · DeedAny: laid · DeedTurn: laid · TomeAll: laid · BookMay: laid · BookTurn: laid · BookAll: laid · BookAny: laid · BookTwice: laid · BookVersions: laid · BookFull: laid · DeedKeys: laid · DeedHomes: laid · TomeOwn: laid · TomeMany: laid · BookKeys: laid · BookConds: laid · BookDelete: laid · BookLows: laid · BookReads: laid.
  DERIVED. THE GIVEN ROWS OF THIS SEAT. 20 by the template 'for every input the law returns true; each argument reads behind the call as it read before'; 0 by the template 'total and deterministic' (their statements: YtbmoimihnndboaaGreatDoorTotals.lean).
  GIVEN WITH THE SEED: the statements are not yours to turn. If you find one false, say at which input.
  Laid BY PROGRAM, IN A SANDBOX (cutbox-rows.mjs): the forced cells as the released guide's own fill.sh prints them over the translation 5cbc92ae386a48c2… (all of the seat's roots in one cut). By AI agents, Wed Nov 11 2026. No macro, syntax, notation, axiom, sorry.
-/
import Derived.Test.YtbmoimihnndboaaGreatDoorChecked
import GoSem.Claim
import GoSem.ClaimJoined
import GoSem.ClaimMapViews
import Derived.JoinedTies
import Derived.KernelRfl
namespace Go.Proofs.YtbmoimihnndboaaGreatDoor
/- THE CELL 'sum', in the pinned program and in every row, IS THE sha256 OF THE DUMP (.gsa) THAT YtbmoimihnndboaaGreatDoorProg.lean LOADS. Nothing in Lean hashes anything: it is a label: what it is worth is what the hold of that sum in a sandbox is worth. -/
noncomputable def Tryz.pinned : Pinned := { name := "ytbmoimihnndboaagreatdoor", sum := "5cbc92ae386a48c288e8f250ebfe0a381a8e1e82c06e6a5ef45d0f2b87aa8e39", checked := Tryz.checked }
namespace Rows
def none {H : Type} : Left H := { results := [], args := [] }

/- WHAT THE LISTED PACKAGE-LEVEL VARIABLES READ AS WHEN THE CALL BEGINS. Each datum BY PROGRAM (the guide's laid-datum.mjs) off the statement by which the dump's own 'gosem.cut.vars' lays the variable. In a bare row this is a premise. The card (YtbmoimihnndboaaGreatDoorCards.lean) ties it to the program's text. -/
def laid_math_bits_deBruijn32tab {H : Type} : DataW H := .agg [.lit (.int .u8 0), .lit (.int .u8 1), .lit (.int .u8 28), .lit (.int .u8 2), .lit (.int .u8 29), .lit (.int .u8 14), .lit (.int .u8 24), .lit (.int .u8 3), .lit (.int .u8 30), .lit (.int .u8 22), .lit (.int .u8 20), .lit (.int .u8 15), .lit (.int .u8 25), .lit (.int .u8 17), .lit (.int .u8 4), .lit (.int .u8 8), .lit (.int .u8 31), .lit (.int .u8 27), .lit (.int .u8 13), .lit (.int .u8 23), .lit (.int .u8 21), .lit (.int .u8 19), .lit (.int .u8 16), .lit (.int .u8 7), .lit (.int .u8 26), .lit (.int .u8 12), .lit (.int .u8 18), .lit (.int .u8 6), .lit (.int .u8 11), .lit (.int .u8 5), .lit (.int .u8 10), .lit (.int .u8 9)]
def laid_math_bits_deBruijn64tab {H : Type} : DataW H := .agg [.lit (.int .u8 0), .lit (.int .u8 1), .lit (.int .u8 56), .lit (.int .u8 2), .lit (.int .u8 57), .lit (.int .u8 49), .lit (.int .u8 28), .lit (.int .u8 3), .lit (.int .u8 61), .lit (.int .u8 58), .lit (.int .u8 42), .lit (.int .u8 50), .lit (.int .u8 38), .lit (.int .u8 29), .lit (.int .u8 17), .lit (.int .u8 4), .lit (.int .u8 62), .lit (.int .u8 47), .lit (.int .u8 59), .lit (.int .u8 36), .lit (.int .u8 45), .lit (.int .u8 43), .lit (.int .u8 51), .lit (.int .u8 22), .lit (.int .u8 53), .lit (.int .u8 39), .lit (.int .u8 33), .lit (.int .u8 30), .lit (.int .u8 24), .lit (.int .u8 18), .lit (.int .u8 12), .lit (.int .u8 5), .lit (.int .u8 63), .lit (.int .u8 55), .lit (.int .u8 48), .lit (.int .u8 27), .lit (.int .u8 60), .lit (.int .u8 41), .lit (.int .u8 37), .lit (.int .u8 16), .lit (.int .u8 46), .lit (.int .u8 35), .lit (.int .u8 44), .lit (.int .u8 21), .lit (.int .u8 52), .lit (.int .u8 32), .lit (.int .u8 23), .lit (.int .u8 11), .lit (.int .u8 54), .lit (.int .u8 26), .lit (.int .u8 40), .lit (.int .u8 15), .lit (.int .u8 34), .lit (.int .u8 20), .lit (.int .u8 31), .lit (.int .u8 10), .lit (.int .u8 25), .lit (.int .u8 14), .lit (.int .u8 19), .lit (.int .u8 9), .lit (.int .u8 13), .lit (.int .u8 8), .lit (.int .u8 7), .lit (.int .u8 6)]
def laid_internal_strconv_uint64pow10 {H : Type} : DataW H := .agg [.lit (.int .u64 1), .lit (.int .u64 10), .lit (.int .u64 100), .lit (.int .u64 1000), .lit (.int .u64 10000), .lit (.int .u64 100000), .lit (.int .u64 1000000), .lit (.int .u64 10000000), .lit (.int .u64 100000000), .lit (.int .u64 1000000000), .lit (.int .u64 10000000000), .lit (.int .u64 100000000000), .lit (.int .u64 1000000000000), .lit (.int .u64 10000000000000), .lit (.int .u64 100000000000000), .lit (.int .u64 1000000000000000), .lit (.int .u64 10000000000000000), .lit (.int .u64 100000000000000000), .lit (.int .u64 1000000000000000000), .lit (.int .u64 10000000000000000000)]
def laid_strconv_ErrRange {H : Type} : DataW H := .iface "*errors.errorString" (.ptr (.agg [.lit (.string [118, 97, 108, 117, 101, 32, 111, 117, 116, 32, 111, 102, 32, 114, 97, 110, 103, 101])]))
def laid_strconv_ErrSyntax {H : Type} : DataW H := .iface "*errors.errorString" (.ptr (.agg [.lit (.string [105, 110, 118, 97, 108, 105, 100, 32, 115, 121, 110, 116, 97, 120])]))

/-- 'armariumlaw5.DeedAll': WHATEVER THE INPUT: true; the input reads as it did. -/
def deedAllSpec : ChangeSpec := { name := "deedAll", fn := fun _ => fun
  | [d1, d2, d3, d4, d5] => { results := [.lit (.bool true)], args := [d1, d2, d3, d4, d5] }
  | _ => none }
def deedAllRow : OpenClaim := { program := "ytbmoimihnndboaagreatdoor", sum := "5cbc92ae386a48c288e8f250ebfe0a381a8e1e82c06e6a5ef45d0f2b87aa8e39", func := "armarium/armariumlaw5.DeedAll", spec := "deedAll", inPlace := ["math.archTrunc", "math.Float64bits", "math.Float64frombits", "internal/abi.NoEscape", "internal/bytealg.IndexByteString", "slices.overlaps[armarium/api.Entry]", "slices.overlaps[armarium/api.Memo]"], unfollowed := true, recurses := true, named := ["internal/strconv.uint64pow10", "math/bits.deBruijn32tab", "math/bits.deBruijn64tab", "strconv.ErrSyntax", "strconv.ErrRange"], apart := false, laid := [("math/bits.deBruijn32tab", laid_math_bits_deBruijn32tab), ("math/bits.deBruijn64tab", laid_math_bits_deBruijn64tab), ("internal/strconv.uint64pow10", laid_internal_strconv_uint64pow10), ("strconv.ErrRange", laid_strconv_ErrRange), ("strconv.ErrSyntax", laid_strconv_ErrSyntax)] }
def DeedAllSaid : Prop := deedAllRow.holds Tryz.pinned (OpenSpec.ofChange deedAllSpec)

/-- ITS FALSE NEIGHBOUR: 'it returns false'. Refute it at one input. -/
def deedAllWrong : ChangeSpec := { name := "deedAll", fn := fun _ => fun
  | [d1, d2, d3, d4, d5] => { results := [.lit (.bool false)], args := [d1, d2, d3, d4, d5] }
  | _ => none }
def DeedAllWrongFalsely : Prop := deedAllRow.holds Tryz.pinned (OpenSpec.ofChange deedAllWrong)

/-- 'armariumlaw5.DeedAny': WHATEVER THE INPUT: true; the input reads as it did. -/
def deedAnySpec : ChangeSpec := { name := "deedAny", fn := fun _ => fun
  | [d1, d2, d3, d4] => { results := [.lit (.bool true)], args := [d1, d2, d3, d4] }
  | _ => none }
def deedAnyRow : OpenClaim := { program := "ytbmoimihnndboaagreatdoor", sum := "5cbc92ae386a48c288e8f250ebfe0a381a8e1e82c06e6a5ef45d0f2b87aa8e39", func := "armarium/armariumlaw5.DeedAny", spec := "deedAny", inPlace := ["math.archTrunc", "math.Float64bits", "math.Float64frombits", "internal/abi.NoEscape", "internal/bytealg.IndexByteString", "slices.overlaps[armarium/api.Entry]", "slices.overlaps[armarium/api.Memo]"], unfollowed := true, recurses := true, named := ["internal/strconv.uint64pow10", "math/bits.deBruijn32tab", "math/bits.deBruijn64tab", "strconv.ErrSyntax", "strconv.ErrRange"], apart := false, laid := [("math/bits.deBruijn32tab", laid_math_bits_deBruijn32tab), ("math/bits.deBruijn64tab", laid_math_bits_deBruijn64tab), ("internal/strconv.uint64pow10", laid_internal_strconv_uint64pow10), ("strconv.ErrRange", laid_strconv_ErrRange), ("strconv.ErrSyntax", laid_strconv_ErrSyntax)] }
def DeedAnySaid : Prop := deedAnyRow.holds Tryz.pinned (OpenSpec.ofChange deedAnySpec)

/-- ITS FALSE NEIGHBOUR: 'it returns false'. Refute it at one input. -/
def deedAnyWrong : ChangeSpec := { name := "deedAny", fn := fun _ => fun
  | [d1, d2, d3, d4] => { results := [.lit (.bool false)], args := [d1, d2, d3, d4] }
  | _ => none }
def DeedAnyWrongFalsely : Prop := deedAnyRow.holds Tryz.pinned (OpenSpec.ofChange deedAnyWrong)

/-- 'armariumlaw5.DeedTurn': WHATEVER THE INPUT: true; the input reads as it did. -/
def deedTurnSpec : ChangeSpec := { name := "deedTurn", fn := fun _ => fun
  | [d1, d2, d3] => { results := [.lit (.bool true)], args := [d1, d2, d3] }
  | _ => none }
def deedTurnRow : OpenClaim := { program := "ytbmoimihnndboaagreatdoor", sum := "5cbc92ae386a48c288e8f250ebfe0a381a8e1e82c06e6a5ef45d0f2b87aa8e39", func := "armarium/armariumlaw5.DeedTurn", spec := "deedTurn", inPlace := ["math.archTrunc", "math.Float64bits", "math.Float64frombits", "internal/abi.NoEscape", "internal/bytealg.IndexByteString", "slices.overlaps[armarium/api.Entry]", "slices.overlaps[armarium/api.Memo]"], unfollowed := true, recurses := true, named := ["internal/strconv.uint64pow10", "math/bits.deBruijn32tab", "math/bits.deBruijn64tab", "strconv.ErrSyntax", "strconv.ErrRange"], apart := false, laid := [("math/bits.deBruijn32tab", laid_math_bits_deBruijn32tab), ("math/bits.deBruijn64tab", laid_math_bits_deBruijn64tab), ("internal/strconv.uint64pow10", laid_internal_strconv_uint64pow10), ("strconv.ErrRange", laid_strconv_ErrRange), ("strconv.ErrSyntax", laid_strconv_ErrSyntax)] }
def DeedTurnSaid : Prop := deedTurnRow.holds Tryz.pinned (OpenSpec.ofChange deedTurnSpec)

/-- ITS FALSE NEIGHBOUR: 'it returns false'. Refute it at one input. -/
def deedTurnWrong : ChangeSpec := { name := "deedTurn", fn := fun _ => fun
  | [d1, d2, d3] => { results := [.lit (.bool false)], args := [d1, d2, d3] }
  | _ => none }
def DeedTurnWrongFalsely : Prop := deedTurnRow.holds Tryz.pinned (OpenSpec.ofChange deedTurnWrong)

/-- 'armariumlaw5.TomeAll': WHATEVER THE INPUT: true; the input reads as it did. -/
def tomeAllSpec : ChangeSpec := { name := "tomeAll", fn := fun _ => fun
  | [d1, d2, d3, d4, d5] => { results := [.lit (.bool true)], args := [d1, d2, d3, d4, d5] }
  | _ => none }
def tomeAllRow : OpenClaim := { program := "ytbmoimihnndboaagreatdoor", sum := "5cbc92ae386a48c288e8f250ebfe0a381a8e1e82c06e6a5ef45d0f2b87aa8e39", func := "armarium/armariumlaw5.TomeAll", spec := "tomeAll", inPlace := ["math.archTrunc", "math.Float64bits", "math.Float64frombits", "internal/abi.NoEscape", "internal/bytealg.IndexByteString", "slices.overlaps[armarium/api.Entry]", "slices.overlaps[armarium/api.Memo]"], unfollowed := true, recurses := true, named := ["internal/strconv.uint64pow10", "math/bits.deBruijn32tab", "math/bits.deBruijn64tab", "strconv.ErrSyntax", "strconv.ErrRange"], apart := false, laid := [("math/bits.deBruijn32tab", laid_math_bits_deBruijn32tab), ("math/bits.deBruijn64tab", laid_math_bits_deBruijn64tab), ("internal/strconv.uint64pow10", laid_internal_strconv_uint64pow10), ("strconv.ErrRange", laid_strconv_ErrRange), ("strconv.ErrSyntax", laid_strconv_ErrSyntax)] }
def TomeAllSaid : Prop := tomeAllRow.holds Tryz.pinned (OpenSpec.ofChange tomeAllSpec)

/-- ITS FALSE NEIGHBOUR: 'it returns false'. Refute it at one input. -/
def tomeAllWrong : ChangeSpec := { name := "tomeAll", fn := fun _ => fun
  | [d1, d2, d3, d4, d5] => { results := [.lit (.bool false)], args := [d1, d2, d3, d4, d5] }
  | _ => none }
def TomeAllWrongFalsely : Prop := tomeAllRow.holds Tryz.pinned (OpenSpec.ofChange tomeAllWrong)

/-- 'armariumlaw5.BookMay': WHATEVER THE INPUT: true; the input reads as it did. -/
def bookMaySpec : ChangeSpec := { name := "bookMay", fn := fun _ => fun
  | [d1, d2, d3] => { results := [.lit (.bool true)], args := [d1, d2, d3] }
  | _ => none }
def bookMayRow : OpenClaim := { program := "ytbmoimihnndboaagreatdoor", sum := "5cbc92ae386a48c288e8f250ebfe0a381a8e1e82c06e6a5ef45d0f2b87aa8e39", func := "armarium/armariumlaw5.BookMay", spec := "bookMay", inPlace := ["math.archTrunc", "math.Float64bits", "math.Float64frombits", "internal/abi.NoEscape", "internal/bytealg.IndexByteString", "slices.overlaps[armarium/api.Entry]", "slices.overlaps[armarium/api.Memo]"], unfollowed := true, recurses := true, named := ["internal/strconv.uint64pow10", "math/bits.deBruijn32tab", "math/bits.deBruijn64tab", "strconv.ErrSyntax", "strconv.ErrRange"], apart := false, laid := [("math/bits.deBruijn32tab", laid_math_bits_deBruijn32tab), ("math/bits.deBruijn64tab", laid_math_bits_deBruijn64tab), ("internal/strconv.uint64pow10", laid_internal_strconv_uint64pow10), ("strconv.ErrRange", laid_strconv_ErrRange), ("strconv.ErrSyntax", laid_strconv_ErrSyntax)] }
def BookMaySaid : Prop := bookMayRow.holds Tryz.pinned (OpenSpec.ofChange bookMaySpec)

/-- ITS FALSE NEIGHBOUR: 'it returns false'. Refute it at one input. -/
def bookMayWrong : ChangeSpec := { name := "bookMay", fn := fun _ => fun
  | [d1, d2, d3] => { results := [.lit (.bool false)], args := [d1, d2, d3] }
  | _ => none }
def BookMayWrongFalsely : Prop := bookMayRow.holds Tryz.pinned (OpenSpec.ofChange bookMayWrong)

/-- 'armariumlaw5.BookTurn': WHATEVER THE INPUT: true; the input reads as it did. -/
def bookTurnSpec : ChangeSpec := { name := "bookTurn", fn := fun _ => fun
  | [d1, d2, d3] => { results := [.lit (.bool true)], args := [d1, d2, d3] }
  | _ => none }
def bookTurnRow : OpenClaim := { program := "ytbmoimihnndboaagreatdoor", sum := "5cbc92ae386a48c288e8f250ebfe0a381a8e1e82c06e6a5ef45d0f2b87aa8e39", func := "armarium/armariumlaw5.BookTurn", spec := "bookTurn", inPlace := ["math.archTrunc", "math.Float64bits", "math.Float64frombits", "internal/abi.NoEscape", "internal/bytealg.IndexByteString", "slices.overlaps[armarium/api.Entry]", "slices.overlaps[armarium/api.Memo]"], unfollowed := true, recurses := true, named := ["internal/strconv.uint64pow10", "math/bits.deBruijn32tab", "math/bits.deBruijn64tab", "strconv.ErrSyntax", "strconv.ErrRange"], apart := false, laid := [("math/bits.deBruijn32tab", laid_math_bits_deBruijn32tab), ("math/bits.deBruijn64tab", laid_math_bits_deBruijn64tab), ("internal/strconv.uint64pow10", laid_internal_strconv_uint64pow10), ("strconv.ErrRange", laid_strconv_ErrRange), ("strconv.ErrSyntax", laid_strconv_ErrSyntax)] }
def BookTurnSaid : Prop := bookTurnRow.holds Tryz.pinned (OpenSpec.ofChange bookTurnSpec)

/-- ITS FALSE NEIGHBOUR: 'it returns false'. Refute it at one input. -/
def bookTurnWrong : ChangeSpec := { name := "bookTurn", fn := fun _ => fun
  | [d1, d2, d3] => { results := [.lit (.bool false)], args := [d1, d2, d3] }
  | _ => none }
def BookTurnWrongFalsely : Prop := bookTurnRow.holds Tryz.pinned (OpenSpec.ofChange bookTurnWrong)

/-- 'armariumlaw5.BookAll': WHATEVER THE INPUT: true; the input reads as it did. -/
def bookAllSpec : ChangeSpec := { name := "bookAll", fn := fun _ => fun
  | [d] => { results := [.lit (.bool true)], args := [d] }
  | _ => none }
def bookAllRow : OpenClaim := { program := "ytbmoimihnndboaagreatdoor", sum := "5cbc92ae386a48c288e8f250ebfe0a381a8e1e82c06e6a5ef45d0f2b87aa8e39", func := "armarium/armariumlaw5.BookAll", spec := "bookAll", inPlace := ["math.archTrunc", "math.Float64bits", "math.Float64frombits", "internal/abi.NoEscape", "internal/bytealg.IndexByteString", "slices.overlaps[armarium/api.Entry]", "slices.overlaps[armarium/api.Memo]"], unfollowed := true, recurses := true, named := ["internal/strconv.uint64pow10", "math/bits.deBruijn32tab", "math/bits.deBruijn64tab", "strconv.ErrSyntax", "strconv.ErrRange"], apart := false, laid := [("math/bits.deBruijn32tab", laid_math_bits_deBruijn32tab), ("math/bits.deBruijn64tab", laid_math_bits_deBruijn64tab), ("internal/strconv.uint64pow10", laid_internal_strconv_uint64pow10), ("strconv.ErrRange", laid_strconv_ErrRange), ("strconv.ErrSyntax", laid_strconv_ErrSyntax)] }
def BookAllSaid : Prop := bookAllRow.holds Tryz.pinned (OpenSpec.ofChange bookAllSpec)

/-- ITS FALSE NEIGHBOUR: 'it returns false'. Refute it at one input. -/
def bookAllWrong : ChangeSpec := { name := "bookAll", fn := fun _ => fun
  | [d] => { results := [.lit (.bool false)], args := [d] }
  | _ => none }
def BookAllWrongFalsely : Prop := bookAllRow.holds Tryz.pinned (OpenSpec.ofChange bookAllWrong)

/-- 'armariumlaw5.BookAny': WHATEVER THE INPUT: true; the input reads as it did. -/
def bookAnySpec : ChangeSpec := { name := "bookAny", fn := fun _ => fun
  | [d1, d2] => { results := [.lit (.bool true)], args := [d1, d2] }
  | _ => none }
def bookAnyRow : OpenClaim := { program := "ytbmoimihnndboaagreatdoor", sum := "5cbc92ae386a48c288e8f250ebfe0a381a8e1e82c06e6a5ef45d0f2b87aa8e39", func := "armarium/armariumlaw5.BookAny", spec := "bookAny", inPlace := ["math.archTrunc", "math.Float64bits", "math.Float64frombits", "internal/abi.NoEscape", "internal/bytealg.IndexByteString", "slices.overlaps[armarium/api.Entry]", "slices.overlaps[armarium/api.Memo]"], unfollowed := true, recurses := true, named := ["internal/strconv.uint64pow10", "math/bits.deBruijn32tab", "math/bits.deBruijn64tab", "strconv.ErrSyntax", "strconv.ErrRange"], apart := false, laid := [("math/bits.deBruijn32tab", laid_math_bits_deBruijn32tab), ("math/bits.deBruijn64tab", laid_math_bits_deBruijn64tab), ("internal/strconv.uint64pow10", laid_internal_strconv_uint64pow10), ("strconv.ErrRange", laid_strconv_ErrRange), ("strconv.ErrSyntax", laid_strconv_ErrSyntax)] }
def BookAnySaid : Prop := bookAnyRow.holds Tryz.pinned (OpenSpec.ofChange bookAnySpec)

/-- ITS FALSE NEIGHBOUR: 'it returns false'. Refute it at one input. -/
def bookAnyWrong : ChangeSpec := { name := "bookAny", fn := fun _ => fun
  | [d1, d2] => { results := [.lit (.bool false)], args := [d1, d2] }
  | _ => none }
def BookAnyWrongFalsely : Prop := bookAnyRow.holds Tryz.pinned (OpenSpec.ofChange bookAnyWrong)

/-- 'armariumlaw5.BookTwice': WHATEVER THE INPUT: true; the input reads as it did. -/
def bookTwiceSpec : ChangeSpec := { name := "bookTwice", fn := fun _ => fun
  | [d1, d2, d3] => { results := [.lit (.bool true)], args := [d1, d2, d3] }
  | _ => none }
def bookTwiceRow : OpenClaim := { program := "ytbmoimihnndboaagreatdoor", sum := "5cbc92ae386a48c288e8f250ebfe0a381a8e1e82c06e6a5ef45d0f2b87aa8e39", func := "armarium/armariumlaw5.BookTwice", spec := "bookTwice", inPlace := ["math.archTrunc", "math.Float64bits", "math.Float64frombits", "internal/abi.NoEscape", "internal/bytealg.IndexByteString", "slices.overlaps[armarium/api.Entry]", "slices.overlaps[armarium/api.Memo]"], unfollowed := true, recurses := true, named := ["internal/strconv.uint64pow10", "math/bits.deBruijn32tab", "math/bits.deBruijn64tab", "strconv.ErrSyntax", "strconv.ErrRange"], apart := false, laid := [("math/bits.deBruijn32tab", laid_math_bits_deBruijn32tab), ("math/bits.deBruijn64tab", laid_math_bits_deBruijn64tab), ("internal/strconv.uint64pow10", laid_internal_strconv_uint64pow10), ("strconv.ErrRange", laid_strconv_ErrRange), ("strconv.ErrSyntax", laid_strconv_ErrSyntax)] }
def BookTwiceSaid : Prop := bookTwiceRow.holds Tryz.pinned (OpenSpec.ofChange bookTwiceSpec)

/-- ITS FALSE NEIGHBOUR: 'it returns false'. Refute it at one input. -/
def bookTwiceWrong : ChangeSpec := { name := "bookTwice", fn := fun _ => fun
  | [d1, d2, d3] => { results := [.lit (.bool false)], args := [d1, d2, d3] }
  | _ => none }
def BookTwiceWrongFalsely : Prop := bookTwiceRow.holds Tryz.pinned (OpenSpec.ofChange bookTwiceWrong)

/-- 'armariumlaw5.BookVersions': WHATEVER THE INPUT: true; the input reads as it did. -/
def bookVersionsSpec : ChangeSpec := { name := "bookVersions", fn := fun _ => fun
  | [d1, d2] => { results := [.lit (.bool true)], args := [d1, d2] }
  | _ => none }
def bookVersionsRow : OpenClaim := { program := "ytbmoimihnndboaagreatdoor", sum := "5cbc92ae386a48c288e8f250ebfe0a381a8e1e82c06e6a5ef45d0f2b87aa8e39", func := "armarium/armariumlaw5.BookVersions", spec := "bookVersions", inPlace := ["math.archTrunc", "math.Float64bits", "math.Float64frombits", "internal/abi.NoEscape", "internal/bytealg.IndexByteString", "slices.overlaps[armarium/api.Entry]", "slices.overlaps[armarium/api.Memo]"], unfollowed := true, recurses := true, named := ["internal/strconv.uint64pow10", "math/bits.deBruijn32tab", "math/bits.deBruijn64tab", "strconv.ErrSyntax", "strconv.ErrRange"], apart := false, laid := [("math/bits.deBruijn32tab", laid_math_bits_deBruijn32tab), ("math/bits.deBruijn64tab", laid_math_bits_deBruijn64tab), ("internal/strconv.uint64pow10", laid_internal_strconv_uint64pow10), ("strconv.ErrRange", laid_strconv_ErrRange), ("strconv.ErrSyntax", laid_strconv_ErrSyntax)] }
def BookVersionsSaid : Prop := bookVersionsRow.holds Tryz.pinned (OpenSpec.ofChange bookVersionsSpec)

/-- ITS FALSE NEIGHBOUR: 'it returns false'. Refute it at one input. -/
def bookVersionsWrong : ChangeSpec := { name := "bookVersions", fn := fun _ => fun
  | [d1, d2] => { results := [.lit (.bool false)], args := [d1, d2] }
  | _ => none }
def BookVersionsWrongFalsely : Prop := bookVersionsRow.holds Tryz.pinned (OpenSpec.ofChange bookVersionsWrong)

/-- 'armariumlaw5.BookFull': WHATEVER THE INPUT: true; the input reads as it did. -/
def bookFullSpec : ChangeSpec := { name := "bookFull", fn := fun _ => fun
  | [d1, d2] => { results := [.lit (.bool true)], args := [d1, d2] }
  | _ => none }
def bookFullRow : OpenClaim := { program := "ytbmoimihnndboaagreatdoor", sum := "5cbc92ae386a48c288e8f250ebfe0a381a8e1e82c06e6a5ef45d0f2b87aa8e39", func := "armarium/armariumlaw5.BookFull", spec := "bookFull", inPlace := ["math.archTrunc", "math.Float64bits", "math.Float64frombits", "internal/abi.NoEscape", "internal/bytealg.IndexByteString", "slices.overlaps[armarium/api.Entry]", "slices.overlaps[armarium/api.Memo]"], unfollowed := true, recurses := true, named := ["internal/strconv.uint64pow10", "math/bits.deBruijn32tab", "math/bits.deBruijn64tab", "strconv.ErrSyntax", "strconv.ErrRange"], apart := false, laid := [("math/bits.deBruijn32tab", laid_math_bits_deBruijn32tab), ("math/bits.deBruijn64tab", laid_math_bits_deBruijn64tab), ("internal/strconv.uint64pow10", laid_internal_strconv_uint64pow10), ("strconv.ErrRange", laid_strconv_ErrRange), ("strconv.ErrSyntax", laid_strconv_ErrSyntax)] }
def BookFullSaid : Prop := bookFullRow.holds Tryz.pinned (OpenSpec.ofChange bookFullSpec)

/-- ITS FALSE NEIGHBOUR: 'it returns false'. Refute it at one input. -/
def bookFullWrong : ChangeSpec := { name := "bookFull", fn := fun _ => fun
  | [d1, d2] => { results := [.lit (.bool false)], args := [d1, d2] }
  | _ => none }
def BookFullWrongFalsely : Prop := bookFullRow.holds Tryz.pinned (OpenSpec.ofChange bookFullWrong)

/-- 'armariumlaw5.DeedKeys': WHATEVER THE INPUT: true; the input reads as it did. -/
def deedKeysSpec : ChangeSpec := { name := "deedKeys", fn := fun _ => fun
  | [d1, d2] => { results := [.lit (.bool true)], args := [d1, d2] }
  | _ => none }
def deedKeysRow : OpenClaim := { program := "ytbmoimihnndboaagreatdoor", sum := "5cbc92ae386a48c288e8f250ebfe0a381a8e1e82c06e6a5ef45d0f2b87aa8e39", func := "armarium/armariumlaw5.DeedKeys", spec := "deedKeys", inPlace := ["math.archTrunc", "math.Float64bits", "math.Float64frombits", "internal/abi.NoEscape", "internal/bytealg.IndexByteString", "slices.overlaps[armarium/api.Entry]", "slices.overlaps[armarium/api.Memo]"], unfollowed := true, recurses := true, named := ["internal/strconv.uint64pow10", "math/bits.deBruijn32tab", "math/bits.deBruijn64tab", "strconv.ErrSyntax", "strconv.ErrRange"], apart := false, laid := [("math/bits.deBruijn32tab", laid_math_bits_deBruijn32tab), ("math/bits.deBruijn64tab", laid_math_bits_deBruijn64tab), ("internal/strconv.uint64pow10", laid_internal_strconv_uint64pow10), ("strconv.ErrRange", laid_strconv_ErrRange), ("strconv.ErrSyntax", laid_strconv_ErrSyntax)] }
def DeedKeysSaid : Prop := deedKeysRow.holds Tryz.pinned (OpenSpec.ofChange deedKeysSpec)

/-- ITS FALSE NEIGHBOUR: 'it returns false'. Refute it at one input. -/
def deedKeysWrong : ChangeSpec := { name := "deedKeys", fn := fun _ => fun
  | [d1, d2] => { results := [.lit (.bool false)], args := [d1, d2] }
  | _ => none }
def DeedKeysWrongFalsely : Prop := deedKeysRow.holds Tryz.pinned (OpenSpec.ofChange deedKeysWrong)

/-- 'armariumlaw5.DeedHomes': WHATEVER THE INPUT: true; the input reads as it did. -/
def deedHomesSpec : ChangeSpec := { name := "deedHomes", fn := fun _ => fun
  | [d1, d2, d3, d4] => { results := [.lit (.bool true)], args := [d1, d2, d3, d4] }
  | _ => none }
def deedHomesRow : OpenClaim := { program := "ytbmoimihnndboaagreatdoor", sum := "5cbc92ae386a48c288e8f250ebfe0a381a8e1e82c06e6a5ef45d0f2b87aa8e39", func := "armarium/armariumlaw5.DeedHomes", spec := "deedHomes", inPlace := ["math.archTrunc", "math.Float64bits", "math.Float64frombits", "internal/abi.NoEscape", "internal/bytealg.IndexByteString", "slices.overlaps[armarium/api.Entry]", "slices.overlaps[armarium/api.Memo]"], unfollowed := true, recurses := true, named := ["internal/strconv.uint64pow10", "math/bits.deBruijn32tab", "math/bits.deBruijn64tab", "strconv.ErrSyntax", "strconv.ErrRange"], apart := false, laid := [("math/bits.deBruijn32tab", laid_math_bits_deBruijn32tab), ("math/bits.deBruijn64tab", laid_math_bits_deBruijn64tab), ("internal/strconv.uint64pow10", laid_internal_strconv_uint64pow10), ("strconv.ErrRange", laid_strconv_ErrRange), ("strconv.ErrSyntax", laid_strconv_ErrSyntax)] }
def DeedHomesSaid : Prop := deedHomesRow.holds Tryz.pinned (OpenSpec.ofChange deedHomesSpec)

/-- ITS FALSE NEIGHBOUR: 'it returns false'. Refute it at one input. -/
def deedHomesWrong : ChangeSpec := { name := "deedHomes", fn := fun _ => fun
  | [d1, d2, d3, d4] => { results := [.lit (.bool false)], args := [d1, d2, d3, d4] }
  | _ => none }
def DeedHomesWrongFalsely : Prop := deedHomesRow.holds Tryz.pinned (OpenSpec.ofChange deedHomesWrong)

/-- 'armariumlaw5.TomeOwn': WHATEVER THE INPUT: true; the input reads as it did. -/
def tomeOwnSpec : ChangeSpec := { name := "tomeOwn", fn := fun _ => fun
  | [d1, d2, d3] => { results := [.lit (.bool true)], args := [d1, d2, d3] }
  | _ => none }
def tomeOwnRow : OpenClaim := { program := "ytbmoimihnndboaagreatdoor", sum := "5cbc92ae386a48c288e8f250ebfe0a381a8e1e82c06e6a5ef45d0f2b87aa8e39", func := "armarium/armariumlaw5.TomeOwn", spec := "tomeOwn", inPlace := ["math.archTrunc", "math.Float64bits", "math.Float64frombits", "internal/abi.NoEscape", "internal/bytealg.IndexByteString", "slices.overlaps[armarium/api.Entry]", "slices.overlaps[armarium/api.Memo]"], unfollowed := true, recurses := true, named := ["internal/strconv.uint64pow10", "math/bits.deBruijn32tab", "math/bits.deBruijn64tab", "strconv.ErrSyntax", "strconv.ErrRange"], apart := false, laid := [("math/bits.deBruijn32tab", laid_math_bits_deBruijn32tab), ("math/bits.deBruijn64tab", laid_math_bits_deBruijn64tab), ("internal/strconv.uint64pow10", laid_internal_strconv_uint64pow10), ("strconv.ErrRange", laid_strconv_ErrRange), ("strconv.ErrSyntax", laid_strconv_ErrSyntax)] }
def TomeOwnSaid : Prop := tomeOwnRow.holds Tryz.pinned (OpenSpec.ofChange tomeOwnSpec)

/-- ITS FALSE NEIGHBOUR: 'it returns false'. Refute it at one input. -/
def tomeOwnWrong : ChangeSpec := { name := "tomeOwn", fn := fun _ => fun
  | [d1, d2, d3] => { results := [.lit (.bool false)], args := [d1, d2, d3] }
  | _ => none }
def TomeOwnWrongFalsely : Prop := tomeOwnRow.holds Tryz.pinned (OpenSpec.ofChange tomeOwnWrong)

/-- 'armariumlaw5.TomeMany': WHATEVER THE INPUT: true; the input reads as it did. -/
def tomeManySpec : ChangeSpec := { name := "tomeMany", fn := fun _ => fun
  | [d] => { results := [.lit (.bool true)], args := [d] }
  | _ => none }
def tomeManyRow : OpenClaim := { program := "ytbmoimihnndboaagreatdoor", sum := "5cbc92ae386a48c288e8f250ebfe0a381a8e1e82c06e6a5ef45d0f2b87aa8e39", func := "armarium/armariumlaw5.TomeMany", spec := "tomeMany", inPlace := ["math.archTrunc", "math.Float64bits", "math.Float64frombits", "internal/abi.NoEscape", "internal/bytealg.IndexByteString", "slices.overlaps[armarium/api.Entry]", "slices.overlaps[armarium/api.Memo]"], unfollowed := true, recurses := true, named := ["internal/strconv.uint64pow10", "math/bits.deBruijn32tab", "math/bits.deBruijn64tab", "strconv.ErrSyntax", "strconv.ErrRange"], apart := false, laid := [("math/bits.deBruijn32tab", laid_math_bits_deBruijn32tab), ("math/bits.deBruijn64tab", laid_math_bits_deBruijn64tab), ("internal/strconv.uint64pow10", laid_internal_strconv_uint64pow10), ("strconv.ErrRange", laid_strconv_ErrRange), ("strconv.ErrSyntax", laid_strconv_ErrSyntax)] }
def TomeManySaid : Prop := tomeManyRow.holds Tryz.pinned (OpenSpec.ofChange tomeManySpec)

/-- ITS FALSE NEIGHBOUR: 'it returns false'. Refute it at one input. -/
def tomeManyWrong : ChangeSpec := { name := "tomeMany", fn := fun _ => fun
  | [d] => { results := [.lit (.bool false)], args := [d] }
  | _ => none }
def TomeManyWrongFalsely : Prop := tomeManyRow.holds Tryz.pinned (OpenSpec.ofChange tomeManyWrong)

/-- 'armariumlaw5.BookKeys': WHATEVER THE INPUT: true; the input reads as it did. -/
def bookKeysSpec : ChangeSpec := { name := "bookKeys", fn := fun _ => fun
  | [d1, d2] => { results := [.lit (.bool true)], args := [d1, d2] }
  | _ => none }
def bookKeysRow : OpenClaim := { program := "ytbmoimihnndboaagreatdoor", sum := "5cbc92ae386a48c288e8f250ebfe0a381a8e1e82c06e6a5ef45d0f2b87aa8e39", func := "armarium/armariumlaw5.BookKeys", spec := "bookKeys", inPlace := ["math.archTrunc", "math.Float64bits", "math.Float64frombits", "internal/abi.NoEscape", "internal/bytealg.IndexByteString", "slices.overlaps[armarium/api.Entry]", "slices.overlaps[armarium/api.Memo]"], unfollowed := true, recurses := true, named := ["internal/strconv.uint64pow10", "math/bits.deBruijn32tab", "math/bits.deBruijn64tab", "strconv.ErrSyntax", "strconv.ErrRange"], apart := false, laid := [("math/bits.deBruijn32tab", laid_math_bits_deBruijn32tab), ("math/bits.deBruijn64tab", laid_math_bits_deBruijn64tab), ("internal/strconv.uint64pow10", laid_internal_strconv_uint64pow10), ("strconv.ErrRange", laid_strconv_ErrRange), ("strconv.ErrSyntax", laid_strconv_ErrSyntax)] }
def BookKeysSaid : Prop := bookKeysRow.holds Tryz.pinned (OpenSpec.ofChange bookKeysSpec)

/-- ITS FALSE NEIGHBOUR: 'it returns false'. Refute it at one input. -/
def bookKeysWrong : ChangeSpec := { name := "bookKeys", fn := fun _ => fun
  | [d1, d2] => { results := [.lit (.bool false)], args := [d1, d2] }
  | _ => none }
def BookKeysWrongFalsely : Prop := bookKeysRow.holds Tryz.pinned (OpenSpec.ofChange bookKeysWrong)

/-- 'armariumlaw5.BookConds': WHATEVER THE INPUT: true; the input reads as it did. -/
def bookCondsSpec : ChangeSpec := { name := "bookConds", fn := fun _ => fun
  | [d1, d2, d3, d4] => { results := [.lit (.bool true)], args := [d1, d2, d3, d4] }
  | _ => none }
def bookCondsRow : OpenClaim := { program := "ytbmoimihnndboaagreatdoor", sum := "5cbc92ae386a48c288e8f250ebfe0a381a8e1e82c06e6a5ef45d0f2b87aa8e39", func := "armarium/armariumlaw5.BookConds", spec := "bookConds", inPlace := ["math.archTrunc", "math.Float64bits", "math.Float64frombits", "internal/abi.NoEscape", "internal/bytealg.IndexByteString", "slices.overlaps[armarium/api.Entry]", "slices.overlaps[armarium/api.Memo]"], unfollowed := true, recurses := true, named := ["internal/strconv.uint64pow10", "math/bits.deBruijn32tab", "math/bits.deBruijn64tab", "strconv.ErrSyntax", "strconv.ErrRange"], apart := false, laid := [("math/bits.deBruijn32tab", laid_math_bits_deBruijn32tab), ("math/bits.deBruijn64tab", laid_math_bits_deBruijn64tab), ("internal/strconv.uint64pow10", laid_internal_strconv_uint64pow10), ("strconv.ErrRange", laid_strconv_ErrRange), ("strconv.ErrSyntax", laid_strconv_ErrSyntax)] }
def BookCondsSaid : Prop := bookCondsRow.holds Tryz.pinned (OpenSpec.ofChange bookCondsSpec)

/-- ITS FALSE NEIGHBOUR: 'it returns false'. Refute it at one input. -/
def bookCondsWrong : ChangeSpec := { name := "bookConds", fn := fun _ => fun
  | [d1, d2, d3, d4] => { results := [.lit (.bool false)], args := [d1, d2, d3, d4] }
  | _ => none }
def BookCondsWrongFalsely : Prop := bookCondsRow.holds Tryz.pinned (OpenSpec.ofChange bookCondsWrong)

/-- 'armariumlaw5.BookDelete': WHATEVER THE INPUT: true; the input reads as it did. -/
def bookDeleteSpec : ChangeSpec := { name := "bookDelete", fn := fun _ => fun
  | [d1, d2] => { results := [.lit (.bool true)], args := [d1, d2] }
  | _ => none }
def bookDeleteRow : OpenClaim := { program := "ytbmoimihnndboaagreatdoor", sum := "5cbc92ae386a48c288e8f250ebfe0a381a8e1e82c06e6a5ef45d0f2b87aa8e39", func := "armarium/armariumlaw5.BookDelete", spec := "bookDelete", inPlace := ["math.archTrunc", "math.Float64bits", "math.Float64frombits", "internal/abi.NoEscape", "internal/bytealg.IndexByteString", "slices.overlaps[armarium/api.Entry]", "slices.overlaps[armarium/api.Memo]"], unfollowed := true, recurses := true, named := ["internal/strconv.uint64pow10", "math/bits.deBruijn32tab", "math/bits.deBruijn64tab", "strconv.ErrSyntax", "strconv.ErrRange"], apart := false, laid := [("math/bits.deBruijn32tab", laid_math_bits_deBruijn32tab), ("math/bits.deBruijn64tab", laid_math_bits_deBruijn64tab), ("internal/strconv.uint64pow10", laid_internal_strconv_uint64pow10), ("strconv.ErrRange", laid_strconv_ErrRange), ("strconv.ErrSyntax", laid_strconv_ErrSyntax)] }
def BookDeleteSaid : Prop := bookDeleteRow.holds Tryz.pinned (OpenSpec.ofChange bookDeleteSpec)

/-- ITS FALSE NEIGHBOUR: 'it returns false'. Refute it at one input. -/
def bookDeleteWrong : ChangeSpec := { name := "bookDelete", fn := fun _ => fun
  | [d1, d2] => { results := [.lit (.bool false)], args := [d1, d2] }
  | _ => none }
def BookDeleteWrongFalsely : Prop := bookDeleteRow.holds Tryz.pinned (OpenSpec.ofChange bookDeleteWrong)

/-- 'armariumlaw5.BookLows': WHATEVER THE INPUT: true; the input reads as it did. -/
def bookLowsSpec : ChangeSpec := { name := "bookLows", fn := fun _ => fun
  | [d1, d2] => { results := [.lit (.bool true)], args := [d1, d2] }
  | _ => none }
def bookLowsRow : OpenClaim := { program := "ytbmoimihnndboaagreatdoor", sum := "5cbc92ae386a48c288e8f250ebfe0a381a8e1e82c06e6a5ef45d0f2b87aa8e39", func := "armarium/armariumlaw5.BookLows", spec := "bookLows", inPlace := ["math.archTrunc", "math.Float64bits", "math.Float64frombits", "internal/abi.NoEscape", "internal/bytealg.IndexByteString", "slices.overlaps[armarium/api.Entry]", "slices.overlaps[armarium/api.Memo]"], unfollowed := true, recurses := true, named := ["internal/strconv.uint64pow10", "math/bits.deBruijn32tab", "math/bits.deBruijn64tab", "strconv.ErrSyntax", "strconv.ErrRange"], apart := false, laid := [("math/bits.deBruijn32tab", laid_math_bits_deBruijn32tab), ("math/bits.deBruijn64tab", laid_math_bits_deBruijn64tab), ("internal/strconv.uint64pow10", laid_internal_strconv_uint64pow10), ("strconv.ErrRange", laid_strconv_ErrRange), ("strconv.ErrSyntax", laid_strconv_ErrSyntax)] }
def BookLowsSaid : Prop := bookLowsRow.holds Tryz.pinned (OpenSpec.ofChange bookLowsSpec)

/-- ITS FALSE NEIGHBOUR: 'it returns false'. Refute it at one input. -/
def bookLowsWrong : ChangeSpec := { name := "bookLows", fn := fun _ => fun
  | [d1, d2] => { results := [.lit (.bool false)], args := [d1, d2] }
  | _ => none }
def BookLowsWrongFalsely : Prop := bookLowsRow.holds Tryz.pinned (OpenSpec.ofChange bookLowsWrong)

/-- 'armariumlaw5.BookReads': WHATEVER THE INPUT: true; the input reads as it did. -/
def bookReadsSpec : ChangeSpec := { name := "bookReads", fn := fun _ => fun
  | [d1, d2, d3, d4, d5, d6, d7] => { results := [.lit (.bool true)], args := [d1, d2, d3, d4, d5, d6, d7] }
  | _ => none }
def bookReadsRow : OpenClaim := { program := "ytbmoimihnndboaagreatdoor", sum := "5cbc92ae386a48c288e8f250ebfe0a381a8e1e82c06e6a5ef45d0f2b87aa8e39", func := "armarium/armariumlaw5.BookReads", spec := "bookReads", inPlace := ["math.archTrunc", "math.Float64bits", "math.Float64frombits", "internal/abi.NoEscape", "internal/bytealg.IndexByteString", "slices.overlaps[armarium/api.Entry]", "slices.overlaps[armarium/api.Memo]"], unfollowed := true, recurses := true, named := ["internal/strconv.uint64pow10", "math/bits.deBruijn32tab", "math/bits.deBruijn64tab", "strconv.ErrSyntax", "strconv.ErrRange"], apart := false, laid := [("math/bits.deBruijn32tab", laid_math_bits_deBruijn32tab), ("math/bits.deBruijn64tab", laid_math_bits_deBruijn64tab), ("internal/strconv.uint64pow10", laid_internal_strconv_uint64pow10), ("strconv.ErrRange", laid_strconv_ErrRange), ("strconv.ErrSyntax", laid_strconv_ErrSyntax)] }
def BookReadsSaid : Prop := bookReadsRow.holds Tryz.pinned (OpenSpec.ofChange bookReadsSpec)

/-- ITS FALSE NEIGHBOUR: 'it returns false'. Refute it at one input. -/
def bookReadsWrong : ChangeSpec := { name := "bookReads", fn := fun _ => fun
  | [d1, d2, d3, d4, d5, d6, d7] => { results := [.lit (.bool false)], args := [d1, d2, d3, d4, d5, d6, d7] }
  | _ => none }
def BookReadsWrongFalsely : Prop := bookReadsRow.holds Tryz.pinned (OpenSpec.ofChange bookReadsWrong)

/- THE SECOND FORM. 'bulk': how many values and letters a reading holds, each counted each time it is reached (what is shared counts as often as it is met; a slice's spare places count too). A statement '..UptoSaid' is the law's where the arguments, and the package variables that the reading takes, are together of bulk at most 1048576: NARROWER than '..Said'. Prove '..Said' where nothing that the law and all that it calls make is longer than what came in: it says more and counts as full. Else prove '..UptoSaid'. A law counts once. -/
mutual
def uptoBulk {H : Type} : DataW H → Nat
  | .lit (.string bytes) => bytes.length + 1
  | .lit _ => 1
  | .nil => 1
  | .ptr d => uptoBulk d + 1
  | .slice elems spare => uptoBulkAll elems + uptoBulkAll spare + 1
  | .agg parts => uptoBulkAll parts + 1
  | .iface _ d => uptoBulk d + 1
  | .map entries => uptoBulkEntries entries + 1
  | .held _ => 1
def uptoBulkAll {H : Type} : List (DataW H) → Nat
  | [] => 0
  | d :: r => uptoBulk d + uptoBulkAll r
def uptoBulkEntries {H : Type} : List (Lit × DataW H) → Nat
  | [] => 0
  | x :: r => uptoBulkEntry x + uptoBulkEntries r
def uptoBulkEntry {H : Type} : Lit × DataW H → Nat
  | (.string bytes, d) => bytes.length + uptoBulk d + 1
  | (_, d) => uptoBulk d + 1
 end
def uptoSmall : (H : Type) → List (DataW H) → Bool := fun _ ds => decide (uptoBulkAll ds ≤ 1048576)
def OpenSpec.upto (s : _root_.Go.ChangeSpec) : _root_.Go.OpenSpec := { _root_.Go.OpenSpec.ofChange s with cond := some uptoSmall }

/-- 'armariumlaw5.DeedAll', WHERE WHAT IT READS IS OF BULK AT MOST 1048576: true; the input reads as it did. -/
def deedAllUptoRow : OpenClaim := { program := "ytbmoimihnndboaagreatdoor", sum := "5cbc92ae386a48c288e8f250ebfe0a381a8e1e82c06e6a5ef45d0f2b87aa8e39", func := "armarium/armariumlaw5.DeedAll", spec := "deedAll", inPlace := ["math.archTrunc", "math.Float64bits", "math.Float64frombits", "internal/abi.NoEscape", "internal/bytealg.IndexByteString", "slices.overlaps[armarium/api.Entry]", "slices.overlaps[armarium/api.Memo]"], unfollowed := true, recurses := true, named := ["internal/strconv.uint64pow10", "math/bits.deBruijn32tab", "math/bits.deBruijn64tab", "strconv.ErrSyntax", "strconv.ErrRange"], apart := false, laid := [("math/bits.deBruijn32tab", laid_math_bits_deBruijn32tab), ("math/bits.deBruijn64tab", laid_math_bits_deBruijn64tab), ("internal/strconv.uint64pow10", laid_internal_strconv_uint64pow10), ("strconv.ErrRange", laid_strconv_ErrRange), ("strconv.ErrSyntax", laid_strconv_ErrSyntax)], narrowed := true }
def DeedAllUptoSaid : Prop := deedAllUptoRow.holds Tryz.pinned (OpenSpec.upto deedAllSpec)

/-- 'armariumlaw5.DeedAny', WHERE WHAT IT READS IS OF BULK AT MOST 1048576: true; the input reads as it did. -/
def deedAnyUptoRow : OpenClaim := { program := "ytbmoimihnndboaagreatdoor", sum := "5cbc92ae386a48c288e8f250ebfe0a381a8e1e82c06e6a5ef45d0f2b87aa8e39", func := "armarium/armariumlaw5.DeedAny", spec := "deedAny", inPlace := ["math.archTrunc", "math.Float64bits", "math.Float64frombits", "internal/abi.NoEscape", "internal/bytealg.IndexByteString", "slices.overlaps[armarium/api.Entry]", "slices.overlaps[armarium/api.Memo]"], unfollowed := true, recurses := true, named := ["internal/strconv.uint64pow10", "math/bits.deBruijn32tab", "math/bits.deBruijn64tab", "strconv.ErrSyntax", "strconv.ErrRange"], apart := false, laid := [("math/bits.deBruijn32tab", laid_math_bits_deBruijn32tab), ("math/bits.deBruijn64tab", laid_math_bits_deBruijn64tab), ("internal/strconv.uint64pow10", laid_internal_strconv_uint64pow10), ("strconv.ErrRange", laid_strconv_ErrRange), ("strconv.ErrSyntax", laid_strconv_ErrSyntax)], narrowed := true }
def DeedAnyUptoSaid : Prop := deedAnyUptoRow.holds Tryz.pinned (OpenSpec.upto deedAnySpec)

/-- 'armariumlaw5.DeedTurn', WHERE WHAT IT READS IS OF BULK AT MOST 1048576: true; the input reads as it did. -/
def deedTurnUptoRow : OpenClaim := { program := "ytbmoimihnndboaagreatdoor", sum := "5cbc92ae386a48c288e8f250ebfe0a381a8e1e82c06e6a5ef45d0f2b87aa8e39", func := "armarium/armariumlaw5.DeedTurn", spec := "deedTurn", inPlace := ["math.archTrunc", "math.Float64bits", "math.Float64frombits", "internal/abi.NoEscape", "internal/bytealg.IndexByteString", "slices.overlaps[armarium/api.Entry]", "slices.overlaps[armarium/api.Memo]"], unfollowed := true, recurses := true, named := ["internal/strconv.uint64pow10", "math/bits.deBruijn32tab", "math/bits.deBruijn64tab", "strconv.ErrSyntax", "strconv.ErrRange"], apart := false, laid := [("math/bits.deBruijn32tab", laid_math_bits_deBruijn32tab), ("math/bits.deBruijn64tab", laid_math_bits_deBruijn64tab), ("internal/strconv.uint64pow10", laid_internal_strconv_uint64pow10), ("strconv.ErrRange", laid_strconv_ErrRange), ("strconv.ErrSyntax", laid_strconv_ErrSyntax)], narrowed := true }
def DeedTurnUptoSaid : Prop := deedTurnUptoRow.holds Tryz.pinned (OpenSpec.upto deedTurnSpec)

/-- 'armariumlaw5.TomeAll', WHERE WHAT IT READS IS OF BULK AT MOST 1048576: true; the input reads as it did. -/
def tomeAllUptoRow : OpenClaim := { program := "ytbmoimihnndboaagreatdoor", sum := "5cbc92ae386a48c288e8f250ebfe0a381a8e1e82c06e6a5ef45d0f2b87aa8e39", func := "armarium/armariumlaw5.TomeAll", spec := "tomeAll", inPlace := ["math.archTrunc", "math.Float64bits", "math.Float64frombits", "internal/abi.NoEscape", "internal/bytealg.IndexByteString", "slices.overlaps[armarium/api.Entry]", "slices.overlaps[armarium/api.Memo]"], unfollowed := true, recurses := true, named := ["internal/strconv.uint64pow10", "math/bits.deBruijn32tab", "math/bits.deBruijn64tab", "strconv.ErrSyntax", "strconv.ErrRange"], apart := false, laid := [("math/bits.deBruijn32tab", laid_math_bits_deBruijn32tab), ("math/bits.deBruijn64tab", laid_math_bits_deBruijn64tab), ("internal/strconv.uint64pow10", laid_internal_strconv_uint64pow10), ("strconv.ErrRange", laid_strconv_ErrRange), ("strconv.ErrSyntax", laid_strconv_ErrSyntax)], narrowed := true }
def TomeAllUptoSaid : Prop := tomeAllUptoRow.holds Tryz.pinned (OpenSpec.upto tomeAllSpec)

/-- 'armariumlaw5.BookMay', WHERE WHAT IT READS IS OF BULK AT MOST 1048576: true; the input reads as it did. -/
def bookMayUptoRow : OpenClaim := { program := "ytbmoimihnndboaagreatdoor", sum := "5cbc92ae386a48c288e8f250ebfe0a381a8e1e82c06e6a5ef45d0f2b87aa8e39", func := "armarium/armariumlaw5.BookMay", spec := "bookMay", inPlace := ["math.archTrunc", "math.Float64bits", "math.Float64frombits", "internal/abi.NoEscape", "internal/bytealg.IndexByteString", "slices.overlaps[armarium/api.Entry]", "slices.overlaps[armarium/api.Memo]"], unfollowed := true, recurses := true, named := ["internal/strconv.uint64pow10", "math/bits.deBruijn32tab", "math/bits.deBruijn64tab", "strconv.ErrSyntax", "strconv.ErrRange"], apart := false, laid := [("math/bits.deBruijn32tab", laid_math_bits_deBruijn32tab), ("math/bits.deBruijn64tab", laid_math_bits_deBruijn64tab), ("internal/strconv.uint64pow10", laid_internal_strconv_uint64pow10), ("strconv.ErrRange", laid_strconv_ErrRange), ("strconv.ErrSyntax", laid_strconv_ErrSyntax)], narrowed := true }
def BookMayUptoSaid : Prop := bookMayUptoRow.holds Tryz.pinned (OpenSpec.upto bookMaySpec)

/-- 'armariumlaw5.BookTurn', WHERE WHAT IT READS IS OF BULK AT MOST 1048576: true; the input reads as it did. -/
def bookTurnUptoRow : OpenClaim := { program := "ytbmoimihnndboaagreatdoor", sum := "5cbc92ae386a48c288e8f250ebfe0a381a8e1e82c06e6a5ef45d0f2b87aa8e39", func := "armarium/armariumlaw5.BookTurn", spec := "bookTurn", inPlace := ["math.archTrunc", "math.Float64bits", "math.Float64frombits", "internal/abi.NoEscape", "internal/bytealg.IndexByteString", "slices.overlaps[armarium/api.Entry]", "slices.overlaps[armarium/api.Memo]"], unfollowed := true, recurses := true, named := ["internal/strconv.uint64pow10", "math/bits.deBruijn32tab", "math/bits.deBruijn64tab", "strconv.ErrSyntax", "strconv.ErrRange"], apart := false, laid := [("math/bits.deBruijn32tab", laid_math_bits_deBruijn32tab), ("math/bits.deBruijn64tab", laid_math_bits_deBruijn64tab), ("internal/strconv.uint64pow10", laid_internal_strconv_uint64pow10), ("strconv.ErrRange", laid_strconv_ErrRange), ("strconv.ErrSyntax", laid_strconv_ErrSyntax)], narrowed := true }
def BookTurnUptoSaid : Prop := bookTurnUptoRow.holds Tryz.pinned (OpenSpec.upto bookTurnSpec)

/-- 'armariumlaw5.BookAll', WHERE WHAT IT READS IS OF BULK AT MOST 1048576: true; the input reads as it did. -/
def bookAllUptoRow : OpenClaim := { program := "ytbmoimihnndboaagreatdoor", sum := "5cbc92ae386a48c288e8f250ebfe0a381a8e1e82c06e6a5ef45d0f2b87aa8e39", func := "armarium/armariumlaw5.BookAll", spec := "bookAll", inPlace := ["math.archTrunc", "math.Float64bits", "math.Float64frombits", "internal/abi.NoEscape", "internal/bytealg.IndexByteString", "slices.overlaps[armarium/api.Entry]", "slices.overlaps[armarium/api.Memo]"], unfollowed := true, recurses := true, named := ["internal/strconv.uint64pow10", "math/bits.deBruijn32tab", "math/bits.deBruijn64tab", "strconv.ErrSyntax", "strconv.ErrRange"], apart := false, laid := [("math/bits.deBruijn32tab", laid_math_bits_deBruijn32tab), ("math/bits.deBruijn64tab", laid_math_bits_deBruijn64tab), ("internal/strconv.uint64pow10", laid_internal_strconv_uint64pow10), ("strconv.ErrRange", laid_strconv_ErrRange), ("strconv.ErrSyntax", laid_strconv_ErrSyntax)], narrowed := true }
def BookAllUptoSaid : Prop := bookAllUptoRow.holds Tryz.pinned (OpenSpec.upto bookAllSpec)

/-- 'armariumlaw5.BookAny', WHERE WHAT IT READS IS OF BULK AT MOST 1048576: true; the input reads as it did. -/
def bookAnyUptoRow : OpenClaim := { program := "ytbmoimihnndboaagreatdoor", sum := "5cbc92ae386a48c288e8f250ebfe0a381a8e1e82c06e6a5ef45d0f2b87aa8e39", func := "armarium/armariumlaw5.BookAny", spec := "bookAny", inPlace := ["math.archTrunc", "math.Float64bits", "math.Float64frombits", "internal/abi.NoEscape", "internal/bytealg.IndexByteString", "slices.overlaps[armarium/api.Entry]", "slices.overlaps[armarium/api.Memo]"], unfollowed := true, recurses := true, named := ["internal/strconv.uint64pow10", "math/bits.deBruijn32tab", "math/bits.deBruijn64tab", "strconv.ErrSyntax", "strconv.ErrRange"], apart := false, laid := [("math/bits.deBruijn32tab", laid_math_bits_deBruijn32tab), ("math/bits.deBruijn64tab", laid_math_bits_deBruijn64tab), ("internal/strconv.uint64pow10", laid_internal_strconv_uint64pow10), ("strconv.ErrRange", laid_strconv_ErrRange), ("strconv.ErrSyntax", laid_strconv_ErrSyntax)], narrowed := true }
def BookAnyUptoSaid : Prop := bookAnyUptoRow.holds Tryz.pinned (OpenSpec.upto bookAnySpec)

/-- 'armariumlaw5.BookTwice', WHERE WHAT IT READS IS OF BULK AT MOST 1048576: true; the input reads as it did. -/
def bookTwiceUptoRow : OpenClaim := { program := "ytbmoimihnndboaagreatdoor", sum := "5cbc92ae386a48c288e8f250ebfe0a381a8e1e82c06e6a5ef45d0f2b87aa8e39", func := "armarium/armariumlaw5.BookTwice", spec := "bookTwice", inPlace := ["math.archTrunc", "math.Float64bits", "math.Float64frombits", "internal/abi.NoEscape", "internal/bytealg.IndexByteString", "slices.overlaps[armarium/api.Entry]", "slices.overlaps[armarium/api.Memo]"], unfollowed := true, recurses := true, named := ["internal/strconv.uint64pow10", "math/bits.deBruijn32tab", "math/bits.deBruijn64tab", "strconv.ErrSyntax", "strconv.ErrRange"], apart := false, laid := [("math/bits.deBruijn32tab", laid_math_bits_deBruijn32tab), ("math/bits.deBruijn64tab", laid_math_bits_deBruijn64tab), ("internal/strconv.uint64pow10", laid_internal_strconv_uint64pow10), ("strconv.ErrRange", laid_strconv_ErrRange), ("strconv.ErrSyntax", laid_strconv_ErrSyntax)], narrowed := true }
def BookTwiceUptoSaid : Prop := bookTwiceUptoRow.holds Tryz.pinned (OpenSpec.upto bookTwiceSpec)

/-- 'armariumlaw5.BookVersions', WHERE WHAT IT READS IS OF BULK AT MOST 1048576: true; the input reads as it did. -/
def bookVersionsUptoRow : OpenClaim := { program := "ytbmoimihnndboaagreatdoor", sum := "5cbc92ae386a48c288e8f250ebfe0a381a8e1e82c06e6a5ef45d0f2b87aa8e39", func := "armarium/armariumlaw5.BookVersions", spec := "bookVersions", inPlace := ["math.archTrunc", "math.Float64bits", "math.Float64frombits", "internal/abi.NoEscape", "internal/bytealg.IndexByteString", "slices.overlaps[armarium/api.Entry]", "slices.overlaps[armarium/api.Memo]"], unfollowed := true, recurses := true, named := ["internal/strconv.uint64pow10", "math/bits.deBruijn32tab", "math/bits.deBruijn64tab", "strconv.ErrSyntax", "strconv.ErrRange"], apart := false, laid := [("math/bits.deBruijn32tab", laid_math_bits_deBruijn32tab), ("math/bits.deBruijn64tab", laid_math_bits_deBruijn64tab), ("internal/strconv.uint64pow10", laid_internal_strconv_uint64pow10), ("strconv.ErrRange", laid_strconv_ErrRange), ("strconv.ErrSyntax", laid_strconv_ErrSyntax)], narrowed := true }
def BookVersionsUptoSaid : Prop := bookVersionsUptoRow.holds Tryz.pinned (OpenSpec.upto bookVersionsSpec)

/-- 'armariumlaw5.BookFull', WHERE WHAT IT READS IS OF BULK AT MOST 1048576: true; the input reads as it did. -/
def bookFullUptoRow : OpenClaim := { program := "ytbmoimihnndboaagreatdoor", sum := "5cbc92ae386a48c288e8f250ebfe0a381a8e1e82c06e6a5ef45d0f2b87aa8e39", func := "armarium/armariumlaw5.BookFull", spec := "bookFull", inPlace := ["math.archTrunc", "math.Float64bits", "math.Float64frombits", "internal/abi.NoEscape", "internal/bytealg.IndexByteString", "slices.overlaps[armarium/api.Entry]", "slices.overlaps[armarium/api.Memo]"], unfollowed := true, recurses := true, named := ["internal/strconv.uint64pow10", "math/bits.deBruijn32tab", "math/bits.deBruijn64tab", "strconv.ErrSyntax", "strconv.ErrRange"], apart := false, laid := [("math/bits.deBruijn32tab", laid_math_bits_deBruijn32tab), ("math/bits.deBruijn64tab", laid_math_bits_deBruijn64tab), ("internal/strconv.uint64pow10", laid_internal_strconv_uint64pow10), ("strconv.ErrRange", laid_strconv_ErrRange), ("strconv.ErrSyntax", laid_strconv_ErrSyntax)], narrowed := true }
def BookFullUptoSaid : Prop := bookFullUptoRow.holds Tryz.pinned (OpenSpec.upto bookFullSpec)

/-- 'armariumlaw5.DeedKeys', WHERE WHAT IT READS IS OF BULK AT MOST 1048576: true; the input reads as it did. -/
def deedKeysUptoRow : OpenClaim := { program := "ytbmoimihnndboaagreatdoor", sum := "5cbc92ae386a48c288e8f250ebfe0a381a8e1e82c06e6a5ef45d0f2b87aa8e39", func := "armarium/armariumlaw5.DeedKeys", spec := "deedKeys", inPlace := ["math.archTrunc", "math.Float64bits", "math.Float64frombits", "internal/abi.NoEscape", "internal/bytealg.IndexByteString", "slices.overlaps[armarium/api.Entry]", "slices.overlaps[armarium/api.Memo]"], unfollowed := true, recurses := true, named := ["internal/strconv.uint64pow10", "math/bits.deBruijn32tab", "math/bits.deBruijn64tab", "strconv.ErrSyntax", "strconv.ErrRange"], apart := false, laid := [("math/bits.deBruijn32tab", laid_math_bits_deBruijn32tab), ("math/bits.deBruijn64tab", laid_math_bits_deBruijn64tab), ("internal/strconv.uint64pow10", laid_internal_strconv_uint64pow10), ("strconv.ErrRange", laid_strconv_ErrRange), ("strconv.ErrSyntax", laid_strconv_ErrSyntax)], narrowed := true }
def DeedKeysUptoSaid : Prop := deedKeysUptoRow.holds Tryz.pinned (OpenSpec.upto deedKeysSpec)

/-- 'armariumlaw5.DeedHomes', WHERE WHAT IT READS IS OF BULK AT MOST 1048576: true; the input reads as it did. -/
def deedHomesUptoRow : OpenClaim := { program := "ytbmoimihnndboaagreatdoor", sum := "5cbc92ae386a48c288e8f250ebfe0a381a8e1e82c06e6a5ef45d0f2b87aa8e39", func := "armarium/armariumlaw5.DeedHomes", spec := "deedHomes", inPlace := ["math.archTrunc", "math.Float64bits", "math.Float64frombits", "internal/abi.NoEscape", "internal/bytealg.IndexByteString", "slices.overlaps[armarium/api.Entry]", "slices.overlaps[armarium/api.Memo]"], unfollowed := true, recurses := true, named := ["internal/strconv.uint64pow10", "math/bits.deBruijn32tab", "math/bits.deBruijn64tab", "strconv.ErrSyntax", "strconv.ErrRange"], apart := false, laid := [("math/bits.deBruijn32tab", laid_math_bits_deBruijn32tab), ("math/bits.deBruijn64tab", laid_math_bits_deBruijn64tab), ("internal/strconv.uint64pow10", laid_internal_strconv_uint64pow10), ("strconv.ErrRange", laid_strconv_ErrRange), ("strconv.ErrSyntax", laid_strconv_ErrSyntax)], narrowed := true }
def DeedHomesUptoSaid : Prop := deedHomesUptoRow.holds Tryz.pinned (OpenSpec.upto deedHomesSpec)

/-- 'armariumlaw5.TomeOwn', WHERE WHAT IT READS IS OF BULK AT MOST 1048576: true; the input reads as it did. -/
def tomeOwnUptoRow : OpenClaim := { program := "ytbmoimihnndboaagreatdoor", sum := "5cbc92ae386a48c288e8f250ebfe0a381a8e1e82c06e6a5ef45d0f2b87aa8e39", func := "armarium/armariumlaw5.TomeOwn", spec := "tomeOwn", inPlace := ["math.archTrunc", "math.Float64bits", "math.Float64frombits", "internal/abi.NoEscape", "internal/bytealg.IndexByteString", "slices.overlaps[armarium/api.Entry]", "slices.overlaps[armarium/api.Memo]"], unfollowed := true, recurses := true, named := ["internal/strconv.uint64pow10", "math/bits.deBruijn32tab", "math/bits.deBruijn64tab", "strconv.ErrSyntax", "strconv.ErrRange"], apart := false, laid := [("math/bits.deBruijn32tab", laid_math_bits_deBruijn32tab), ("math/bits.deBruijn64tab", laid_math_bits_deBruijn64tab), ("internal/strconv.uint64pow10", laid_internal_strconv_uint64pow10), ("strconv.ErrRange", laid_strconv_ErrRange), ("strconv.ErrSyntax", laid_strconv_ErrSyntax)], narrowed := true }
def TomeOwnUptoSaid : Prop := tomeOwnUptoRow.holds Tryz.pinned (OpenSpec.upto tomeOwnSpec)

/-- 'armariumlaw5.TomeMany', WHERE WHAT IT READS IS OF BULK AT MOST 1048576: true; the input reads as it did. -/
def tomeManyUptoRow : OpenClaim := { program := "ytbmoimihnndboaagreatdoor", sum := "5cbc92ae386a48c288e8f250ebfe0a381a8e1e82c06e6a5ef45d0f2b87aa8e39", func := "armarium/armariumlaw5.TomeMany", spec := "tomeMany", inPlace := ["math.archTrunc", "math.Float64bits", "math.Float64frombits", "internal/abi.NoEscape", "internal/bytealg.IndexByteString", "slices.overlaps[armarium/api.Entry]", "slices.overlaps[armarium/api.Memo]"], unfollowed := true, recurses := true, named := ["internal/strconv.uint64pow10", "math/bits.deBruijn32tab", "math/bits.deBruijn64tab", "strconv.ErrSyntax", "strconv.ErrRange"], apart := false, laid := [("math/bits.deBruijn32tab", laid_math_bits_deBruijn32tab), ("math/bits.deBruijn64tab", laid_math_bits_deBruijn64tab), ("internal/strconv.uint64pow10", laid_internal_strconv_uint64pow10), ("strconv.ErrRange", laid_strconv_ErrRange), ("strconv.ErrSyntax", laid_strconv_ErrSyntax)], narrowed := true }
def TomeManyUptoSaid : Prop := tomeManyUptoRow.holds Tryz.pinned (OpenSpec.upto tomeManySpec)

/-- 'armariumlaw5.BookKeys', WHERE WHAT IT READS IS OF BULK AT MOST 1048576: true; the input reads as it did. -/
def bookKeysUptoRow : OpenClaim := { program := "ytbmoimihnndboaagreatdoor", sum := "5cbc92ae386a48c288e8f250ebfe0a381a8e1e82c06e6a5ef45d0f2b87aa8e39", func := "armarium/armariumlaw5.BookKeys", spec := "bookKeys", inPlace := ["math.archTrunc", "math.Float64bits", "math.Float64frombits", "internal/abi.NoEscape", "internal/bytealg.IndexByteString", "slices.overlaps[armarium/api.Entry]", "slices.overlaps[armarium/api.Memo]"], unfollowed := true, recurses := true, named := ["internal/strconv.uint64pow10", "math/bits.deBruijn32tab", "math/bits.deBruijn64tab", "strconv.ErrSyntax", "strconv.ErrRange"], apart := false, laid := [("math/bits.deBruijn32tab", laid_math_bits_deBruijn32tab), ("math/bits.deBruijn64tab", laid_math_bits_deBruijn64tab), ("internal/strconv.uint64pow10", laid_internal_strconv_uint64pow10), ("strconv.ErrRange", laid_strconv_ErrRange), ("strconv.ErrSyntax", laid_strconv_ErrSyntax)], narrowed := true }
def BookKeysUptoSaid : Prop := bookKeysUptoRow.holds Tryz.pinned (OpenSpec.upto bookKeysSpec)

/-- 'armariumlaw5.BookConds', WHERE WHAT IT READS IS OF BULK AT MOST 1048576: true; the input reads as it did. -/
def bookCondsUptoRow : OpenClaim := { program := "ytbmoimihnndboaagreatdoor", sum := "5cbc92ae386a48c288e8f250ebfe0a381a8e1e82c06e6a5ef45d0f2b87aa8e39", func := "armarium/armariumlaw5.BookConds", spec := "bookConds", inPlace := ["math.archTrunc", "math.Float64bits", "math.Float64frombits", "internal/abi.NoEscape", "internal/bytealg.IndexByteString", "slices.overlaps[armarium/api.Entry]", "slices.overlaps[armarium/api.Memo]"], unfollowed := true, recurses := true, named := ["internal/strconv.uint64pow10", "math/bits.deBruijn32tab", "math/bits.deBruijn64tab", "strconv.ErrSyntax", "strconv.ErrRange"], apart := false, laid := [("math/bits.deBruijn32tab", laid_math_bits_deBruijn32tab), ("math/bits.deBruijn64tab", laid_math_bits_deBruijn64tab), ("internal/strconv.uint64pow10", laid_internal_strconv_uint64pow10), ("strconv.ErrRange", laid_strconv_ErrRange), ("strconv.ErrSyntax", laid_strconv_ErrSyntax)], narrowed := true }
def BookCondsUptoSaid : Prop := bookCondsUptoRow.holds Tryz.pinned (OpenSpec.upto bookCondsSpec)

/-- 'armariumlaw5.BookDelete', WHERE WHAT IT READS IS OF BULK AT MOST 1048576: true; the input reads as it did. -/
def bookDeleteUptoRow : OpenClaim := { program := "ytbmoimihnndboaagreatdoor", sum := "5cbc92ae386a48c288e8f250ebfe0a381a8e1e82c06e6a5ef45d0f2b87aa8e39", func := "armarium/armariumlaw5.BookDelete", spec := "bookDelete", inPlace := ["math.archTrunc", "math.Float64bits", "math.Float64frombits", "internal/abi.NoEscape", "internal/bytealg.IndexByteString", "slices.overlaps[armarium/api.Entry]", "slices.overlaps[armarium/api.Memo]"], unfollowed := true, recurses := true, named := ["internal/strconv.uint64pow10", "math/bits.deBruijn32tab", "math/bits.deBruijn64tab", "strconv.ErrSyntax", "strconv.ErrRange"], apart := false, laid := [("math/bits.deBruijn32tab", laid_math_bits_deBruijn32tab), ("math/bits.deBruijn64tab", laid_math_bits_deBruijn64tab), ("internal/strconv.uint64pow10", laid_internal_strconv_uint64pow10), ("strconv.ErrRange", laid_strconv_ErrRange), ("strconv.ErrSyntax", laid_strconv_ErrSyntax)], narrowed := true }
def BookDeleteUptoSaid : Prop := bookDeleteUptoRow.holds Tryz.pinned (OpenSpec.upto bookDeleteSpec)

/-- 'armariumlaw5.BookLows', WHERE WHAT IT READS IS OF BULK AT MOST 1048576: true; the input reads as it did. -/
def bookLowsUptoRow : OpenClaim := { program := "ytbmoimihnndboaagreatdoor", sum := "5cbc92ae386a48c288e8f250ebfe0a381a8e1e82c06e6a5ef45d0f2b87aa8e39", func := "armarium/armariumlaw5.BookLows", spec := "bookLows", inPlace := ["math.archTrunc", "math.Float64bits", "math.Float64frombits", "internal/abi.NoEscape", "internal/bytealg.IndexByteString", "slices.overlaps[armarium/api.Entry]", "slices.overlaps[armarium/api.Memo]"], unfollowed := true, recurses := true, named := ["internal/strconv.uint64pow10", "math/bits.deBruijn32tab", "math/bits.deBruijn64tab", "strconv.ErrSyntax", "strconv.ErrRange"], apart := false, laid := [("math/bits.deBruijn32tab", laid_math_bits_deBruijn32tab), ("math/bits.deBruijn64tab", laid_math_bits_deBruijn64tab), ("internal/strconv.uint64pow10", laid_internal_strconv_uint64pow10), ("strconv.ErrRange", laid_strconv_ErrRange), ("strconv.ErrSyntax", laid_strconv_ErrSyntax)], narrowed := true }
def BookLowsUptoSaid : Prop := bookLowsUptoRow.holds Tryz.pinned (OpenSpec.upto bookLowsSpec)

/-- 'armariumlaw5.BookReads', WHERE WHAT IT READS IS OF BULK AT MOST 1048576: true; the input reads as it did. -/
def bookReadsUptoRow : OpenClaim := { program := "ytbmoimihnndboaagreatdoor", sum := "5cbc92ae386a48c288e8f250ebfe0a381a8e1e82c06e6a5ef45d0f2b87aa8e39", func := "armarium/armariumlaw5.BookReads", spec := "bookReads", inPlace := ["math.archTrunc", "math.Float64bits", "math.Float64frombits", "internal/abi.NoEscape", "internal/bytealg.IndexByteString", "slices.overlaps[armarium/api.Entry]", "slices.overlaps[armarium/api.Memo]"], unfollowed := true, recurses := true, named := ["internal/strconv.uint64pow10", "math/bits.deBruijn32tab", "math/bits.deBruijn64tab", "strconv.ErrSyntax", "strconv.ErrRange"], apart := false, laid := [("math/bits.deBruijn32tab", laid_math_bits_deBruijn32tab), ("math/bits.deBruijn64tab", laid_math_bits_deBruijn64tab), ("internal/strconv.uint64pow10", laid_internal_strconv_uint64pow10), ("strconv.ErrRange", laid_strconv_ErrRange), ("strconv.ErrSyntax", laid_strconv_ErrSyntax)], narrowed := true }
def BookReadsUptoSaid : Prop := bookReadsUptoRow.holds Tryz.pinned (OpenSpec.upto bookReadsSpec)

end Rows
end Go.Proofs.YtbmoimihnndboaaGreatDoor
