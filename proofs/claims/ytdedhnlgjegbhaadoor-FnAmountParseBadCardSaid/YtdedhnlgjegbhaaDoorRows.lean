/-
  NARROWER THAN 'FOR EVERY INPUT', by the rows' own cells (each row's printed sentence says how): FnAmountText: laid · FnAmountParse: laid · FnAmountParseBad: laid · FnExactClockText: laid · FnExactAmountText: laid · FnExactClockParse: laid · FnClockOrder: laid · FnAmountTextBad: laid · FnClock: laid · FnClockParse: laid · FnExactAmountParse: laid.
  DERIVED. THE GIVEN ROWS OF THIS SEAT. 11 by the template 'for every input the law returns true; each argument reads behind the call as it read before'; 0 by the template 'total and deterministic' (their statements: YtdedhnlgjegbhaaDoorTotals.lean).
  GIVEN WITH THE SEED: the statements are not yours to turn. If you find one false, say at which input.
  Laid BY PROGRAM, IN A SANDBOX (cutbox-rows.mjs): the forced cells as the released guide's own fill.sh prints them over the translation 9cf87d1ce88d3fc3… (all of the seat's roots in one cut). By AI agents, Wed Nov 11 2026. No macro, syntax, notation, axiom, sorry.
-/
import Derived.Test.YtdedhnlgjegbhaaDoorChecked
import GoSem.Claim
import GoSem.ClaimJoined
import GoSem.ClaimMapViews
import Derived.JoinedTies
import Derived.KernelRfl
namespace Go.Proofs.YtdedhnlgjegbhaaDoor
/- THE CELL 'sum', in the pinned program and in every row, IS THE sha256 OF THE DUMP (.gsa) THAT YtdedhnlgjegbhaaDoorProg.lean LOADS. Nothing in Lean hashes anything: it is a label: what it is worth is what the hold of that sum in a sandbox is worth. -/
noncomputable def Tryd.pinned : Pinned := { name := "ytdedhnlgjegbhaadoor", sum := "9cf87d1ce88d3fc3cdccc7c81f3fbef4e1b2f0e235d4b7e1a08cde0fcc9b76c9", checked := Tryd.checked }
namespace Rows
def none {H : Type} : Left H := { results := [], args := [] }

/- WHAT THE LISTED PACKAGE-LEVEL VARIABLES READ AS WHEN THE CALL BEGINS. Each datum BY PROGRAM (the guide's laid-datum.mjs) off the statement by which the dump's own 'gosem.cut.vars' lays the variable. In a bare row this is a premise. The card (YtdedhnlgjegbhaaDoorCards.lean) ties it to the program's text. -/
def laid_math_bits_deBruijn32tab {H : Type} : DataW H := .agg [.lit (.int .u8 0), .lit (.int .u8 1), .lit (.int .u8 28), .lit (.int .u8 2), .lit (.int .u8 29), .lit (.int .u8 14), .lit (.int .u8 24), .lit (.int .u8 3), .lit (.int .u8 30), .lit (.int .u8 22), .lit (.int .u8 20), .lit (.int .u8 15), .lit (.int .u8 25), .lit (.int .u8 17), .lit (.int .u8 4), .lit (.int .u8 8), .lit (.int .u8 31), .lit (.int .u8 27), .lit (.int .u8 13), .lit (.int .u8 23), .lit (.int .u8 21), .lit (.int .u8 19), .lit (.int .u8 16), .lit (.int .u8 7), .lit (.int .u8 26), .lit (.int .u8 12), .lit (.int .u8 18), .lit (.int .u8 6), .lit (.int .u8 11), .lit (.int .u8 5), .lit (.int .u8 10), .lit (.int .u8 9)]
def laid_math_bits_deBruijn64tab {H : Type} : DataW H := .agg [.lit (.int .u8 0), .lit (.int .u8 1), .lit (.int .u8 56), .lit (.int .u8 2), .lit (.int .u8 57), .lit (.int .u8 49), .lit (.int .u8 28), .lit (.int .u8 3), .lit (.int .u8 61), .lit (.int .u8 58), .lit (.int .u8 42), .lit (.int .u8 50), .lit (.int .u8 38), .lit (.int .u8 29), .lit (.int .u8 17), .lit (.int .u8 4), .lit (.int .u8 62), .lit (.int .u8 47), .lit (.int .u8 59), .lit (.int .u8 36), .lit (.int .u8 45), .lit (.int .u8 43), .lit (.int .u8 51), .lit (.int .u8 22), .lit (.int .u8 53), .lit (.int .u8 39), .lit (.int .u8 33), .lit (.int .u8 30), .lit (.int .u8 24), .lit (.int .u8 18), .lit (.int .u8 12), .lit (.int .u8 5), .lit (.int .u8 63), .lit (.int .u8 55), .lit (.int .u8 48), .lit (.int .u8 27), .lit (.int .u8 60), .lit (.int .u8 41), .lit (.int .u8 37), .lit (.int .u8 16), .lit (.int .u8 46), .lit (.int .u8 35), .lit (.int .u8 44), .lit (.int .u8 21), .lit (.int .u8 52), .lit (.int .u8 32), .lit (.int .u8 23), .lit (.int .u8 11), .lit (.int .u8 54), .lit (.int .u8 26), .lit (.int .u8 40), .lit (.int .u8 15), .lit (.int .u8 34), .lit (.int .u8 20), .lit (.int .u8 31), .lit (.int .u8 10), .lit (.int .u8 25), .lit (.int .u8 14), .lit (.int .u8 19), .lit (.int .u8 9), .lit (.int .u8 13), .lit (.int .u8 8), .lit (.int .u8 7), .lit (.int .u8 6)]
def laid_internal_strconv_uint64pow10 {H : Type} : DataW H := .agg [.lit (.int .u64 1), .lit (.int .u64 10), .lit (.int .u64 100), .lit (.int .u64 1000), .lit (.int .u64 10000), .lit (.int .u64 100000), .lit (.int .u64 1000000), .lit (.int .u64 10000000), .lit (.int .u64 100000000), .lit (.int .u64 1000000000), .lit (.int .u64 10000000000), .lit (.int .u64 100000000000), .lit (.int .u64 1000000000000), .lit (.int .u64 10000000000000), .lit (.int .u64 100000000000000), .lit (.int .u64 1000000000000000), .lit (.int .u64 10000000000000000), .lit (.int .u64 100000000000000000), .lit (.int .u64 1000000000000000000), .lit (.int .u64 10000000000000000000)]
def laid_strconv_ErrRange {H : Type} : DataW H := .iface "*errors.errorString" (.ptr (.agg [.lit (.string [118, 97, 108, 117, 101, 32, 111, 117, 116, 32, 111, 102, 32, 114, 97, 110, 103, 101])]))
def laid_strconv_ErrSyntax {H : Type} : DataW H := .iface "*errors.errorString" (.ptr (.agg [.lit (.string [105, 110, 118, 97, 108, 105, 100, 32, 115, 121, 110, 116, 97, 120])]))

/-- 'laws.FnAmountText': WHATEVER THE INPUT: true; the input reads as it did. -/
def fnAmountTextSpec : ChangeSpec := { name := "fnAmountText", fn := fun _ => fun
  | [d] => { results := [.lit (.bool true)], args := [d] }
  | _ => none }
def fnAmountTextRow : OpenClaim := { program := "ytdedhnlgjegbhaadoor", sum := "9cf87d1ce88d3fc3cdccc7c81f3fbef4e1b2f0e235d4b7e1a08cde0fcc9b76c9", func := "loop.example/messkitchen/laws.FnAmountText", spec := "fnAmountText", recurses := true, named := ["internal/strconv.uint64pow10", "math/bits.deBruijn32tab", "math/bits.deBruijn64tab", "strconv.ErrSyntax", "strconv.ErrRange"], apart := false, laid := [("math/bits.deBruijn32tab", laid_math_bits_deBruijn32tab), ("math/bits.deBruijn64tab", laid_math_bits_deBruijn64tab), ("internal/strconv.uint64pow10", laid_internal_strconv_uint64pow10), ("strconv.ErrRange", laid_strconv_ErrRange), ("strconv.ErrSyntax", laid_strconv_ErrSyntax)] }
def FnAmountTextSaid : Prop := fnAmountTextRow.holds Tryd.pinned (OpenSpec.ofChange fnAmountTextSpec)

/-- ITS FALSE NEIGHBOUR: 'it returns false'. Refute it at one input. -/
def fnAmountTextWrong : ChangeSpec := { name := "fnAmountText", fn := fun _ => fun
  | [d] => { results := [.lit (.bool false)], args := [d] }
  | _ => none }
def FnAmountTextWrongFalsely : Prop := fnAmountTextRow.holds Tryd.pinned (OpenSpec.ofChange fnAmountTextWrong)

/-- 'laws.FnAmountParse': WHATEVER THE INPUT: true; the input reads as it did. -/
def fnAmountParseSpec : ChangeSpec := { name := "fnAmountParse", fn := fun _ => fun
  | [d] => { results := [.lit (.bool true)], args := [d] }
  | _ => none }
def fnAmountParseRow : OpenClaim := { program := "ytdedhnlgjegbhaadoor", sum := "9cf87d1ce88d3fc3cdccc7c81f3fbef4e1b2f0e235d4b7e1a08cde0fcc9b76c9", func := "loop.example/messkitchen/laws.FnAmountParse", spec := "fnAmountParse", recurses := true, named := ["strconv.ErrSyntax", "strconv.ErrRange", "internal/strconv.uint64pow10", "math/bits.deBruijn32tab", "math/bits.deBruijn64tab"], apart := false, laid := [("math/bits.deBruijn32tab", laid_math_bits_deBruijn32tab), ("math/bits.deBruijn64tab", laid_math_bits_deBruijn64tab), ("internal/strconv.uint64pow10", laid_internal_strconv_uint64pow10), ("strconv.ErrRange", laid_strconv_ErrRange), ("strconv.ErrSyntax", laid_strconv_ErrSyntax)] }
def FnAmountParseSaid : Prop := fnAmountParseRow.holds Tryd.pinned (OpenSpec.ofChange fnAmountParseSpec)

/-- ITS FALSE NEIGHBOUR: 'it returns false'. Refute it at one input. -/
def fnAmountParseWrong : ChangeSpec := { name := "fnAmountParse", fn := fun _ => fun
  | [d] => { results := [.lit (.bool false)], args := [d] }
  | _ => none }
def FnAmountParseWrongFalsely : Prop := fnAmountParseRow.holds Tryd.pinned (OpenSpec.ofChange fnAmountParseWrong)

/-- 'laws.FnAmountParseBad': WHATEVER THE INPUT: true; the input reads as it did. -/
def fnAmountParseBadSpec : ChangeSpec := { name := "fnAmountParseBad", fn := fun _ => fun
  | [d] => { results := [.lit (.bool true)], args := [d] }
  | _ => none }
def fnAmountParseBadRow : OpenClaim := { program := "ytdedhnlgjegbhaadoor", sum := "9cf87d1ce88d3fc3cdccc7c81f3fbef4e1b2f0e235d4b7e1a08cde0fcc9b76c9", func := "loop.example/messkitchen/laws.FnAmountParseBad", spec := "fnAmountParseBad", recurses := true, named := ["strconv.ErrSyntax", "strconv.ErrRange", "internal/strconv.uint64pow10", "math/bits.deBruijn32tab", "math/bits.deBruijn64tab"], apart := false, laid := [("math/bits.deBruijn32tab", laid_math_bits_deBruijn32tab), ("math/bits.deBruijn64tab", laid_math_bits_deBruijn64tab), ("internal/strconv.uint64pow10", laid_internal_strconv_uint64pow10), ("strconv.ErrRange", laid_strconv_ErrRange), ("strconv.ErrSyntax", laid_strconv_ErrSyntax)] }
def FnAmountParseBadSaid : Prop := fnAmountParseBadRow.holds Tryd.pinned (OpenSpec.ofChange fnAmountParseBadSpec)

/-- ITS FALSE NEIGHBOUR: 'it returns false'. Refute it at one input. -/
def fnAmountParseBadWrong : ChangeSpec := { name := "fnAmountParseBad", fn := fun _ => fun
  | [d] => { results := [.lit (.bool false)], args := [d] }
  | _ => none }
def FnAmountParseBadWrongFalsely : Prop := fnAmountParseBadRow.holds Tryd.pinned (OpenSpec.ofChange fnAmountParseBadWrong)

/-- 'laws.FnExactClockText': WHATEVER THE INPUT: true; the input reads as it did. -/
def fnExactClockTextSpec : ChangeSpec := { name := "fnExactClockText", fn := fun _ => fun
  | [d] => { results := [.lit (.bool true)], args := [d] }
  | _ => none }
def fnExactClockTextRow : OpenClaim := { program := "ytdedhnlgjegbhaadoor", sum := "9cf87d1ce88d3fc3cdccc7c81f3fbef4e1b2f0e235d4b7e1a08cde0fcc9b76c9", func := "loop.example/messkitchen/laws.FnExactClockText", spec := "fnExactClockText", recurses := true, named := ["internal/strconv.uint64pow10", "math/bits.deBruijn32tab", "math/bits.deBruijn64tab"], apart := false, laid := [("math/bits.deBruijn32tab", laid_math_bits_deBruijn32tab), ("math/bits.deBruijn64tab", laid_math_bits_deBruijn64tab), ("internal/strconv.uint64pow10", laid_internal_strconv_uint64pow10)] }
def FnExactClockTextSaid : Prop := fnExactClockTextRow.holds Tryd.pinned (OpenSpec.ofChange fnExactClockTextSpec)

/-- ITS FALSE NEIGHBOUR: 'it returns false'. Refute it at one input. -/
def fnExactClockTextWrong : ChangeSpec := { name := "fnExactClockText", fn := fun _ => fun
  | [d] => { results := [.lit (.bool false)], args := [d] }
  | _ => none }
def FnExactClockTextWrongFalsely : Prop := fnExactClockTextRow.holds Tryd.pinned (OpenSpec.ofChange fnExactClockTextWrong)

/-- 'laws.FnExactAmountText': WHATEVER THE INPUT: true; the input reads as it did. -/
def fnExactAmountTextSpec : ChangeSpec := { name := "fnExactAmountText", fn := fun _ => fun
  | [d] => { results := [.lit (.bool true)], args := [d] }
  | _ => none }
def fnExactAmountTextRow : OpenClaim := { program := "ytdedhnlgjegbhaadoor", sum := "9cf87d1ce88d3fc3cdccc7c81f3fbef4e1b2f0e235d4b7e1a08cde0fcc9b76c9", func := "loop.example/messkitchen/laws.FnExactAmountText", spec := "fnExactAmountText", recurses := true, named := ["internal/strconv.uint64pow10", "math/bits.deBruijn32tab", "math/bits.deBruijn64tab"], apart := false, laid := [("math/bits.deBruijn32tab", laid_math_bits_deBruijn32tab), ("math/bits.deBruijn64tab", laid_math_bits_deBruijn64tab), ("internal/strconv.uint64pow10", laid_internal_strconv_uint64pow10)] }
def FnExactAmountTextSaid : Prop := fnExactAmountTextRow.holds Tryd.pinned (OpenSpec.ofChange fnExactAmountTextSpec)

/-- ITS FALSE NEIGHBOUR: 'it returns false'. Refute it at one input. -/
def fnExactAmountTextWrong : ChangeSpec := { name := "fnExactAmountText", fn := fun _ => fun
  | [d] => { results := [.lit (.bool false)], args := [d] }
  | _ => none }
def FnExactAmountTextWrongFalsely : Prop := fnExactAmountTextRow.holds Tryd.pinned (OpenSpec.ofChange fnExactAmountTextWrong)

/-- 'laws.FnExactClockParse': WHATEVER THE INPUT: true; the input reads as it did. -/
def fnExactClockParseSpec : ChangeSpec := { name := "fnExactClockParse", fn := fun _ => fun
  | [d] => { results := [.lit (.bool true)], args := [d] }
  | _ => none }
def fnExactClockParseRow : OpenClaim := { program := "ytdedhnlgjegbhaadoor", sum := "9cf87d1ce88d3fc3cdccc7c81f3fbef4e1b2f0e235d4b7e1a08cde0fcc9b76c9", func := "loop.example/messkitchen/laws.FnExactClockParse", spec := "fnExactClockParse", recurses := true, named := ["internal/strconv.uint64pow10", "math/bits.deBruijn32tab", "math/bits.deBruijn64tab"], apart := false, laid := [("math/bits.deBruijn32tab", laid_math_bits_deBruijn32tab), ("math/bits.deBruijn64tab", laid_math_bits_deBruijn64tab), ("internal/strconv.uint64pow10", laid_internal_strconv_uint64pow10)] }
def FnExactClockParseSaid : Prop := fnExactClockParseRow.holds Tryd.pinned (OpenSpec.ofChange fnExactClockParseSpec)

/-- ITS FALSE NEIGHBOUR: 'it returns false'. Refute it at one input. -/
def fnExactClockParseWrong : ChangeSpec := { name := "fnExactClockParse", fn := fun _ => fun
  | [d] => { results := [.lit (.bool false)], args := [d] }
  | _ => none }
def FnExactClockParseWrongFalsely : Prop := fnExactClockParseRow.holds Tryd.pinned (OpenSpec.ofChange fnExactClockParseWrong)

/-- 'laws.FnClockOrder': WHATEVER THE INPUT: true; the input reads as it did. -/
def fnClockOrderSpec : ChangeSpec := { name := "fnClockOrder", fn := fun _ => fun
  | [d] => { results := [.lit (.bool true)], args := [d] }
  | _ => none }
def fnClockOrderRow : OpenClaim := { program := "ytdedhnlgjegbhaadoor", sum := "9cf87d1ce88d3fc3cdccc7c81f3fbef4e1b2f0e235d4b7e1a08cde0fcc9b76c9", func := "loop.example/messkitchen/laws.FnClockOrder", spec := "fnClockOrder", recurses := true, named := ["internal/strconv.uint64pow10", "math/bits.deBruijn32tab", "math/bits.deBruijn64tab"], apart := false, laid := [("math/bits.deBruijn32tab", laid_math_bits_deBruijn32tab), ("math/bits.deBruijn64tab", laid_math_bits_deBruijn64tab), ("internal/strconv.uint64pow10", laid_internal_strconv_uint64pow10)] }
def FnClockOrderSaid : Prop := fnClockOrderRow.holds Tryd.pinned (OpenSpec.ofChange fnClockOrderSpec)

/-- ITS FALSE NEIGHBOUR: 'it returns false'. Refute it at one input. -/
def fnClockOrderWrong : ChangeSpec := { name := "fnClockOrder", fn := fun _ => fun
  | [d] => { results := [.lit (.bool false)], args := [d] }
  | _ => none }
def FnClockOrderWrongFalsely : Prop := fnClockOrderRow.holds Tryd.pinned (OpenSpec.ofChange fnClockOrderWrong)

/-- 'laws.FnAmountTextBad': WHATEVER THE INPUT: true; the input reads as it did. -/
def fnAmountTextBadSpec : ChangeSpec := { name := "fnAmountTextBad", fn := fun _ => fun
  | [d] => { results := [.lit (.bool true)], args := [d] }
  | _ => none }
def fnAmountTextBadRow : OpenClaim := { program := "ytdedhnlgjegbhaadoor", sum := "9cf87d1ce88d3fc3cdccc7c81f3fbef4e1b2f0e235d4b7e1a08cde0fcc9b76c9", func := "loop.example/messkitchen/laws.FnAmountTextBad", spec := "fnAmountTextBad", recurses := true, named := ["internal/strconv.uint64pow10", "math/bits.deBruijn32tab", "math/bits.deBruijn64tab"], apart := false, laid := [("math/bits.deBruijn32tab", laid_math_bits_deBruijn32tab), ("math/bits.deBruijn64tab", laid_math_bits_deBruijn64tab), ("internal/strconv.uint64pow10", laid_internal_strconv_uint64pow10)] }
def FnAmountTextBadSaid : Prop := fnAmountTextBadRow.holds Tryd.pinned (OpenSpec.ofChange fnAmountTextBadSpec)

/-- ITS FALSE NEIGHBOUR: 'it returns false'. Refute it at one input. -/
def fnAmountTextBadWrong : ChangeSpec := { name := "fnAmountTextBad", fn := fun _ => fun
  | [d] => { results := [.lit (.bool false)], args := [d] }
  | _ => none }
def FnAmountTextBadWrongFalsely : Prop := fnAmountTextBadRow.holds Tryd.pinned (OpenSpec.ofChange fnAmountTextBadWrong)

/-- 'laws.FnClock': WHATEVER THE INPUT: true; the input reads as it did. -/
def fnClockSpec : ChangeSpec := { name := "fnClock", fn := fun _ => fun
  | [d] => { results := [.lit (.bool true)], args := [d] }
  | _ => none }
def fnClockRow : OpenClaim := { program := "ytdedhnlgjegbhaadoor", sum := "9cf87d1ce88d3fc3cdccc7c81f3fbef4e1b2f0e235d4b7e1a08cde0fcc9b76c9", func := "loop.example/messkitchen/laws.FnClock", spec := "fnClock", recurses := true, named := ["internal/strconv.uint64pow10", "math/bits.deBruijn32tab", "math/bits.deBruijn64tab"], apart := false, laid := [("math/bits.deBruijn32tab", laid_math_bits_deBruijn32tab), ("math/bits.deBruijn64tab", laid_math_bits_deBruijn64tab), ("internal/strconv.uint64pow10", laid_internal_strconv_uint64pow10)] }
def FnClockSaid : Prop := fnClockRow.holds Tryd.pinned (OpenSpec.ofChange fnClockSpec)

/-- ITS FALSE NEIGHBOUR: 'it returns false'. Refute it at one input. -/
def fnClockWrong : ChangeSpec := { name := "fnClock", fn := fun _ => fun
  | [d] => { results := [.lit (.bool false)], args := [d] }
  | _ => none }
def FnClockWrongFalsely : Prop := fnClockRow.holds Tryd.pinned (OpenSpec.ofChange fnClockWrong)

/-- 'laws.FnClockParse': WHATEVER THE INPUT: true; the input reads as it did. -/
def fnClockParseSpec : ChangeSpec := { name := "fnClockParse", fn := fun _ => fun
  | [d] => { results := [.lit (.bool true)], args := [d] }
  | _ => none }
def fnClockParseRow : OpenClaim := { program := "ytdedhnlgjegbhaadoor", sum := "9cf87d1ce88d3fc3cdccc7c81f3fbef4e1b2f0e235d4b7e1a08cde0fcc9b76c9", func := "loop.example/messkitchen/laws.FnClockParse", spec := "fnClockParse", recurses := true, named := ["internal/strconv.uint64pow10", "math/bits.deBruijn32tab", "math/bits.deBruijn64tab"], apart := false, laid := [("math/bits.deBruijn32tab", laid_math_bits_deBruijn32tab), ("math/bits.deBruijn64tab", laid_math_bits_deBruijn64tab), ("internal/strconv.uint64pow10", laid_internal_strconv_uint64pow10)] }
def FnClockParseSaid : Prop := fnClockParseRow.holds Tryd.pinned (OpenSpec.ofChange fnClockParseSpec)

/-- ITS FALSE NEIGHBOUR: 'it returns false'. Refute it at one input. -/
def fnClockParseWrong : ChangeSpec := { name := "fnClockParse", fn := fun _ => fun
  | [d] => { results := [.lit (.bool false)], args := [d] }
  | _ => none }
def FnClockParseWrongFalsely : Prop := fnClockParseRow.holds Tryd.pinned (OpenSpec.ofChange fnClockParseWrong)

/-- 'laws.FnExactAmountParse': WHATEVER THE INPUT: true; the input reads as it did. -/
def fnExactAmountParseSpec : ChangeSpec := { name := "fnExactAmountParse", fn := fun _ => fun
  | [d] => { results := [.lit (.bool true)], args := [d] }
  | _ => none }
def fnExactAmountParseRow : OpenClaim := { program := "ytdedhnlgjegbhaadoor", sum := "9cf87d1ce88d3fc3cdccc7c81f3fbef4e1b2f0e235d4b7e1a08cde0fcc9b76c9", func := "loop.example/messkitchen/laws.FnExactAmountParse", spec := "fnExactAmountParse", named := ["strconv.ErrSyntax", "strconv.ErrRange", "internal/strconv.uint64pow10", "math/bits.deBruijn32tab", "math/bits.deBruijn64tab"], apart := false, laid := [("math/bits.deBruijn32tab", laid_math_bits_deBruijn32tab), ("math/bits.deBruijn64tab", laid_math_bits_deBruijn64tab), ("internal/strconv.uint64pow10", laid_internal_strconv_uint64pow10), ("strconv.ErrRange", laid_strconv_ErrRange), ("strconv.ErrSyntax", laid_strconv_ErrSyntax)] }
def FnExactAmountParseSaid : Prop := fnExactAmountParseRow.holds Tryd.pinned (OpenSpec.ofChange fnExactAmountParseSpec)

/-- ITS FALSE NEIGHBOUR: 'it returns false'. Refute it at one input. -/
def fnExactAmountParseWrong : ChangeSpec := { name := "fnExactAmountParse", fn := fun _ => fun
  | [d] => { results := [.lit (.bool false)], args := [d] }
  | _ => none }
def FnExactAmountParseWrongFalsely : Prop := fnExactAmountParseRow.holds Tryd.pinned (OpenSpec.ofChange fnExactAmountParseWrong)

/- THE SECOND FORM. 'bulk': how many values and letters a reading holds, each counted each time it is reached (what is shared counts as often as it is met; a slice's spare places count too). A statement '..UptoSaid' is the law's where the arguments, and the package variables that the reading takes, are together of bulk at most 1048576: NARROWER than '..Said'. Prove '..Said' where nothing that the law and all that it calls make is longer than what came in: it says more and counts as full. Else prove '..UptoSaid'. A law counts once. -/
mutual
def uptoBulk {H : Type} : DataW H → Nat
  | .lit (.string bytes) => bytes.length + 1
  | .lit _ => 1
  | .nil => 1
  | .ptr d => uptoBulk d + 1
  | .slice elems spare => uptoBulkAll elems + uptoBulkAll spare + 1
  | .agg parts => uptoBulkAll parts + 1
  | .iface _ d => uptoBulk d + 1
  | .map entries => uptoBulkEntries entries + 1
  | .held _ => 1
def uptoBulkAll {H : Type} : List (DataW H) → Nat
  | [] => 0
  | d :: r => uptoBulk d + uptoBulkAll r
def uptoBulkEntries {H : Type} : List (Lit × DataW H) → Nat
  | [] => 0
  | x :: r => uptoBulkEntry x + uptoBulkEntries r
def uptoBulkEntry {H : Type} : Lit × DataW H → Nat
  | (.string bytes, d) => bytes.length + uptoBulk d + 1
  | (_, d) => uptoBulk d + 1
 end
def uptoSmall : (H : Type) → List (DataW H) → Bool := fun _ ds => decide (uptoBulkAll ds ≤ 1048576)
def OpenSpec.upto (s : _root_.Go.ChangeSpec) : _root_.Go.OpenSpec := { _root_.Go.OpenSpec.ofChange s with cond := some uptoSmall }

/-- 'laws.FnAmountText', WHERE WHAT IT READS IS OF BULK AT MOST 1048576: true; the input reads as it did. -/
def fnAmountTextUptoRow : OpenClaim := { program := "ytdedhnlgjegbhaadoor", sum := "9cf87d1ce88d3fc3cdccc7c81f3fbef4e1b2f0e235d4b7e1a08cde0fcc9b76c9", func := "loop.example/messkitchen/laws.FnAmountText", spec := "fnAmountText", recurses := true, named := ["internal/strconv.uint64pow10", "math/bits.deBruijn32tab", "math/bits.deBruijn64tab", "strconv.ErrSyntax", "strconv.ErrRange"], apart := false, laid := [("math/bits.deBruijn32tab", laid_math_bits_deBruijn32tab), ("math/bits.deBruijn64tab", laid_math_bits_deBruijn64tab), ("internal/strconv.uint64pow10", laid_internal_strconv_uint64pow10), ("strconv.ErrRange", laid_strconv_ErrRange), ("strconv.ErrSyntax", laid_strconv_ErrSyntax)], narrowed := true }
def FnAmountTextUptoSaid : Prop := fnAmountTextUptoRow.holds Tryd.pinned (OpenSpec.upto fnAmountTextSpec)

/-- 'laws.FnAmountParse', WHERE WHAT IT READS IS OF BULK AT MOST 1048576: true; the input reads as it did. -/
def fnAmountParseUptoRow : OpenClaim := { program := "ytdedhnlgjegbhaadoor", sum := "9cf87d1ce88d3fc3cdccc7c81f3fbef4e1b2f0e235d4b7e1a08cde0fcc9b76c9", func := "loop.example/messkitchen/laws.FnAmountParse", spec := "fnAmountParse", recurses := true, named := ["strconv.ErrSyntax", "strconv.ErrRange", "internal/strconv.uint64pow10", "math/bits.deBruijn32tab", "math/bits.deBruijn64tab"], apart := false, laid := [("math/bits.deBruijn32tab", laid_math_bits_deBruijn32tab), ("math/bits.deBruijn64tab", laid_math_bits_deBruijn64tab), ("internal/strconv.uint64pow10", laid_internal_strconv_uint64pow10), ("strconv.ErrRange", laid_strconv_ErrRange), ("strconv.ErrSyntax", laid_strconv_ErrSyntax)], narrowed := true }
def FnAmountParseUptoSaid : Prop := fnAmountParseUptoRow.holds Tryd.pinned (OpenSpec.upto fnAmountParseSpec)

/-- 'laws.FnAmountParseBad', WHERE WHAT IT READS IS OF BULK AT MOST 1048576: true; the input reads as it did. -/
def fnAmountParseBadUptoRow : OpenClaim := { program := "ytdedhnlgjegbhaadoor", sum := "9cf87d1ce88d3fc3cdccc7c81f3fbef4e1b2f0e235d4b7e1a08cde0fcc9b76c9", func := "loop.example/messkitchen/laws.FnAmountParseBad", spec := "fnAmountParseBad", recurses := true, named := ["strconv.ErrSyntax", "strconv.ErrRange", "internal/strconv.uint64pow10", "math/bits.deBruijn32tab", "math/bits.deBruijn64tab"], apart := false, laid := [("math/bits.deBruijn32tab", laid_math_bits_deBruijn32tab), ("math/bits.deBruijn64tab", laid_math_bits_deBruijn64tab), ("internal/strconv.uint64pow10", laid_internal_strconv_uint64pow10), ("strconv.ErrRange", laid_strconv_ErrRange), ("strconv.ErrSyntax", laid_strconv_ErrSyntax)], narrowed := true }
def FnAmountParseBadUptoSaid : Prop := fnAmountParseBadUptoRow.holds Tryd.pinned (OpenSpec.upto fnAmountParseBadSpec)

/-- 'laws.FnExactClockText', WHERE WHAT IT READS IS OF BULK AT MOST 1048576: true; the input reads as it did. -/
def fnExactClockTextUptoRow : OpenClaim := { program := "ytdedhnlgjegbhaadoor", sum := "9cf87d1ce88d3fc3cdccc7c81f3fbef4e1b2f0e235d4b7e1a08cde0fcc9b76c9", func := "loop.example/messkitchen/laws.FnExactClockText", spec := "fnExactClockText", recurses := true, named := ["internal/strconv.uint64pow10", "math/bits.deBruijn32tab", "math/bits.deBruijn64tab"], apart := false, laid := [("math/bits.deBruijn32tab", laid_math_bits_deBruijn32tab), ("math/bits.deBruijn64tab", laid_math_bits_deBruijn64tab), ("internal/strconv.uint64pow10", laid_internal_strconv_uint64pow10)], narrowed := true }
def FnExactClockTextUptoSaid : Prop := fnExactClockTextUptoRow.holds Tryd.pinned (OpenSpec.upto fnExactClockTextSpec)

/-- 'laws.FnExactAmountText', WHERE WHAT IT READS IS OF BULK AT MOST 1048576: true; the input reads as it did. -/
def fnExactAmountTextUptoRow : OpenClaim := { program := "ytdedhnlgjegbhaadoor", sum := "9cf87d1ce88d3fc3cdccc7c81f3fbef4e1b2f0e235d4b7e1a08cde0fcc9b76c9", func := "loop.example/messkitchen/laws.FnExactAmountText", spec := "fnExactAmountText", recurses := true, named := ["internal/strconv.uint64pow10", "math/bits.deBruijn32tab", "math/bits.deBruijn64tab"], apart := false, laid := [("math/bits.deBruijn32tab", laid_math_bits_deBruijn32tab), ("math/bits.deBruijn64tab", laid_math_bits_deBruijn64tab), ("internal/strconv.uint64pow10", laid_internal_strconv_uint64pow10)], narrowed := true }
def FnExactAmountTextUptoSaid : Prop := fnExactAmountTextUptoRow.holds Tryd.pinned (OpenSpec.upto fnExactAmountTextSpec)

/-- 'laws.FnExactClockParse', WHERE WHAT IT READS IS OF BULK AT MOST 1048576: true; the input reads as it did. -/
def fnExactClockParseUptoRow : OpenClaim := { program := "ytdedhnlgjegbhaadoor", sum := "9cf87d1ce88d3fc3cdccc7c81f3fbef4e1b2f0e235d4b7e1a08cde0fcc9b76c9", func := "loop.example/messkitchen/laws.FnExactClockParse", spec := "fnExactClockParse", recurses := true, named := ["internal/strconv.uint64pow10", "math/bits.deBruijn32tab", "math/bits.deBruijn64tab"], apart := false, laid := [("math/bits.deBruijn32tab", laid_math_bits_deBruijn32tab), ("math/bits.deBruijn64tab", laid_math_bits_deBruijn64tab), ("internal/strconv.uint64pow10", laid_internal_strconv_uint64pow10)], narrowed := true }
def FnExactClockParseUptoSaid : Prop := fnExactClockParseUptoRow.holds Tryd.pinned (OpenSpec.upto fnExactClockParseSpec)

/-- 'laws.FnClockOrder', WHERE WHAT IT READS IS OF BULK AT MOST 1048576: true; the input reads as it did. -/
def fnClockOrderUptoRow : OpenClaim := { program := "ytdedhnlgjegbhaadoor", sum := "9cf87d1ce88d3fc3cdccc7c81f3fbef4e1b2f0e235d4b7e1a08cde0fcc9b76c9", func := "loop.example/messkitchen/laws.FnClockOrder", spec := "fnClockOrder", recurses := true, named := ["internal/strconv.uint64pow10", "math/bits.deBruijn32tab", "math/bits.deBruijn64tab"], apart := false, laid := [("math/bits.deBruijn32tab", laid_math_bits_deBruijn32tab), ("math/bits.deBruijn64tab", laid_math_bits_deBruijn64tab), ("internal/strconv.uint64pow10", laid_internal_strconv_uint64pow10)], narrowed := true }
def FnClockOrderUptoSaid : Prop := fnClockOrderUptoRow.holds Tryd.pinned (OpenSpec.upto fnClockOrderSpec)

/-- 'laws.FnAmountTextBad', WHERE WHAT IT READS IS OF BULK AT MOST 1048576: true; the input reads as it did. -/
def fnAmountTextBadUptoRow : OpenClaim := { program := "ytdedhnlgjegbhaadoor", sum := "9cf87d1ce88d3fc3cdccc7c81f3fbef4e1b2f0e235d4b7e1a08cde0fcc9b76c9", func := "loop.example/messkitchen/laws.FnAmountTextBad", spec := "fnAmountTextBad", recurses := true, named := ["internal/strconv.uint64pow10", "math/bits.deBruijn32tab", "math/bits.deBruijn64tab"], apart := false, laid := [("math/bits.deBruijn32tab", laid_math_bits_deBruijn32tab), ("math/bits.deBruijn64tab", laid_math_bits_deBruijn64tab), ("internal/strconv.uint64pow10", laid_internal_strconv_uint64pow10)], narrowed := true }
def FnAmountTextBadUptoSaid : Prop := fnAmountTextBadUptoRow.holds Tryd.pinned (OpenSpec.upto fnAmountTextBadSpec)

/-- 'laws.FnClock', WHERE WHAT IT READS IS OF BULK AT MOST 1048576: true; the input reads as it did. -/
def fnClockUptoRow : OpenClaim := { program := "ytdedhnlgjegbhaadoor", sum := "9cf87d1ce88d3fc3cdccc7c81f3fbef4e1b2f0e235d4b7e1a08cde0fcc9b76c9", func := "loop.example/messkitchen/laws.FnClock", spec := "fnClock", recurses := true, named := ["internal/strconv.uint64pow10", "math/bits.deBruijn32tab", "math/bits.deBruijn64tab"], apart := false, laid := [("math/bits.deBruijn32tab", laid_math_bits_deBruijn32tab), ("math/bits.deBruijn64tab", laid_math_bits_deBruijn64tab), ("internal/strconv.uint64pow10", laid_internal_strconv_uint64pow10)], narrowed := true }
def FnClockUptoSaid : Prop := fnClockUptoRow.holds Tryd.pinned (OpenSpec.upto fnClockSpec)

/-- 'laws.FnClockParse', WHERE WHAT IT READS IS OF BULK AT MOST 1048576: true; the input reads as it did. -/
def fnClockParseUptoRow : OpenClaim := { program := "ytdedhnlgjegbhaadoor", sum := "9cf87d1ce88d3fc3cdccc7c81f3fbef4e1b2f0e235d4b7e1a08cde0fcc9b76c9", func := "loop.example/messkitchen/laws.FnClockParse", spec := "fnClockParse", recurses := true, named := ["internal/strconv.uint64pow10", "math/bits.deBruijn32tab", "math/bits.deBruijn64tab"], apart := false, laid := [("math/bits.deBruijn32tab", laid_math_bits_deBruijn32tab), ("math/bits.deBruijn64tab", laid_math_bits_deBruijn64tab), ("internal/strconv.uint64pow10", laid_internal_strconv_uint64pow10)], narrowed := true }
def FnClockParseUptoSaid : Prop := fnClockParseUptoRow.holds Tryd.pinned (OpenSpec.upto fnClockParseSpec)

/-- 'laws.FnExactAmountParse', WHERE WHAT IT READS IS OF BULK AT MOST 1048576: true; the input reads as it did. -/
def fnExactAmountParseUptoRow : OpenClaim := { program := "ytdedhnlgjegbhaadoor", sum := "9cf87d1ce88d3fc3cdccc7c81f3fbef4e1b2f0e235d4b7e1a08cde0fcc9b76c9", func := "loop.example/messkitchen/laws.FnExactAmountParse", spec := "fnExactAmountParse", named := ["strconv.ErrSyntax", "strconv.ErrRange", "internal/strconv.uint64pow10", "math/bits.deBruijn32tab", "math/bits.deBruijn64tab"], apart := false, laid := [("math/bits.deBruijn32tab", laid_math_bits_deBruijn32tab), ("math/bits.deBruijn64tab", laid_math_bits_deBruijn64tab), ("internal/strconv.uint64pow10", laid_internal_strconv_uint64pow10), ("strconv.ErrRange", laid_strconv_ErrRange), ("strconv.ErrSyntax", laid_strconv_ErrSyntax)], narrowed := true }
def FnExactAmountParseUptoSaid : Prop := fnExactAmountParseUptoRow.holds Tryd.pinned (OpenSpec.upto fnExactAmountParseSpec)

end Rows
end Go.Proofs.YtdedhnlgjegbhaaDoor
