/-
  NARROWER THAN 'FOR EVERY INPUT', by the rows' own cells (each row's printed sentence says how): ChartDraws: laid · ChartLines: laid · ChartWhole: laid · ChartApart: laid · ChartWords: laid · ChartClosed: laid · ChartClashes: laid · ChartShown: laid · ChartMore: laid · ChartBounds: laid · ChartFits: laid · ChartDrawn: laid · ChartSharp: laid · ChartTrue: laid · ChartSheets: laid · ChartReads: laid · ChartSpoilt: laid.
  DERIVED. THE GIVEN ROWS OF THIS SEAT. 17 by the template 'for every input the law returns true; each argument reads behind the call as it read before'; 0 by the template 'total and deterministic' (their statements: YtdjncbjfejdamaaGreatDoorTotals.lean).
  GIVEN WITH THE SEED: the statements are not yours to turn. If you find one false, say at which input.
  Laid BY PROGRAM, IN A SANDBOX (cutbox-rows.mjs): the forced cells as the released guide's own fill.sh prints them over the translation 263d7e61101aec97… (all of the seat's roots in one cut). By AI agents, Wed Nov 11 2026. No macro, syntax, notation, axiom, sorry.
-/
import Derived.Test.YtdjncbjfejdamaaGreatDoorChecked
import GoSem.PinnedTables
import GoSem.Claim
import GoSem.ClaimJoined
import GoSem.ClaimMapViews
import Derived.JoinedTies
import Derived.KernelRfl
namespace Go.Proofs.YtdjncbjfejdamaaGreatDoor
/- THE CELL 'sum', in the pinned program and in every row, IS THE sha256 OF THE DUMP (.gsa) THAT YtdjncbjfejdamaaGreatDoorProg.lean LOADS. Nothing in Lean hashes anything: it is a label: what it is worth is what the hold of that sum in a sandbox is worth. -/
noncomputable def Tryz.pinned : Pinned := { name := "ytdjncbjfejdamaagreatdoor", sum := "263d7e61101aec97cb0161db3146e4ebd24e02c45d32c35154da1638007dd1cc", checked := Tryz.checked }
namespace Rows
def none {H : Type} : Left H := { results := [], args := [] }

/- WHAT THE LISTED PACKAGE-LEVEL VARIABLES READ AS WHEN THE CALL BEGINS. Each datum BY PROGRAM (the guide's laid-datum.mjs) off the statement by which the dump's own 'gosem.cut.vars' lays the variable. In a bare row this is a premise. The card (YtdjncbjfejdamaaGreatDoorCards.lean) ties it to the program's text. -/
def laid_math_bits_deBruijn32tab {H : Type} : DataW H := .agg [.lit (.int .u8 0), .lit (.int .u8 1), .lit (.int .u8 28), .lit (.int .u8 2), .lit (.int .u8 29), .lit (.int .u8 14), .lit (.int .u8 24), .lit (.int .u8 3), .lit (.int .u8 30), .lit (.int .u8 22), .lit (.int .u8 20), .lit (.int .u8 15), .lit (.int .u8 25), .lit (.int .u8 17), .lit (.int .u8 4), .lit (.int .u8 8), .lit (.int .u8 31), .lit (.int .u8 27), .lit (.int .u8 13), .lit (.int .u8 23), .lit (.int .u8 21), .lit (.int .u8 19), .lit (.int .u8 16), .lit (.int .u8 7), .lit (.int .u8 26), .lit (.int .u8 12), .lit (.int .u8 18), .lit (.int .u8 6), .lit (.int .u8 11), .lit (.int .u8 5), .lit (.int .u8 10), .lit (.int .u8 9)]
def laid_math_bits_deBruijn64tab {H : Type} : DataW H := .agg [.lit (.int .u8 0), .lit (.int .u8 1), .lit (.int .u8 56), .lit (.int .u8 2), .lit (.int .u8 57), .lit (.int .u8 49), .lit (.int .u8 28), .lit (.int .u8 3), .lit (.int .u8 61), .lit (.int .u8 58), .lit (.int .u8 42), .lit (.int .u8 50), .lit (.int .u8 38), .lit (.int .u8 29), .lit (.int .u8 17), .lit (.int .u8 4), .lit (.int .u8 62), .lit (.int .u8 47), .lit (.int .u8 59), .lit (.int .u8 36), .lit (.int .u8 45), .lit (.int .u8 43), .lit (.int .u8 51), .lit (.int .u8 22), .lit (.int .u8 53), .lit (.int .u8 39), .lit (.int .u8 33), .lit (.int .u8 30), .lit (.int .u8 24), .lit (.int .u8 18), .lit (.int .u8 12), .lit (.int .u8 5), .lit (.int .u8 63), .lit (.int .u8 55), .lit (.int .u8 48), .lit (.int .u8 27), .lit (.int .u8 60), .lit (.int .u8 41), .lit (.int .u8 37), .lit (.int .u8 16), .lit (.int .u8 46), .lit (.int .u8 35), .lit (.int .u8 44), .lit (.int .u8 21), .lit (.int .u8 52), .lit (.int .u8 32), .lit (.int .u8 23), .lit (.int .u8 11), .lit (.int .u8 54), .lit (.int .u8 26), .lit (.int .u8 40), .lit (.int .u8 15), .lit (.int .u8 34), .lit (.int .u8 20), .lit (.int .u8 31), .lit (.int .u8 10), .lit (.int .u8 25), .lit (.int .u8 14), .lit (.int .u8 19), .lit (.int .u8 9), .lit (.int .u8 13), .lit (.int .u8 8), .lit (.int .u8 7), .lit (.int .u8 6)]
def laid_internal_strconv_uint64pow10 {H : Type} : DataW H := .agg [.lit (.int .u64 1), .lit (.int .u64 10), .lit (.int .u64 100), .lit (.int .u64 1000), .lit (.int .u64 10000), .lit (.int .u64 100000), .lit (.int .u64 1000000), .lit (.int .u64 10000000), .lit (.int .u64 100000000), .lit (.int .u64 1000000000), .lit (.int .u64 10000000000), .lit (.int .u64 100000000000), .lit (.int .u64 1000000000000), .lit (.int .u64 10000000000000), .lit (.int .u64 100000000000000), .lit (.int .u64 1000000000000000), .lit (.int .u64 10000000000000000), .lit (.int .u64 100000000000000000), .lit (.int .u64 1000000000000000000), .lit (.int .u64 10000000000000000000)]
def laid_unicode_utf8_acceptRanges {H : Type} : DataW H := .agg [.agg [.lit (.int .u8 128), .lit (.int .u8 191)], .agg [.lit (.int .u8 160), .lit (.int .u8 191)], .agg [.lit (.int .u8 128), .lit (.int .u8 159)], .agg [.lit (.int .u8 144), .lit (.int .u8 191)], .agg [.lit (.int .u8 128), .lit (.int .u8 143)], .agg [.lit (.int .u8 0), .lit (.int .u8 0)], .agg [.lit (.int .u8 0), .lit (.int .u8 0)], .agg [.lit (.int .u8 0), .lit (.int .u8 0)], .agg [.lit (.int .u8 0), .lit (.int .u8 0)], .agg [.lit (.int .u8 0), .lit (.int .u8 0)], .agg [.lit (.int .u8 0), .lit (.int .u8 0)], .agg [.lit (.int .u8 0), .lit (.int .u8 0)], .agg [.lit (.int .u8 0), .lit (.int .u8 0)], .agg [.lit (.int .u8 0), .lit (.int .u8 0)], .agg [.lit (.int .u8 0), .lit (.int .u8 0)], .agg [.lit (.int .u8 0), .lit (.int .u8 0)]]
/-- One of Go's own tables, pinned by name: the form's constant. -/
def laid_unicode_utf8_first : DataW Unit := Go.Pinned.utf8First

/-- 'isobarlaw03.ChartDraws': WHATEVER THE INPUT: true; the input reads as it did. -/
def chartDrawsSpec : ChangeSpec := { name := "chartDraws", fn := fun _ => fun
  | [d] => { results := [.lit (.bool true)], args := [d] }
  | _ => none }
def chartDrawsRow : OpenClaim := { program := "ytdjncbjfejdamaagreatdoor", sum := "263d7e61101aec97cb0161db3146e4ebd24e02c45d32c35154da1638007dd1cc", func := "isobar/isobarlaw03.ChartDraws", spec := "chartDraws", inPlace := ["internal/abi.NoEscape", "internal/bytealg.MakeNoZero"], unfollowed := true, recurses := true, named := ["internal/strconv.uint64pow10", "math/bits.deBruijn32tab", "math/bits.deBruijn64tab"], plainKeys := false, apart := false, laid := [("math/bits.deBruijn32tab", laid_math_bits_deBruijn32tab), ("math/bits.deBruijn64tab", laid_math_bits_deBruijn64tab), ("internal/strconv.uint64pow10", laid_internal_strconv_uint64pow10)] }
def ChartDrawsSaid : Prop := chartDrawsRow.holds Tryz.pinned (OpenSpec.ofChange chartDrawsSpec)

/-- ITS FALSE NEIGHBOUR: 'it returns false'. Refute it at one input. -/
def chartDrawsWrong : ChangeSpec := { name := "chartDraws", fn := fun _ => fun
  | [d] => { results := [.lit (.bool false)], args := [d] }
  | _ => none }
def ChartDrawsWrongFalsely : Prop := chartDrawsRow.holds Tryz.pinned (OpenSpec.ofChange chartDrawsWrong)

/-- 'isobarlaw03.ChartLines': WHATEVER THE INPUT: true; the input reads as it did. -/
def chartLinesSpec : ChangeSpec := { name := "chartLines", fn := fun _ => fun
  | [d1, d2] => { results := [.lit (.bool true)], args := [d1, d2] }
  | _ => none }
def chartLinesRow : OpenClaim := { program := "ytdjncbjfejdamaagreatdoor", sum := "263d7e61101aec97cb0161db3146e4ebd24e02c45d32c35154da1638007dd1cc", func := "isobar/isobarlaw03.ChartLines", spec := "chartLines", inPlace := ["internal/abi.NoEscape", "internal/bytealg.MakeNoZero"], unfollowed := true, recurses := true, named := ["internal/strconv.uint64pow10", "math/bits.deBruijn32tab", "math/bits.deBruijn64tab"], plainKeys := false, apart := false, laid := [("math/bits.deBruijn32tab", laid_math_bits_deBruijn32tab), ("math/bits.deBruijn64tab", laid_math_bits_deBruijn64tab), ("internal/strconv.uint64pow10", laid_internal_strconv_uint64pow10)] }
def ChartLinesSaid : Prop := chartLinesRow.holds Tryz.pinned (OpenSpec.ofChange chartLinesSpec)

/-- ITS FALSE NEIGHBOUR: 'it returns false'. Refute it at one input. -/
def chartLinesWrong : ChangeSpec := { name := "chartLines", fn := fun _ => fun
  | [d1, d2] => { results := [.lit (.bool false)], args := [d1, d2] }
  | _ => none }
def ChartLinesWrongFalsely : Prop := chartLinesRow.holds Tryz.pinned (OpenSpec.ofChange chartLinesWrong)

/-- 'isobarlaw03.ChartWhole': WHATEVER THE INPUT: true; the input reads as it did. -/
def chartWholeSpec : ChangeSpec := { name := "chartWhole", fn := fun _ => fun
  | [d1, d2, d3, d4] => { results := [.lit (.bool true)], args := [d1, d2, d3, d4] }
  | _ => none }
def chartWholeRow : OpenClaim := { program := "ytdjncbjfejdamaagreatdoor", sum := "263d7e61101aec97cb0161db3146e4ebd24e02c45d32c35154da1638007dd1cc", func := "isobar/isobarlaw03.ChartWhole", spec := "chartWhole", inPlace := ["internal/abi.NoEscape", "internal/bytealg.MakeNoZero"], unfollowed := true, recurses := true, named := ["internal/strconv.uint64pow10", "math/bits.deBruijn32tab", "math/bits.deBruijn64tab"], plainKeys := false, apart := false, laid := [("math/bits.deBruijn32tab", laid_math_bits_deBruijn32tab), ("math/bits.deBruijn64tab", laid_math_bits_deBruijn64tab), ("internal/strconv.uint64pow10", laid_internal_strconv_uint64pow10)] }
def ChartWholeSaid : Prop := chartWholeRow.holds Tryz.pinned (OpenSpec.ofChange chartWholeSpec)

/-- ITS FALSE NEIGHBOUR: 'it returns false'. Refute it at one input. -/
def chartWholeWrong : ChangeSpec := { name := "chartWhole", fn := fun _ => fun
  | [d1, d2, d3, d4] => { results := [.lit (.bool false)], args := [d1, d2, d3, d4] }
  | _ => none }
def ChartWholeWrongFalsely : Prop := chartWholeRow.holds Tryz.pinned (OpenSpec.ofChange chartWholeWrong)

/-- 'isobarlaw03.ChartApart': WHATEVER THE INPUT: true; the input reads as it did. -/
def chartApartSpec : ChangeSpec := { name := "chartApart", fn := fun _ => fun
  | [d1, d2, d3] => { results := [.lit (.bool true)], args := [d1, d2, d3] }
  | _ => none }
def chartApartRow : OpenClaim := { program := "ytdjncbjfejdamaagreatdoor", sum := "263d7e61101aec97cb0161db3146e4ebd24e02c45d32c35154da1638007dd1cc", func := "isobar/isobarlaw03.ChartApart", spec := "chartApart", inPlace := ["internal/abi.NoEscape", "internal/bytealg.MakeNoZero"], unfollowed := true, recurses := true, named := ["internal/strconv.uint64pow10", "math/bits.deBruijn32tab", "math/bits.deBruijn64tab"], plainKeys := false, apart := false, laid := [("math/bits.deBruijn32tab", laid_math_bits_deBruijn32tab), ("math/bits.deBruijn64tab", laid_math_bits_deBruijn64tab), ("internal/strconv.uint64pow10", laid_internal_strconv_uint64pow10)] }
def ChartApartSaid : Prop := chartApartRow.holds Tryz.pinned (OpenSpec.ofChange chartApartSpec)

/-- ITS FALSE NEIGHBOUR: 'it returns false'. Refute it at one input. -/
def chartApartWrong : ChangeSpec := { name := "chartApart", fn := fun _ => fun
  | [d1, d2, d3] => { results := [.lit (.bool false)], args := [d1, d2, d3] }
  | _ => none }
def ChartApartWrongFalsely : Prop := chartApartRow.holds Tryz.pinned (OpenSpec.ofChange chartApartWrong)

/-- 'isobarlaw03.ChartWords': WHATEVER THE INPUT: true; the input reads as it did. -/
def chartWordsSpec : ChangeSpec := { name := "chartWords", fn := fun _ => fun
  | [d1, d2, d3, d4] => { results := [.lit (.bool true)], args := [d1, d2, d3, d4] }
  | _ => none }
def chartWordsRow : OpenClaim := { program := "ytdjncbjfejdamaagreatdoor", sum := "263d7e61101aec97cb0161db3146e4ebd24e02c45d32c35154da1638007dd1cc", func := "isobar/isobarlaw03.ChartWords", spec := "chartWords", inPlace := ["internal/abi.NoEscape", "internal/bytealg.MakeNoZero"], unfollowed := true, recurses := true, named := ["internal/strconv.uint64pow10", "math/bits.deBruijn32tab", "math/bits.deBruijn64tab"], plainKeys := false, apart := false, laid := [("math/bits.deBruijn32tab", laid_math_bits_deBruijn32tab), ("math/bits.deBruijn64tab", laid_math_bits_deBruijn64tab), ("internal/strconv.uint64pow10", laid_internal_strconv_uint64pow10)] }
def ChartWordsSaid : Prop := chartWordsRow.holds Tryz.pinned (OpenSpec.ofChange chartWordsSpec)

/-- ITS FALSE NEIGHBOUR: 'it returns false'. Refute it at one input. -/
def chartWordsWrong : ChangeSpec := { name := "chartWords", fn := fun _ => fun
  | [d1, d2, d3, d4] => { results := [.lit (.bool false)], args := [d1, d2, d3, d4] }
  | _ => none }
def ChartWordsWrongFalsely : Prop := chartWordsRow.holds Tryz.pinned (OpenSpec.ofChange chartWordsWrong)

/-- 'isobarlaw03.ChartClosed': WHATEVER THE INPUT: true; the input reads as it did. -/
def chartClosedSpec : ChangeSpec := { name := "chartClosed", fn := fun _ => fun
  | [d1, d2, d3, d4, d5] => { results := [.lit (.bool true)], args := [d1, d2, d3, d4, d5] }
  | _ => none }
def chartClosedRow : OpenClaim := { program := "ytdjncbjfejdamaagreatdoor", sum := "263d7e61101aec97cb0161db3146e4ebd24e02c45d32c35154da1638007dd1cc", func := "isobar/isobarlaw03.ChartClosed", spec := "chartClosed", inPlace := ["internal/abi.NoEscape", "internal/bytealg.MakeNoZero"], unfollowed := true, recurses := true, named := ["internal/strconv.uint64pow10", "math/bits.deBruijn32tab", "math/bits.deBruijn64tab"], plainKeys := false, apart := false, laid := [("math/bits.deBruijn32tab", laid_math_bits_deBruijn32tab), ("math/bits.deBruijn64tab", laid_math_bits_deBruijn64tab), ("internal/strconv.uint64pow10", laid_internal_strconv_uint64pow10)] }
def ChartClosedSaid : Prop := chartClosedRow.holds Tryz.pinned (OpenSpec.ofChange chartClosedSpec)

/-- ITS FALSE NEIGHBOUR: 'it returns false'. Refute it at one input. -/
def chartClosedWrong : ChangeSpec := { name := "chartClosed", fn := fun _ => fun
  | [d1, d2, d3, d4, d5] => { results := [.lit (.bool false)], args := [d1, d2, d3, d4, d5] }
  | _ => none }
def ChartClosedWrongFalsely : Prop := chartClosedRow.holds Tryz.pinned (OpenSpec.ofChange chartClosedWrong)

/-- 'isobarlaw03.ChartClashes': WHATEVER THE INPUT: true; the input reads as it did. -/
def chartClashesSpec : ChangeSpec := { name := "chartClashes", fn := fun _ => fun
  | [d] => { results := [.lit (.bool true)], args := [d] }
  | _ => none }
def chartClashesRow : OpenClaim := { program := "ytdjncbjfejdamaagreatdoor", sum := "263d7e61101aec97cb0161db3146e4ebd24e02c45d32c35154da1638007dd1cc", func := "isobar/isobarlaw03.ChartClashes", spec := "chartClashes", inPlace := ["internal/abi.NoEscape", "internal/bytealg.MakeNoZero"], unfollowed := true, recurses := true, named := ["internal/strconv.uint64pow10", "math/bits.deBruijn32tab", "math/bits.deBruijn64tab"], plainKeys := false, apart := false, laid := [("math/bits.deBruijn32tab", laid_math_bits_deBruijn32tab), ("math/bits.deBruijn64tab", laid_math_bits_deBruijn64tab), ("internal/strconv.uint64pow10", laid_internal_strconv_uint64pow10)] }
def ChartClashesSaid : Prop := chartClashesRow.holds Tryz.pinned (OpenSpec.ofChange chartClashesSpec)

/-- ITS FALSE NEIGHBOUR: 'it returns false'. Refute it at one input. -/
def chartClashesWrong : ChangeSpec := { name := "chartClashes", fn := fun _ => fun
  | [d] => { results := [.lit (.bool false)], args := [d] }
  | _ => none }
def ChartClashesWrongFalsely : Prop := chartClashesRow.holds Tryz.pinned (OpenSpec.ofChange chartClashesWrong)

/-- 'isobarlaw03.ChartShown': WHATEVER THE INPUT: true; the input reads as it did. -/
def chartShownSpec : ChangeSpec := { name := "chartShown", fn := fun _ => fun
  | [d1, d2, d3] => { results := [.lit (.bool true)], args := [d1, d2, d3] }
  | _ => none }
def chartShownRow : OpenClaim := { program := "ytdjncbjfejdamaagreatdoor", sum := "263d7e61101aec97cb0161db3146e4ebd24e02c45d32c35154da1638007dd1cc", func := "isobar/isobarlaw03.ChartShown", spec := "chartShown", inPlace := ["internal/abi.NoEscape", "internal/bytealg.MakeNoZero"], unfollowed := true, recurses := true, named := ["internal/strconv.uint64pow10", "math/bits.deBruijn32tab", "math/bits.deBruijn64tab"], plainKeys := false, apart := false, laid := [("math/bits.deBruijn32tab", laid_math_bits_deBruijn32tab), ("math/bits.deBruijn64tab", laid_math_bits_deBruijn64tab), ("internal/strconv.uint64pow10", laid_internal_strconv_uint64pow10)] }
def ChartShownSaid : Prop := chartShownRow.holds Tryz.pinned (OpenSpec.ofChange chartShownSpec)

/-- ITS FALSE NEIGHBOUR: 'it returns false'. Refute it at one input. -/
def chartShownWrong : ChangeSpec := { name := "chartShown", fn := fun _ => fun
  | [d1, d2, d3] => { results := [.lit (.bool false)], args := [d1, d2, d3] }
  | _ => none }
def ChartShownWrongFalsely : Prop := chartShownRow.holds Tryz.pinned (OpenSpec.ofChange chartShownWrong)

/-- 'isobarlaw03.ChartMore': WHATEVER THE INPUT: true; the input reads as it did. -/
def chartMoreSpec : ChangeSpec := { name := "chartMore", fn := fun _ => fun
  | [d1, d2, d3, d4, d5] => { results := [.lit (.bool true)], args := [d1, d2, d3, d4, d5] }
  | _ => none }
def chartMoreRow : OpenClaim := { program := "ytdjncbjfejdamaagreatdoor", sum := "263d7e61101aec97cb0161db3146e4ebd24e02c45d32c35154da1638007dd1cc", func := "isobar/isobarlaw03.ChartMore", spec := "chartMore", inPlace := ["internal/abi.NoEscape", "internal/bytealg.MakeNoZero"], unfollowed := true, recurses := true, named := ["internal/strconv.uint64pow10", "math/bits.deBruijn32tab", "math/bits.deBruijn64tab"], plainKeys := false, apart := false, laid := [("math/bits.deBruijn32tab", laid_math_bits_deBruijn32tab), ("math/bits.deBruijn64tab", laid_math_bits_deBruijn64tab), ("internal/strconv.uint64pow10", laid_internal_strconv_uint64pow10)] }
def ChartMoreSaid : Prop := chartMoreRow.holds Tryz.pinned (OpenSpec.ofChange chartMoreSpec)

/-- ITS FALSE NEIGHBOUR: 'it returns false'. Refute it at one input. -/
def chartMoreWrong : ChangeSpec := { name := "chartMore", fn := fun _ => fun
  | [d1, d2, d3, d4, d5] => { results := [.lit (.bool false)], args := [d1, d2, d3, d4, d5] }
  | _ => none }
def ChartMoreWrongFalsely : Prop := chartMoreRow.holds Tryz.pinned (OpenSpec.ofChange chartMoreWrong)

/-- 'isobarlaw03.ChartBounds': WHATEVER THE INPUT: true; the input reads as it did. -/
def chartBoundsSpec : ChangeSpec := { name := "chartBounds", fn := fun _ => fun
  | [d] => { results := [.lit (.bool true)], args := [d] }
  | _ => none }
def chartBoundsRow : OpenClaim := { program := "ytdjncbjfejdamaagreatdoor", sum := "263d7e61101aec97cb0161db3146e4ebd24e02c45d32c35154da1638007dd1cc", func := "isobar/isobarlaw03.ChartBounds", spec := "chartBounds", inPlace := ["internal/abi.NoEscape", "internal/bytealg.MakeNoZero"], unfollowed := true, recurses := true, named := ["internal/strconv.uint64pow10", "math/bits.deBruijn32tab", "math/bits.deBruijn64tab"], plainKeys := false, apart := false, laid := [("math/bits.deBruijn32tab", laid_math_bits_deBruijn32tab), ("math/bits.deBruijn64tab", laid_math_bits_deBruijn64tab), ("internal/strconv.uint64pow10", laid_internal_strconv_uint64pow10)] }
def ChartBoundsSaid : Prop := chartBoundsRow.holds Tryz.pinned (OpenSpec.ofChange chartBoundsSpec)

/-- ITS FALSE NEIGHBOUR: 'it returns false'. Refute it at one input. -/
def chartBoundsWrong : ChangeSpec := { name := "chartBounds", fn := fun _ => fun
  | [d] => { results := [.lit (.bool false)], args := [d] }
  | _ => none }
def ChartBoundsWrongFalsely : Prop := chartBoundsRow.holds Tryz.pinned (OpenSpec.ofChange chartBoundsWrong)

/-- 'isobarlaw03.ChartFits': WHATEVER THE INPUT: true; the input reads as it did. -/
def chartFitsSpec : ChangeSpec := { name := "chartFits", fn := fun _ => fun
  | [d1, d2] => { results := [.lit (.bool true)], args := [d1, d2] }
  | _ => none }
def chartFitsRow : OpenClaim := { program := "ytdjncbjfejdamaagreatdoor", sum := "263d7e61101aec97cb0161db3146e4ebd24e02c45d32c35154da1638007dd1cc", func := "isobar/isobarlaw03.ChartFits", spec := "chartFits", inPlace := ["internal/abi.NoEscape", "internal/bytealg.MakeNoZero"], unfollowed := true, recurses := true, named := ["internal/strconv.uint64pow10", "math/bits.deBruijn32tab", "math/bits.deBruijn64tab"], plainKeys := false, apart := false, laid := [("math/bits.deBruijn32tab", laid_math_bits_deBruijn32tab), ("math/bits.deBruijn64tab", laid_math_bits_deBruijn64tab), ("internal/strconv.uint64pow10", laid_internal_strconv_uint64pow10)] }
def ChartFitsSaid : Prop := chartFitsRow.holds Tryz.pinned (OpenSpec.ofChange chartFitsSpec)

/-- ITS FALSE NEIGHBOUR: 'it returns false'. Refute it at one input. -/
def chartFitsWrong : ChangeSpec := { name := "chartFits", fn := fun _ => fun
  | [d1, d2] => { results := [.lit (.bool false)], args := [d1, d2] }
  | _ => none }
def ChartFitsWrongFalsely : Prop := chartFitsRow.holds Tryz.pinned (OpenSpec.ofChange chartFitsWrong)

/-- 'isobarlaw03.ChartDrawn': WHATEVER THE INPUT: true; the input reads as it did. -/
def chartDrawnSpec : ChangeSpec := { name := "chartDrawn", fn := fun _ => fun
  | [d1, d2, d3] => { results := [.lit (.bool true)], args := [d1, d2, d3] }
  | _ => none }
def chartDrawnRow : OpenClaim := { program := "ytdjncbjfejdamaagreatdoor", sum := "263d7e61101aec97cb0161db3146e4ebd24e02c45d32c35154da1638007dd1cc", func := "isobar/isobarlaw03.ChartDrawn", spec := "chartDrawn", inPlace := ["internal/abi.NoEscape", "internal/bytealg.MakeNoZero"], unfollowed := true, recurses := true, named := ["internal/strconv.uint64pow10", "math/bits.deBruijn32tab", "math/bits.deBruijn64tab"], plainKeys := false, apart := false, laid := [("math/bits.deBruijn32tab", laid_math_bits_deBruijn32tab), ("math/bits.deBruijn64tab", laid_math_bits_deBruijn64tab), ("internal/strconv.uint64pow10", laid_internal_strconv_uint64pow10)] }
def ChartDrawnSaid : Prop := chartDrawnRow.holds Tryz.pinned (OpenSpec.ofChange chartDrawnSpec)

/-- ITS FALSE NEIGHBOUR: 'it returns false'. Refute it at one input. -/
def chartDrawnWrong : ChangeSpec := { name := "chartDrawn", fn := fun _ => fun
  | [d1, d2, d3] => { results := [.lit (.bool false)], args := [d1, d2, d3] }
  | _ => none }
def ChartDrawnWrongFalsely : Prop := chartDrawnRow.holds Tryz.pinned (OpenSpec.ofChange chartDrawnWrong)

/-- 'isobarlaw03.ChartSharp': WHATEVER THE INPUT: true; the input reads as it did. -/
def chartSharpSpec : ChangeSpec := { name := "chartSharp", fn := fun _ => fun
  | [d1, d2, d3] => { results := [.lit (.bool true)], args := [d1, d2, d3] }
  | _ => none }
def chartSharpRow : OpenClaim := { program := "ytdjncbjfejdamaagreatdoor", sum := "263d7e61101aec97cb0161db3146e4ebd24e02c45d32c35154da1638007dd1cc", func := "isobar/isobarlaw03.ChartSharp", spec := "chartSharp", inPlace := ["internal/abi.NoEscape", "internal/bytealg.MakeNoZero"], unfollowed := true, recurses := true, named := ["internal/strconv.uint64pow10", "math/bits.deBruijn32tab", "math/bits.deBruijn64tab"], plainKeys := false, apart := false, laid := [("math/bits.deBruijn32tab", laid_math_bits_deBruijn32tab), ("math/bits.deBruijn64tab", laid_math_bits_deBruijn64tab), ("internal/strconv.uint64pow10", laid_internal_strconv_uint64pow10)] }
def ChartSharpSaid : Prop := chartSharpRow.holds Tryz.pinned (OpenSpec.ofChange chartSharpSpec)

/-- ITS FALSE NEIGHBOUR: 'it returns false'. Refute it at one input. -/
def chartSharpWrong : ChangeSpec := { name := "chartSharp", fn := fun _ => fun
  | [d1, d2, d3] => { results := [.lit (.bool false)], args := [d1, d2, d3] }
  | _ => none }
def ChartSharpWrongFalsely : Prop := chartSharpRow.holds Tryz.pinned (OpenSpec.ofChange chartSharpWrong)

/-- 'isobarlaw03.ChartTrue': WHATEVER THE INPUT: true; the input reads as it did. -/
def chartTrueSpec : ChangeSpec := { name := "chartTrue", fn := fun _ => fun
  | [d1, d2] => { results := [.lit (.bool true)], args := [d1, d2] }
  | _ => none }
def chartTrueRow : OpenClaim := { program := "ytdjncbjfejdamaagreatdoor", sum := "263d7e61101aec97cb0161db3146e4ebd24e02c45d32c35154da1638007dd1cc", func := "isobar/isobarlaw03.ChartTrue", spec := "chartTrue", inPlace := ["internal/abi.NoEscape", "internal/bytealg.MakeNoZero"], unfollowed := true, recurses := true, named := ["internal/strconv.uint64pow10", "math/bits.deBruijn32tab", "math/bits.deBruijn64tab"], plainKeys := false, apart := false, laid := [("math/bits.deBruijn32tab", laid_math_bits_deBruijn32tab), ("math/bits.deBruijn64tab", laid_math_bits_deBruijn64tab), ("internal/strconv.uint64pow10", laid_internal_strconv_uint64pow10)] }
def ChartTrueSaid : Prop := chartTrueRow.holds Tryz.pinned (OpenSpec.ofChange chartTrueSpec)

/-- ITS FALSE NEIGHBOUR: 'it returns false'. Refute it at one input. -/
def chartTrueWrong : ChangeSpec := { name := "chartTrue", fn := fun _ => fun
  | [d1, d2] => { results := [.lit (.bool false)], args := [d1, d2] }
  | _ => none }
def ChartTrueWrongFalsely : Prop := chartTrueRow.holds Tryz.pinned (OpenSpec.ofChange chartTrueWrong)

/-- 'isobarlaw03.ChartSheets': WHATEVER THE INPUT: true; the input reads as it did. -/
def chartSheetsSpec : ChangeSpec := { name := "chartSheets", fn := fun _ => fun
  | [d] => { results := [.lit (.bool true)], args := [d] }
  | _ => none }
def chartSheetsRow : OpenClaim := { program := "ytdjncbjfejdamaagreatdoor", sum := "263d7e61101aec97cb0161db3146e4ebd24e02c45d32c35154da1638007dd1cc", func := "isobar/isobarlaw03.ChartSheets", spec := "chartSheets", inPlace := ["internal/abi.NoEscape", "internal/bytealg.MakeNoZero", "internal/bytealg.CountString", "internal/bytealg.IndexByteString", "internal/bytealg.IndexString"], unfollowed := true, recurses := true, named := ["internal/strconv.uint64pow10", "math/bits.deBruijn32tab", "math/bits.deBruijn64tab", "unicode/utf8.first", "unicode/utf8.acceptRanges", "internal/bytealg.MaxLen"], plainKeys := false, apart := false, laid := [("math/bits.deBruijn32tab", laid_math_bits_deBruijn32tab), ("math/bits.deBruijn64tab", laid_math_bits_deBruijn64tab), ("internal/strconv.uint64pow10", laid_internal_strconv_uint64pow10), ("unicode/utf8.acceptRanges", laid_unicode_utf8_acceptRanges), ("unicode/utf8.first", laid_unicode_utf8_first)] }
def ChartSheetsSaid : Prop := chartSheetsRow.holds Tryz.pinned (OpenSpec.ofChange chartSheetsSpec)

/-- ITS FALSE NEIGHBOUR: 'it returns false'. Refute it at one input. -/
def chartSheetsWrong : ChangeSpec := { name := "chartSheets", fn := fun _ => fun
  | [d] => { results := [.lit (.bool false)], args := [d] }
  | _ => none }
def ChartSheetsWrongFalsely : Prop := chartSheetsRow.holds Tryz.pinned (OpenSpec.ofChange chartSheetsWrong)

/-- 'isobarlaw03.ChartReads': WHATEVER THE INPUT: true; the input reads as it did. -/
def chartReadsSpec : ChangeSpec := { name := "chartReads", fn := fun _ => fun
  | [d] => { results := [.lit (.bool true)], args := [d] }
  | _ => none }
def chartReadsRow : OpenClaim := { program := "ytdjncbjfejdamaagreatdoor", sum := "263d7e61101aec97cb0161db3146e4ebd24e02c45d32c35154da1638007dd1cc", func := "isobar/isobarlaw03.ChartReads", spec := "chartReads", inPlace := ["internal/abi.NoEscape", "internal/bytealg.MakeNoZero", "internal/bytealg.CountString", "internal/bytealg.IndexByteString", "internal/bytealg.IndexString"], unfollowed := true, recurses := true, named := ["internal/strconv.uint64pow10", "math/bits.deBruijn32tab", "math/bits.deBruijn64tab", "unicode/utf8.first", "unicode/utf8.acceptRanges", "internal/bytealg.MaxLen"], plainKeys := false, apart := false, laid := [("math/bits.deBruijn32tab", laid_math_bits_deBruijn32tab), ("math/bits.deBruijn64tab", laid_math_bits_deBruijn64tab), ("internal/strconv.uint64pow10", laid_internal_strconv_uint64pow10), ("unicode/utf8.acceptRanges", laid_unicode_utf8_acceptRanges), ("unicode/utf8.first", laid_unicode_utf8_first)] }
def ChartReadsSaid : Prop := chartReadsRow.holds Tryz.pinned (OpenSpec.ofChange chartReadsSpec)

/-- ITS FALSE NEIGHBOUR: 'it returns false'. Refute it at one input. -/
def chartReadsWrong : ChangeSpec := { name := "chartReads", fn := fun _ => fun
  | [d] => { results := [.lit (.bool false)], args := [d] }
  | _ => none }
def ChartReadsWrongFalsely : Prop := chartReadsRow.holds Tryz.pinned (OpenSpec.ofChange chartReadsWrong)

/-- 'isobarlaw03.ChartSpoilt': WHATEVER THE INPUT: true; the input reads as it did. -/
def chartSpoiltSpec : ChangeSpec := { name := "chartSpoilt", fn := fun _ => fun
  | [d1, d2, d3] => { results := [.lit (.bool true)], args := [d1, d2, d3] }
  | _ => none }
def chartSpoiltRow : OpenClaim := { program := "ytdjncbjfejdamaagreatdoor", sum := "263d7e61101aec97cb0161db3146e4ebd24e02c45d32c35154da1638007dd1cc", func := "isobar/isobarlaw03.ChartSpoilt", spec := "chartSpoilt", inPlace := ["internal/abi.NoEscape", "internal/bytealg.MakeNoZero", "internal/bytealg.CountString", "internal/bytealg.IndexByteString", "internal/bytealg.IndexString"], unfollowed := true, recurses := true, named := ["internal/strconv.uint64pow10", "math/bits.deBruijn32tab", "math/bits.deBruijn64tab", "unicode/utf8.first", "unicode/utf8.acceptRanges", "internal/bytealg.MaxLen"], plainKeys := false, apart := false, laid := [("math/bits.deBruijn32tab", laid_math_bits_deBruijn32tab), ("math/bits.deBruijn64tab", laid_math_bits_deBruijn64tab), ("internal/strconv.uint64pow10", laid_internal_strconv_uint64pow10), ("unicode/utf8.acceptRanges", laid_unicode_utf8_acceptRanges), ("unicode/utf8.first", laid_unicode_utf8_first)] }
def ChartSpoiltSaid : Prop := chartSpoiltRow.holds Tryz.pinned (OpenSpec.ofChange chartSpoiltSpec)

/-- ITS FALSE NEIGHBOUR: 'it returns false'. Refute it at one input. -/
def chartSpoiltWrong : ChangeSpec := { name := "chartSpoilt", fn := fun _ => fun
  | [d1, d2, d3] => { results := [.lit (.bool false)], args := [d1, d2, d3] }
  | _ => none }
def ChartSpoiltWrongFalsely : Prop := chartSpoiltRow.holds Tryz.pinned (OpenSpec.ofChange chartSpoiltWrong)

/- THE SECOND FORM. 'bulk': how many values and letters a reading holds, each counted each time it is reached (what is shared counts as often as it is met; a slice's spare places count too). A statement '..UptoSaid' is the law's where the arguments, and the package variables that the reading takes, are together of bulk at most 1048576: NARROWER than '..Said'. Prove '..Said' where nothing that the law and all that it calls make is longer than what came in: it says more and counts as full. Else prove '..UptoSaid'. A law counts once. -/
mutual
def uptoBulk {H : Type} : DataW H → Nat
  | .lit (.string bytes) => bytes.length + 1
  | .lit _ => 1
  | .nil => 1
  | .ptr d => uptoBulk d + 1
  | .slice elems spare => uptoBulkAll elems + uptoBulkAll spare + 1
  | .agg parts => uptoBulkAll parts + 1
  | .iface _ d => uptoBulk d + 1
  | .map entries => uptoBulkEntries entries + 1
  | .held _ => 1
def uptoBulkAll {H : Type} : List (DataW H) → Nat
  | [] => 0
  | d :: r => uptoBulk d + uptoBulkAll r
def uptoBulkEntries {H : Type} : List (Lit × DataW H) → Nat
  | [] => 0
  | x :: r => uptoBulkEntry x + uptoBulkEntries r
def uptoBulkEntry {H : Type} : Lit × DataW H → Nat
  | (.string bytes, d) => bytes.length + uptoBulk d + 1
  | (_, d) => uptoBulk d + 1
 end
def uptoSmall : (H : Type) → List (DataW H) → Bool := fun _ ds => decide (uptoBulkAll ds ≤ 1048576)
def OpenSpec.upto (s : _root_.Go.ChangeSpec) : _root_.Go.OpenSpec := { _root_.Go.OpenSpec.ofChange s with cond := some uptoSmall }

/-- 'isobarlaw03.ChartDraws', WHERE WHAT IT READS IS OF BULK AT MOST 1048576: true; the input reads as it did. -/
def chartDrawsUptoRow : OpenClaim := { program := "ytdjncbjfejdamaagreatdoor", sum := "263d7e61101aec97cb0161db3146e4ebd24e02c45d32c35154da1638007dd1cc", func := "isobar/isobarlaw03.ChartDraws", spec := "chartDraws", inPlace := ["internal/abi.NoEscape", "internal/bytealg.MakeNoZero"], unfollowed := true, recurses := true, named := ["internal/strconv.uint64pow10", "math/bits.deBruijn32tab", "math/bits.deBruijn64tab"], plainKeys := false, apart := false, laid := [("math/bits.deBruijn32tab", laid_math_bits_deBruijn32tab), ("math/bits.deBruijn64tab", laid_math_bits_deBruijn64tab), ("internal/strconv.uint64pow10", laid_internal_strconv_uint64pow10)], narrowed := true }
def ChartDrawsUptoSaid : Prop := chartDrawsUptoRow.holds Tryz.pinned (OpenSpec.upto chartDrawsSpec)

/-- 'isobarlaw03.ChartLines', WHERE WHAT IT READS IS OF BULK AT MOST 1048576: true; the input reads as it did. -/
def chartLinesUptoRow : OpenClaim := { program := "ytdjncbjfejdamaagreatdoor", sum := "263d7e61101aec97cb0161db3146e4ebd24e02c45d32c35154da1638007dd1cc", func := "isobar/isobarlaw03.ChartLines", spec := "chartLines", inPlace := ["internal/abi.NoEscape", "internal/bytealg.MakeNoZero"], unfollowed := true, recurses := true, named := ["internal/strconv.uint64pow10", "math/bits.deBruijn32tab", "math/bits.deBruijn64tab"], plainKeys := false, apart := false, laid := [("math/bits.deBruijn32tab", laid_math_bits_deBruijn32tab), ("math/bits.deBruijn64tab", laid_math_bits_deBruijn64tab), ("internal/strconv.uint64pow10", laid_internal_strconv_uint64pow10)], narrowed := true }
def ChartLinesUptoSaid : Prop := chartLinesUptoRow.holds Tryz.pinned (OpenSpec.upto chartLinesSpec)

/-- 'isobarlaw03.ChartWhole', WHERE WHAT IT READS IS OF BULK AT MOST 1048576: true; the input reads as it did. -/
def chartWholeUptoRow : OpenClaim := { program := "ytdjncbjfejdamaagreatdoor", sum := "263d7e61101aec97cb0161db3146e4ebd24e02c45d32c35154da1638007dd1cc", func := "isobar/isobarlaw03.ChartWhole", spec := "chartWhole", inPlace := ["internal/abi.NoEscape", "internal/bytealg.MakeNoZero"], unfollowed := true, recurses := true, named := ["internal/strconv.uint64pow10", "math/bits.deBruijn32tab", "math/bits.deBruijn64tab"], plainKeys := false, apart := false, laid := [("math/bits.deBruijn32tab", laid_math_bits_deBruijn32tab), ("math/bits.deBruijn64tab", laid_math_bits_deBruijn64tab), ("internal/strconv.uint64pow10", laid_internal_strconv_uint64pow10)], narrowed := true }
def ChartWholeUptoSaid : Prop := chartWholeUptoRow.holds Tryz.pinned (OpenSpec.upto chartWholeSpec)

/-- 'isobarlaw03.ChartApart', WHERE WHAT IT READS IS OF BULK AT MOST 1048576: true; the input reads as it did. -/
def chartApartUptoRow : OpenClaim := { program := "ytdjncbjfejdamaagreatdoor", sum := "263d7e61101aec97cb0161db3146e4ebd24e02c45d32c35154da1638007dd1cc", func := "isobar/isobarlaw03.ChartApart", spec := "chartApart", inPlace := ["internal/abi.NoEscape", "internal/bytealg.MakeNoZero"], unfollowed := true, recurses := true, named := ["internal/strconv.uint64pow10", "math/bits.deBruijn32tab", "math/bits.deBruijn64tab"], plainKeys := false, apart := false, laid := [("math/bits.deBruijn32tab", laid_math_bits_deBruijn32tab), ("math/bits.deBruijn64tab", laid_math_bits_deBruijn64tab), ("internal/strconv.uint64pow10", laid_internal_strconv_uint64pow10)], narrowed := true }
def ChartApartUptoSaid : Prop := chartApartUptoRow.holds Tryz.pinned (OpenSpec.upto chartApartSpec)

/-- 'isobarlaw03.ChartWords', WHERE WHAT IT READS IS OF BULK AT MOST 1048576: true; the input reads as it did. -/
def chartWordsUptoRow : OpenClaim := { program := "ytdjncbjfejdamaagreatdoor", sum := "263d7e61101aec97cb0161db3146e4ebd24e02c45d32c35154da1638007dd1cc", func := "isobar/isobarlaw03.ChartWords", spec := "chartWords", inPlace := ["internal/abi.NoEscape", "internal/bytealg.MakeNoZero"], unfollowed := true, recurses := true, named := ["internal/strconv.uint64pow10", "math/bits.deBruijn32tab", "math/bits.deBruijn64tab"], plainKeys := false, apart := false, laid := [("math/bits.deBruijn32tab", laid_math_bits_deBruijn32tab), ("math/bits.deBruijn64tab", laid_math_bits_deBruijn64tab), ("internal/strconv.uint64pow10", laid_internal_strconv_uint64pow10)], narrowed := true }
def ChartWordsUptoSaid : Prop := chartWordsUptoRow.holds Tryz.pinned (OpenSpec.upto chartWordsSpec)

/-- 'isobarlaw03.ChartClosed', WHERE WHAT IT READS IS OF BULK AT MOST 1048576: true; the input reads as it did. -/
def chartClosedUptoRow : OpenClaim := { program := "ytdjncbjfejdamaagreatdoor", sum := "263d7e61101aec97cb0161db3146e4ebd24e02c45d32c35154da1638007dd1cc", func := "isobar/isobarlaw03.ChartClosed", spec := "chartClosed", inPlace := ["internal/abi.NoEscape", "internal/bytealg.MakeNoZero"], unfollowed := true, recurses := true, named := ["internal/strconv.uint64pow10", "math/bits.deBruijn32tab", "math/bits.deBruijn64tab"], plainKeys := false, apart := false, laid := [("math/bits.deBruijn32tab", laid_math_bits_deBruijn32tab), ("math/bits.deBruijn64tab", laid_math_bits_deBruijn64tab), ("internal/strconv.uint64pow10", laid_internal_strconv_uint64pow10)], narrowed := true }
def ChartClosedUptoSaid : Prop := chartClosedUptoRow.holds Tryz.pinned (OpenSpec.upto chartClosedSpec)

/-- 'isobarlaw03.ChartClashes', WHERE WHAT IT READS IS OF BULK AT MOST 1048576: true; the input reads as it did. -/
def chartClashesUptoRow : OpenClaim := { program := "ytdjncbjfejdamaagreatdoor", sum := "263d7e61101aec97cb0161db3146e4ebd24e02c45d32c35154da1638007dd1cc", func := "isobar/isobarlaw03.ChartClashes", spec := "chartClashes", inPlace := ["internal/abi.NoEscape", "internal/bytealg.MakeNoZero"], unfollowed := true, recurses := true, named := ["internal/strconv.uint64pow10", "math/bits.deBruijn32tab", "math/bits.deBruijn64tab"], plainKeys := false, apart := false, laid := [("math/bits.deBruijn32tab", laid_math_bits_deBruijn32tab), ("math/bits.deBruijn64tab", laid_math_bits_deBruijn64tab), ("internal/strconv.uint64pow10", laid_internal_strconv_uint64pow10)], narrowed := true }
def ChartClashesUptoSaid : Prop := chartClashesUptoRow.holds Tryz.pinned (OpenSpec.upto chartClashesSpec)

/-- 'isobarlaw03.ChartShown', WHERE WHAT IT READS IS OF BULK AT MOST 1048576: true; the input reads as it did. -/
def chartShownUptoRow : OpenClaim := { program := "ytdjncbjfejdamaagreatdoor", sum := "263d7e61101aec97cb0161db3146e4ebd24e02c45d32c35154da1638007dd1cc", func := "isobar/isobarlaw03.ChartShown", spec := "chartShown", inPlace := ["internal/abi.NoEscape", "internal/bytealg.MakeNoZero"], unfollowed := true, recurses := true, named := ["internal/strconv.uint64pow10", "math/bits.deBruijn32tab", "math/bits.deBruijn64tab"], plainKeys := false, apart := false, laid := [("math/bits.deBruijn32tab", laid_math_bits_deBruijn32tab), ("math/bits.deBruijn64tab", laid_math_bits_deBruijn64tab), ("internal/strconv.uint64pow10", laid_internal_strconv_uint64pow10)], narrowed := true }
def ChartShownUptoSaid : Prop := chartShownUptoRow.holds Tryz.pinned (OpenSpec.upto chartShownSpec)

/-- 'isobarlaw03.ChartMore', WHERE WHAT IT READS IS OF BULK AT MOST 1048576: true; the input reads as it did. -/
def chartMoreUptoRow : OpenClaim := { program := "ytdjncbjfejdamaagreatdoor", sum := "263d7e61101aec97cb0161db3146e4ebd24e02c45d32c35154da1638007dd1cc", func := "isobar/isobarlaw03.ChartMore", spec := "chartMore", inPlace := ["internal/abi.NoEscape", "internal/bytealg.MakeNoZero"], unfollowed := true, recurses := true, named := ["internal/strconv.uint64pow10", "math/bits.deBruijn32tab", "math/bits.deBruijn64tab"], plainKeys := false, apart := false, laid := [("math/bits.deBruijn32tab", laid_math_bits_deBruijn32tab), ("math/bits.deBruijn64tab", laid_math_bits_deBruijn64tab), ("internal/strconv.uint64pow10", laid_internal_strconv_uint64pow10)], narrowed := true }
def ChartMoreUptoSaid : Prop := chartMoreUptoRow.holds Tryz.pinned (OpenSpec.upto chartMoreSpec)

/-- 'isobarlaw03.ChartBounds', WHERE WHAT IT READS IS OF BULK AT MOST 1048576: true; the input reads as it did. -/
def chartBoundsUptoRow : OpenClaim := { program := "ytdjncbjfejdamaagreatdoor", sum := "263d7e61101aec97cb0161db3146e4ebd24e02c45d32c35154da1638007dd1cc", func := "isobar/isobarlaw03.ChartBounds", spec := "chartBounds", inPlace := ["internal/abi.NoEscape", "internal/bytealg.MakeNoZero"], unfollowed := true, recurses := true, named := ["internal/strconv.uint64pow10", "math/bits.deBruijn32tab", "math/bits.deBruijn64tab"], plainKeys := false, apart := false, laid := [("math/bits.deBruijn32tab", laid_math_bits_deBruijn32tab), ("math/bits.deBruijn64tab", laid_math_bits_deBruijn64tab), ("internal/strconv.uint64pow10", laid_internal_strconv_uint64pow10)], narrowed := true }
def ChartBoundsUptoSaid : Prop := chartBoundsUptoRow.holds Tryz.pinned (OpenSpec.upto chartBoundsSpec)

/-- 'isobarlaw03.ChartFits', WHERE WHAT IT READS IS OF BULK AT MOST 1048576: true; the input reads as it did. -/
def chartFitsUptoRow : OpenClaim := { program := "ytdjncbjfejdamaagreatdoor", sum := "263d7e61101aec97cb0161db3146e4ebd24e02c45d32c35154da1638007dd1cc", func := "isobar/isobarlaw03.ChartFits", spec := "chartFits", inPlace := ["internal/abi.NoEscape", "internal/bytealg.MakeNoZero"], unfollowed := true, recurses := true, named := ["internal/strconv.uint64pow10", "math/bits.deBruijn32tab", "math/bits.deBruijn64tab"], plainKeys := false, apart := false, laid := [("math/bits.deBruijn32tab", laid_math_bits_deBruijn32tab), ("math/bits.deBruijn64tab", laid_math_bits_deBruijn64tab), ("internal/strconv.uint64pow10", laid_internal_strconv_uint64pow10)], narrowed := true }
def ChartFitsUptoSaid : Prop := chartFitsUptoRow.holds Tryz.pinned (OpenSpec.upto chartFitsSpec)

/-- 'isobarlaw03.ChartDrawn', WHERE WHAT IT READS IS OF BULK AT MOST 1048576: true; the input reads as it did. -/
def chartDrawnUptoRow : OpenClaim := { program := "ytdjncbjfejdamaagreatdoor", sum := "263d7e61101aec97cb0161db3146e4ebd24e02c45d32c35154da1638007dd1cc", func := "isobar/isobarlaw03.ChartDrawn", spec := "chartDrawn", inPlace := ["internal/abi.NoEscape", "internal/bytealg.MakeNoZero"], unfollowed := true, recurses := true, named := ["internal/strconv.uint64pow10", "math/bits.deBruijn32tab", "math/bits.deBruijn64tab"], plainKeys := false, apart := false, laid := [("math/bits.deBruijn32tab", laid_math_bits_deBruijn32tab), ("math/bits.deBruijn64tab", laid_math_bits_deBruijn64tab), ("internal/strconv.uint64pow10", laid_internal_strconv_uint64pow10)], narrowed := true }
def ChartDrawnUptoSaid : Prop := chartDrawnUptoRow.holds Tryz.pinned (OpenSpec.upto chartDrawnSpec)

/-- 'isobarlaw03.ChartSharp', WHERE WHAT IT READS IS OF BULK AT MOST 1048576: true; the input reads as it did. -/
def chartSharpUptoRow : OpenClaim := { program := "ytdjncbjfejdamaagreatdoor", sum := "263d7e61101aec97cb0161db3146e4ebd24e02c45d32c35154da1638007dd1cc", func := "isobar/isobarlaw03.ChartSharp", spec := "chartSharp", inPlace := ["internal/abi.NoEscape", "internal/bytealg.MakeNoZero"], unfollowed := true, recurses := true, named := ["internal/strconv.uint64pow10", "math/bits.deBruijn32tab", "math/bits.deBruijn64tab"], plainKeys := false, apart := false, laid := [("math/bits.deBruijn32tab", laid_math_bits_deBruijn32tab), ("math/bits.deBruijn64tab", laid_math_bits_deBruijn64tab), ("internal/strconv.uint64pow10", laid_internal_strconv_uint64pow10)], narrowed := true }
def ChartSharpUptoSaid : Prop := chartSharpUptoRow.holds Tryz.pinned (OpenSpec.upto chartSharpSpec)

/-- 'isobarlaw03.ChartTrue', WHERE WHAT IT READS IS OF BULK AT MOST 1048576: true; the input reads as it did. -/
def chartTrueUptoRow : OpenClaim := { program := "ytdjncbjfejdamaagreatdoor", sum := "263d7e61101aec97cb0161db3146e4ebd24e02c45d32c35154da1638007dd1cc", func := "isobar/isobarlaw03.ChartTrue", spec := "chartTrue", inPlace := ["internal/abi.NoEscape", "internal/bytealg.MakeNoZero"], unfollowed := true, recurses := true, named := ["internal/strconv.uint64pow10", "math/bits.deBruijn32tab", "math/bits.deBruijn64tab"], plainKeys := false, apart := false, laid := [("math/bits.deBruijn32tab", laid_math_bits_deBruijn32tab), ("math/bits.deBruijn64tab", laid_math_bits_deBruijn64tab), ("internal/strconv.uint64pow10", laid_internal_strconv_uint64pow10)], narrowed := true }
def ChartTrueUptoSaid : Prop := chartTrueUptoRow.holds Tryz.pinned (OpenSpec.upto chartTrueSpec)

/-- 'isobarlaw03.ChartSheets', WHERE WHAT IT READS IS OF BULK AT MOST 1048576: true; the input reads as it did. -/
def chartSheetsUptoRow : OpenClaim := { program := "ytdjncbjfejdamaagreatdoor", sum := "263d7e61101aec97cb0161db3146e4ebd24e02c45d32c35154da1638007dd1cc", func := "isobar/isobarlaw03.ChartSheets", spec := "chartSheets", inPlace := ["internal/abi.NoEscape", "internal/bytealg.MakeNoZero", "internal/bytealg.CountString", "internal/bytealg.IndexByteString", "internal/bytealg.IndexString"], unfollowed := true, recurses := true, named := ["internal/strconv.uint64pow10", "math/bits.deBruijn32tab", "math/bits.deBruijn64tab", "unicode/utf8.first", "unicode/utf8.acceptRanges", "internal/bytealg.MaxLen"], plainKeys := false, apart := false, laid := [("math/bits.deBruijn32tab", laid_math_bits_deBruijn32tab), ("math/bits.deBruijn64tab", laid_math_bits_deBruijn64tab), ("internal/strconv.uint64pow10", laid_internal_strconv_uint64pow10), ("unicode/utf8.acceptRanges", laid_unicode_utf8_acceptRanges), ("unicode/utf8.first", laid_unicode_utf8_first)], narrowed := true }
def ChartSheetsUptoSaid : Prop := chartSheetsUptoRow.holds Tryz.pinned (OpenSpec.upto chartSheetsSpec)

/-- 'isobarlaw03.ChartReads', WHERE WHAT IT READS IS OF BULK AT MOST 1048576: true; the input reads as it did. -/
def chartReadsUptoRow : OpenClaim := { program := "ytdjncbjfejdamaagreatdoor", sum := "263d7e61101aec97cb0161db3146e4ebd24e02c45d32c35154da1638007dd1cc", func := "isobar/isobarlaw03.ChartReads", spec := "chartReads", inPlace := ["internal/abi.NoEscape", "internal/bytealg.MakeNoZero", "internal/bytealg.CountString", "internal/bytealg.IndexByteString", "internal/bytealg.IndexString"], unfollowed := true, recurses := true, named := ["internal/strconv.uint64pow10", "math/bits.deBruijn32tab", "math/bits.deBruijn64tab", "unicode/utf8.first", "unicode/utf8.acceptRanges", "internal/bytealg.MaxLen"], plainKeys := false, apart := false, laid := [("math/bits.deBruijn32tab", laid_math_bits_deBruijn32tab), ("math/bits.deBruijn64tab", laid_math_bits_deBruijn64tab), ("internal/strconv.uint64pow10", laid_internal_strconv_uint64pow10), ("unicode/utf8.acceptRanges", laid_unicode_utf8_acceptRanges), ("unicode/utf8.first", laid_unicode_utf8_first)], narrowed := true }
def ChartReadsUptoSaid : Prop := chartReadsUptoRow.holds Tryz.pinned (OpenSpec.upto chartReadsSpec)

/-- 'isobarlaw03.ChartSpoilt', WHERE WHAT IT READS IS OF BULK AT MOST 1048576: true; the input reads as it did. -/
def chartSpoiltUptoRow : OpenClaim := { program := "ytdjncbjfejdamaagreatdoor", sum := "263d7e61101aec97cb0161db3146e4ebd24e02c45d32c35154da1638007dd1cc", func := "isobar/isobarlaw03.ChartSpoilt", spec := "chartSpoilt", inPlace := ["internal/abi.NoEscape", "internal/bytealg.MakeNoZero", "internal/bytealg.CountString", "internal/bytealg.IndexByteString", "internal/bytealg.IndexString"], unfollowed := true, recurses := true, named := ["internal/strconv.uint64pow10", "math/bits.deBruijn32tab", "math/bits.deBruijn64tab", "unicode/utf8.first", "unicode/utf8.acceptRanges", "internal/bytealg.MaxLen"], plainKeys := false, apart := false, laid := [("math/bits.deBruijn32tab", laid_math_bits_deBruijn32tab), ("math/bits.deBruijn64tab", laid_math_bits_deBruijn64tab), ("internal/strconv.uint64pow10", laid_internal_strconv_uint64pow10), ("unicode/utf8.acceptRanges", laid_unicode_utf8_acceptRanges), ("unicode/utf8.first", laid_unicode_utf8_first)], narrowed := true }
def ChartSpoiltUptoSaid : Prop := chartSpoiltUptoRow.holds Tryz.pinned (OpenSpec.upto chartSpoiltSpec)

end Rows
end Go.Proofs.YtdjncbjfejdamaaGreatDoor
