/-
  NARROWER THAN 'FOR EVERY INPUT', by the rows' own cells (each row's printed sentence says how): WireCoulds: laid · WireRestores: laid · WireClashes: laid · WireShown: laid · WireDoubts: laid · WireRepeats: laid · WireLooks: laid · WireCosts: laid · WireRouted: laid · WireMore: laid · WireSends: laid · WireCans: laid · WireTrue: laid · WirePacks: laid · WirePacked: laid · WirePrints: laid · WireReads: laid · WireSpoilt: laid.
  DERIVED. THE GIVEN ROWS OF THIS SEAT. 18 by the template 'for every input the law returns true; each argument reads behind the call as it read before'; 0 by the template 'total and deterministic' (their statements: YtaphehlgijlfeaaGreatDoorTotals.lean).
  GIVEN WITH THE SEED: the statements are not yours to turn. If you find one false, say at which input.
  Laid BY PROGRAM, IN A SANDBOX (cutbox-rows.mjs): the forced cells as the released guide's own fill.sh prints them over the translation 8b7bc57171eaafd0… (all of the seat's roots in one cut). By AI agents, Wed Nov 11 2026. No macro, syntax, notation, axiom, sorry.
-/
import Derived.Test.YtaphehlgijlfeaaGreatDoorChecked
import GoSem.PinnedTables
import GoSem.Claim
import GoSem.ClaimJoined
import GoSem.ClaimMapViews
import Derived.JoinedTies
import Derived.KernelRfl
namespace Go.Proofs.YtaphehlgijlfeaaGreatDoor
/- THE CELL 'sum', in the pinned program and in every row, IS THE sha256 OF THE DUMP (.gsa) THAT YtaphehlgijlfeaaGreatDoorProg.lean LOADS. Nothing in Lean hashes anything: it is a label: what it is worth is what the hold of that sum in a sandbox is worth. -/
noncomputable def Tryz.pinned : Pinned := { name := "ytaphehlgijlfeaagreatdoor", sum := "8b7bc57171eaafd076127c17976fb27299b93e8ea2e92826c25e4d61aff03e8e", checked := Tryz.checked }
namespace Rows
def none {H : Type} : Left H := { results := [], args := [] }

/- WHAT THE LISTED PACKAGE-LEVEL VARIABLES READ AS WHEN THE CALL BEGINS. Each datum BY PROGRAM (the guide's laid-datum.mjs) off the statement by which the dump's own 'gosem.cut.vars' lays the variable. In a bare row this is a premise. The card (YtaphehlgijlfeaaGreatDoorCards.lean) ties it to the program's text. -/
def laid_math_bits_deBruijn32tab {H : Type} : DataW H := .agg [.lit (.int .u8 0), .lit (.int .u8 1), .lit (.int .u8 28), .lit (.int .u8 2), .lit (.int .u8 29), .lit (.int .u8 14), .lit (.int .u8 24), .lit (.int .u8 3), .lit (.int .u8 30), .lit (.int .u8 22), .lit (.int .u8 20), .lit (.int .u8 15), .lit (.int .u8 25), .lit (.int .u8 17), .lit (.int .u8 4), .lit (.int .u8 8), .lit (.int .u8 31), .lit (.int .u8 27), .lit (.int .u8 13), .lit (.int .u8 23), .lit (.int .u8 21), .lit (.int .u8 19), .lit (.int .u8 16), .lit (.int .u8 7), .lit (.int .u8 26), .lit (.int .u8 12), .lit (.int .u8 18), .lit (.int .u8 6), .lit (.int .u8 11), .lit (.int .u8 5), .lit (.int .u8 10), .lit (.int .u8 9)]
def laid_math_bits_deBruijn64tab {H : Type} : DataW H := .agg [.lit (.int .u8 0), .lit (.int .u8 1), .lit (.int .u8 56), .lit (.int .u8 2), .lit (.int .u8 57), .lit (.int .u8 49), .lit (.int .u8 28), .lit (.int .u8 3), .lit (.int .u8 61), .lit (.int .u8 58), .lit (.int .u8 42), .lit (.int .u8 50), .lit (.int .u8 38), .lit (.int .u8 29), .lit (.int .u8 17), .lit (.int .u8 4), .lit (.int .u8 62), .lit (.int .u8 47), .lit (.int .u8 59), .lit (.int .u8 36), .lit (.int .u8 45), .lit (.int .u8 43), .lit (.int .u8 51), .lit (.int .u8 22), .lit (.int .u8 53), .lit (.int .u8 39), .lit (.int .u8 33), .lit (.int .u8 30), .lit (.int .u8 24), .lit (.int .u8 18), .lit (.int .u8 12), .lit (.int .u8 5), .lit (.int .u8 63), .lit (.int .u8 55), .lit (.int .u8 48), .lit (.int .u8 27), .lit (.int .u8 60), .lit (.int .u8 41), .lit (.int .u8 37), .lit (.int .u8 16), .lit (.int .u8 46), .lit (.int .u8 35), .lit (.int .u8 44), .lit (.int .u8 21), .lit (.int .u8 52), .lit (.int .u8 32), .lit (.int .u8 23), .lit (.int .u8 11), .lit (.int .u8 54), .lit (.int .u8 26), .lit (.int .u8 40), .lit (.int .u8 15), .lit (.int .u8 34), .lit (.int .u8 20), .lit (.int .u8 31), .lit (.int .u8 10), .lit (.int .u8 25), .lit (.int .u8 14), .lit (.int .u8 19), .lit (.int .u8 9), .lit (.int .u8 13), .lit (.int .u8 8), .lit (.int .u8 7), .lit (.int .u8 6)]
def laid_internal_strconv_uint64pow10 {H : Type} : DataW H := .agg [.lit (.int .u64 1), .lit (.int .u64 10), .lit (.int .u64 100), .lit (.int .u64 1000), .lit (.int .u64 10000), .lit (.int .u64 100000), .lit (.int .u64 1000000), .lit (.int .u64 10000000), .lit (.int .u64 100000000), .lit (.int .u64 1000000000), .lit (.int .u64 10000000000), .lit (.int .u64 100000000000), .lit (.int .u64 1000000000000), .lit (.int .u64 10000000000000), .lit (.int .u64 100000000000000), .lit (.int .u64 1000000000000000), .lit (.int .u64 10000000000000000), .lit (.int .u64 100000000000000000), .lit (.int .u64 1000000000000000000), .lit (.int .u64 10000000000000000000)]
def laid_unicode_utf8_acceptRanges {H : Type} : DataW H := .agg [.agg [.lit (.int .u8 128), .lit (.int .u8 191)], .agg [.lit (.int .u8 160), .lit (.int .u8 191)], .agg [.lit (.int .u8 128), .lit (.int .u8 159)], .agg [.lit (.int .u8 144), .lit (.int .u8 191)], .agg [.lit (.int .u8 128), .lit (.int .u8 143)], .agg [.lit (.int .u8 0), .lit (.int .u8 0)], .agg [.lit (.int .u8 0), .lit (.int .u8 0)], .agg [.lit (.int .u8 0), .lit (.int .u8 0)], .agg [.lit (.int .u8 0), .lit (.int .u8 0)], .agg [.lit (.int .u8 0), .lit (.int .u8 0)], .agg [.lit (.int .u8 0), .lit (.int .u8 0)], .agg [.lit (.int .u8 0), .lit (.int .u8 0)], .agg [.lit (.int .u8 0), .lit (.int .u8 0)], .agg [.lit (.int .u8 0), .lit (.int .u8 0)], .agg [.lit (.int .u8 0), .lit (.int .u8 0)], .agg [.lit (.int .u8 0), .lit (.int .u8 0)]]
def laid_strconv_ErrRange {H : Type} : DataW H := .iface "*errors.errorString" (.ptr (.agg [.lit (.string [118, 97, 108, 117, 101, 32, 111, 117, 116, 32, 111, 102, 32, 114, 97, 110, 103, 101])]))
def laid_strconv_ErrSyntax {H : Type} : DataW H := .iface "*errors.errorString" (.ptr (.agg [.lit (.string [105, 110, 118, 97, 108, 105, 100, 32, 115, 121, 110, 116, 97, 120])]))
/-- One of Go's own tables, pinned by name: the form's constant. -/
def laid_unicode_utf8_first : DataW Unit := Go.Pinned.utf8First

/-- 'isobarlaw02.WireCoulds': WHATEVER THE INPUT: true; the input reads as it did. -/
def wireCouldsSpec : ChangeSpec := { name := "wireCoulds", fn := fun _ => fun
  | [d1, d2] => { results := [.lit (.bool true)], args := [d1, d2] }
  | _ => none }
def wireCouldsRow : OpenClaim := { program := "ytaphehlgijlfeaagreatdoor", sum := "8b7bc57171eaafd076127c17976fb27299b93e8ea2e92826c25e4d61aff03e8e", func := "isobar/isobarlaw02.WireCoulds", spec := "wireCoulds", inPlace := ["internal/abi.NoEscape", "internal/bytealg.MakeNoZero"], unfollowed := true, recurses := true, named := ["internal/strconv.uint64pow10", "math/bits.deBruijn32tab", "math/bits.deBruijn64tab"], plainKeys := false, apart := false, laid := [("math/bits.deBruijn32tab", laid_math_bits_deBruijn32tab), ("math/bits.deBruijn64tab", laid_math_bits_deBruijn64tab), ("internal/strconv.uint64pow10", laid_internal_strconv_uint64pow10)] }
def WireCouldsSaid : Prop := wireCouldsRow.holds Tryz.pinned (OpenSpec.ofChange wireCouldsSpec)

/-- ITS FALSE NEIGHBOUR: 'it returns false'. Refute it at one input. -/
def wireCouldsWrong : ChangeSpec := { name := "wireCoulds", fn := fun _ => fun
  | [d1, d2] => { results := [.lit (.bool false)], args := [d1, d2] }
  | _ => none }
def WireCouldsWrongFalsely : Prop := wireCouldsRow.holds Tryz.pinned (OpenSpec.ofChange wireCouldsWrong)

/-- 'isobarlaw02.WireRestores': WHATEVER THE INPUT: true; the input reads as it did. -/
def wireRestoresSpec : ChangeSpec := { name := "wireRestores", fn := fun _ => fun
  | [d1, d2, d3, d4, d5, d6, d7] => { results := [.lit (.bool true)], args := [d1, d2, d3, d4, d5, d6, d7] }
  | _ => none }
def wireRestoresRow : OpenClaim := { program := "ytaphehlgijlfeaagreatdoor", sum := "8b7bc57171eaafd076127c17976fb27299b93e8ea2e92826c25e4d61aff03e8e", func := "isobar/isobarlaw02.WireRestores", spec := "wireRestores", inPlace := ["internal/abi.NoEscape", "internal/bytealg.MakeNoZero"], unfollowed := true, recurses := true, named := ["internal/strconv.uint64pow10", "math/bits.deBruijn32tab", "math/bits.deBruijn64tab"], plainKeys := false, apart := false, laid := [("math/bits.deBruijn32tab", laid_math_bits_deBruijn32tab), ("math/bits.deBruijn64tab", laid_math_bits_deBruijn64tab), ("internal/strconv.uint64pow10", laid_internal_strconv_uint64pow10)] }
def WireRestoresSaid : Prop := wireRestoresRow.holds Tryz.pinned (OpenSpec.ofChange wireRestoresSpec)

/-- ITS FALSE NEIGHBOUR: 'it returns false'. Refute it at one input. -/
def wireRestoresWrong : ChangeSpec := { name := "wireRestores", fn := fun _ => fun
  | [d1, d2, d3, d4, d5, d6, d7] => { results := [.lit (.bool false)], args := [d1, d2, d3, d4, d5, d6, d7] }
  | _ => none }
def WireRestoresWrongFalsely : Prop := wireRestoresRow.holds Tryz.pinned (OpenSpec.ofChange wireRestoresWrong)

/-- 'isobarlaw02.WireClashes': WHATEVER THE INPUT: true; the input reads as it did. -/
def wireClashesSpec : ChangeSpec := { name := "wireClashes", fn := fun _ => fun
  | [d1, d2] => { results := [.lit (.bool true)], args := [d1, d2] }
  | _ => none }
def wireClashesRow : OpenClaim := { program := "ytaphehlgijlfeaagreatdoor", sum := "8b7bc57171eaafd076127c17976fb27299b93e8ea2e92826c25e4d61aff03e8e", func := "isobar/isobarlaw02.WireClashes", spec := "wireClashes", inPlace := ["internal/abi.NoEscape", "internal/bytealg.MakeNoZero"], unfollowed := true, recurses := true, named := ["internal/strconv.uint64pow10", "math/bits.deBruijn32tab", "math/bits.deBruijn64tab"], plainKeys := false, apart := false, laid := [("math/bits.deBruijn32tab", laid_math_bits_deBruijn32tab), ("math/bits.deBruijn64tab", laid_math_bits_deBruijn64tab), ("internal/strconv.uint64pow10", laid_internal_strconv_uint64pow10)] }
def WireClashesSaid : Prop := wireClashesRow.holds Tryz.pinned (OpenSpec.ofChange wireClashesSpec)

/-- ITS FALSE NEIGHBOUR: 'it returns false'. Refute it at one input. -/
def wireClashesWrong : ChangeSpec := { name := "wireClashes", fn := fun _ => fun
  | [d1, d2] => { results := [.lit (.bool false)], args := [d1, d2] }
  | _ => none }
def WireClashesWrongFalsely : Prop := wireClashesRow.holds Tryz.pinned (OpenSpec.ofChange wireClashesWrong)

/-- 'isobarlaw02.WireShown': WHATEVER THE INPUT: true; the input reads as it did. -/
def wireShownSpec : ChangeSpec := { name := "wireShown", fn := fun _ => fun
  | [d1, d2, d3] => { results := [.lit (.bool true)], args := [d1, d2, d3] }
  | _ => none }
def wireShownRow : OpenClaim := { program := "ytaphehlgijlfeaagreatdoor", sum := "8b7bc57171eaafd076127c17976fb27299b93e8ea2e92826c25e4d61aff03e8e", func := "isobar/isobarlaw02.WireShown", spec := "wireShown", inPlace := ["internal/abi.NoEscape", "internal/bytealg.MakeNoZero"], unfollowed := true, recurses := true, named := ["internal/strconv.uint64pow10", "math/bits.deBruijn32tab", "math/bits.deBruijn64tab"], plainKeys := false, apart := false, laid := [("math/bits.deBruijn32tab", laid_math_bits_deBruijn32tab), ("math/bits.deBruijn64tab", laid_math_bits_deBruijn64tab), ("internal/strconv.uint64pow10", laid_internal_strconv_uint64pow10)] }
def WireShownSaid : Prop := wireShownRow.holds Tryz.pinned (OpenSpec.ofChange wireShownSpec)

/-- ITS FALSE NEIGHBOUR: 'it returns false'. Refute it at one input. -/
def wireShownWrong : ChangeSpec := { name := "wireShown", fn := fun _ => fun
  | [d1, d2, d3] => { results := [.lit (.bool false)], args := [d1, d2, d3] }
  | _ => none }
def WireShownWrongFalsely : Prop := wireShownRow.holds Tryz.pinned (OpenSpec.ofChange wireShownWrong)

/-- 'isobarlaw02.WireDoubts': WHATEVER THE INPUT: true; the input reads as it did. -/
def wireDoubtsSpec : ChangeSpec := { name := "wireDoubts", fn := fun _ => fun
  | [d1, d2] => { results := [.lit (.bool true)], args := [d1, d2] }
  | _ => none }
def wireDoubtsRow : OpenClaim := { program := "ytaphehlgijlfeaagreatdoor", sum := "8b7bc57171eaafd076127c17976fb27299b93e8ea2e92826c25e4d61aff03e8e", func := "isobar/isobarlaw02.WireDoubts", spec := "wireDoubts", inPlace := ["internal/abi.NoEscape", "internal/bytealg.MakeNoZero"], unfollowed := true, recurses := true, named := ["internal/strconv.uint64pow10", "math/bits.deBruijn32tab", "math/bits.deBruijn64tab"], plainKeys := false, apart := false, laid := [("math/bits.deBruijn32tab", laid_math_bits_deBruijn32tab), ("math/bits.deBruijn64tab", laid_math_bits_deBruijn64tab), ("internal/strconv.uint64pow10", laid_internal_strconv_uint64pow10)] }
def WireDoubtsSaid : Prop := wireDoubtsRow.holds Tryz.pinned (OpenSpec.ofChange wireDoubtsSpec)

/-- ITS FALSE NEIGHBOUR: 'it returns false'. Refute it at one input. -/
def wireDoubtsWrong : ChangeSpec := { name := "wireDoubts", fn := fun _ => fun
  | [d1, d2] => { results := [.lit (.bool false)], args := [d1, d2] }
  | _ => none }
def WireDoubtsWrongFalsely : Prop := wireDoubtsRow.holds Tryz.pinned (OpenSpec.ofChange wireDoubtsWrong)

/-- 'isobarlaw02.WireRepeats': WHATEVER THE INPUT: true; the input reads as it did. -/
def wireRepeatsSpec : ChangeSpec := { name := "wireRepeats", fn := fun _ => fun
  | [d1, d2, d3, d4] => { results := [.lit (.bool true)], args := [d1, d2, d3, d4] }
  | _ => none }
def wireRepeatsRow : OpenClaim := { program := "ytaphehlgijlfeaagreatdoor", sum := "8b7bc57171eaafd076127c17976fb27299b93e8ea2e92826c25e4d61aff03e8e", func := "isobar/isobarlaw02.WireRepeats", spec := "wireRepeats", inPlace := ["internal/abi.NoEscape", "internal/bytealg.MakeNoZero"], unfollowed := true, recurses := true, named := ["internal/strconv.uint64pow10", "math/bits.deBruijn32tab", "math/bits.deBruijn64tab"], plainKeys := false, apart := false, laid := [("math/bits.deBruijn32tab", laid_math_bits_deBruijn32tab), ("math/bits.deBruijn64tab", laid_math_bits_deBruijn64tab), ("internal/strconv.uint64pow10", laid_internal_strconv_uint64pow10)] }
def WireRepeatsSaid : Prop := wireRepeatsRow.holds Tryz.pinned (OpenSpec.ofChange wireRepeatsSpec)

/-- ITS FALSE NEIGHBOUR: 'it returns false'. Refute it at one input. -/
def wireRepeatsWrong : ChangeSpec := { name := "wireRepeats", fn := fun _ => fun
  | [d1, d2, d3, d4] => { results := [.lit (.bool false)], args := [d1, d2, d3, d4] }
  | _ => none }
def WireRepeatsWrongFalsely : Prop := wireRepeatsRow.holds Tryz.pinned (OpenSpec.ofChange wireRepeatsWrong)

/-- 'isobarlaw02.WireLooks': WHATEVER THE INPUT: true; the input reads as it did. -/
def wireLooksSpec : ChangeSpec := { name := "wireLooks", fn := fun _ => fun
  | [d1, d2, d3] => { results := [.lit (.bool true)], args := [d1, d2, d3] }
  | _ => none }
def wireLooksRow : OpenClaim := { program := "ytaphehlgijlfeaagreatdoor", sum := "8b7bc57171eaafd076127c17976fb27299b93e8ea2e92826c25e4d61aff03e8e", func := "isobar/isobarlaw02.WireLooks", spec := "wireLooks", inPlace := ["internal/abi.NoEscape", "internal/bytealg.MakeNoZero"], unfollowed := true, recurses := true, named := ["internal/strconv.uint64pow10", "math/bits.deBruijn32tab", "math/bits.deBruijn64tab"], plainKeys := false, apart := false, laid := [("math/bits.deBruijn32tab", laid_math_bits_deBruijn32tab), ("math/bits.deBruijn64tab", laid_math_bits_deBruijn64tab), ("internal/strconv.uint64pow10", laid_internal_strconv_uint64pow10)] }
def WireLooksSaid : Prop := wireLooksRow.holds Tryz.pinned (OpenSpec.ofChange wireLooksSpec)

/-- ITS FALSE NEIGHBOUR: 'it returns false'. Refute it at one input. -/
def wireLooksWrong : ChangeSpec := { name := "wireLooks", fn := fun _ => fun
  | [d1, d2, d3] => { results := [.lit (.bool false)], args := [d1, d2, d3] }
  | _ => none }
def WireLooksWrongFalsely : Prop := wireLooksRow.holds Tryz.pinned (OpenSpec.ofChange wireLooksWrong)

/-- 'isobarlaw02.WireCosts': WHATEVER THE INPUT: true; the input reads as it did. -/
def wireCostsSpec : ChangeSpec := { name := "wireCosts", fn := fun _ => fun
  | [d1, d2, d3, d4, d5, d6, d7] => { results := [.lit (.bool true)], args := [d1, d2, d3, d4, d5, d6, d7] }
  | _ => none }
def wireCostsRow : OpenClaim := { program := "ytaphehlgijlfeaagreatdoor", sum := "8b7bc57171eaafd076127c17976fb27299b93e8ea2e92826c25e4d61aff03e8e", func := "isobar/isobarlaw02.WireCosts", spec := "wireCosts", inPlace := ["internal/abi.NoEscape", "internal/bytealg.MakeNoZero"], unfollowed := true, recurses := true, named := ["internal/strconv.uint64pow10", "math/bits.deBruijn32tab", "math/bits.deBruijn64tab"], plainKeys := false, apart := false, laid := [("math/bits.deBruijn32tab", laid_math_bits_deBruijn32tab), ("math/bits.deBruijn64tab", laid_math_bits_deBruijn64tab), ("internal/strconv.uint64pow10", laid_internal_strconv_uint64pow10)] }
def WireCostsSaid : Prop := wireCostsRow.holds Tryz.pinned (OpenSpec.ofChange wireCostsSpec)

/-- ITS FALSE NEIGHBOUR: 'it returns false'. Refute it at one input. -/
def wireCostsWrong : ChangeSpec := { name := "wireCosts", fn := fun _ => fun
  | [d1, d2, d3, d4, d5, d6, d7] => { results := [.lit (.bool false)], args := [d1, d2, d3, d4, d5, d6, d7] }
  | _ => none }
def WireCostsWrongFalsely : Prop := wireCostsRow.holds Tryz.pinned (OpenSpec.ofChange wireCostsWrong)

/-- 'isobarlaw02.WireRouted': WHATEVER THE INPUT: true; the input reads as it did. -/
def wireRoutedSpec : ChangeSpec := { name := "wireRouted", fn := fun _ => fun
  | [d1, d2, d3, d4, d5, d6] => { results := [.lit (.bool true)], args := [d1, d2, d3, d4, d5, d6] }
  | _ => none }
def wireRoutedRow : OpenClaim := { program := "ytaphehlgijlfeaagreatdoor", sum := "8b7bc57171eaafd076127c17976fb27299b93e8ea2e92826c25e4d61aff03e8e", func := "isobar/isobarlaw02.WireRouted", spec := "wireRouted", inPlace := ["internal/abi.NoEscape", "internal/bytealg.MakeNoZero"], unfollowed := true, recurses := true, named := ["internal/strconv.uint64pow10", "math/bits.deBruijn32tab", "math/bits.deBruijn64tab"], plainKeys := false, apart := false, laid := [("math/bits.deBruijn32tab", laid_math_bits_deBruijn32tab), ("math/bits.deBruijn64tab", laid_math_bits_deBruijn64tab), ("internal/strconv.uint64pow10", laid_internal_strconv_uint64pow10)] }
def WireRoutedSaid : Prop := wireRoutedRow.holds Tryz.pinned (OpenSpec.ofChange wireRoutedSpec)

/-- ITS FALSE NEIGHBOUR: 'it returns false'. Refute it at one input. -/
def wireRoutedWrong : ChangeSpec := { name := "wireRouted", fn := fun _ => fun
  | [d1, d2, d3, d4, d5, d6] => { results := [.lit (.bool false)], args := [d1, d2, d3, d4, d5, d6] }
  | _ => none }
def WireRoutedWrongFalsely : Prop := wireRoutedRow.holds Tryz.pinned (OpenSpec.ofChange wireRoutedWrong)

/-- 'isobarlaw02.WireMore': WHATEVER THE INPUT: true; the input reads as it did. -/
def wireMoreSpec : ChangeSpec := { name := "wireMore", fn := fun _ => fun
  | [d1, d2, d3, d4, d5, d6] => { results := [.lit (.bool true)], args := [d1, d2, d3, d4, d5, d6] }
  | _ => none }
def wireMoreRow : OpenClaim := { program := "ytaphehlgijlfeaagreatdoor", sum := "8b7bc57171eaafd076127c17976fb27299b93e8ea2e92826c25e4d61aff03e8e", func := "isobar/isobarlaw02.WireMore", spec := "wireMore", inPlace := ["internal/abi.NoEscape", "internal/bytealg.MakeNoZero"], unfollowed := true, recurses := true, named := ["internal/strconv.uint64pow10", "math/bits.deBruijn32tab", "math/bits.deBruijn64tab"], plainKeys := false, apart := false, laid := [("math/bits.deBruijn32tab", laid_math_bits_deBruijn32tab), ("math/bits.deBruijn64tab", laid_math_bits_deBruijn64tab), ("internal/strconv.uint64pow10", laid_internal_strconv_uint64pow10)] }
def WireMoreSaid : Prop := wireMoreRow.holds Tryz.pinned (OpenSpec.ofChange wireMoreSpec)

/-- ITS FALSE NEIGHBOUR: 'it returns false'. Refute it at one input. -/
def wireMoreWrong : ChangeSpec := { name := "wireMore", fn := fun _ => fun
  | [d1, d2, d3, d4, d5, d6] => { results := [.lit (.bool false)], args := [d1, d2, d3, d4, d5, d6] }
  | _ => none }
def WireMoreWrongFalsely : Prop := wireMoreRow.holds Tryz.pinned (OpenSpec.ofChange wireMoreWrong)

/-- 'isobarlaw02.WireSends': WHATEVER THE INPUT: true; the input reads as it did. -/
def wireSendsSpec : ChangeSpec := { name := "wireSends", fn := fun _ => fun
  | [d1, d2] => { results := [.lit (.bool true)], args := [d1, d2] }
  | _ => none }
def wireSendsRow : OpenClaim := { program := "ytaphehlgijlfeaagreatdoor", sum := "8b7bc57171eaafd076127c17976fb27299b93e8ea2e92826c25e4d61aff03e8e", func := "isobar/isobarlaw02.WireSends", spec := "wireSends", inPlace := ["internal/abi.NoEscape", "internal/bytealg.MakeNoZero"], unfollowed := true, recurses := true, named := ["internal/strconv.uint64pow10", "math/bits.deBruijn32tab", "math/bits.deBruijn64tab"], plainKeys := false, apart := false, laid := [("math/bits.deBruijn32tab", laid_math_bits_deBruijn32tab), ("math/bits.deBruijn64tab", laid_math_bits_deBruijn64tab), ("internal/strconv.uint64pow10", laid_internal_strconv_uint64pow10)] }
def WireSendsSaid : Prop := wireSendsRow.holds Tryz.pinned (OpenSpec.ofChange wireSendsSpec)

/-- ITS FALSE NEIGHBOUR: 'it returns false'. Refute it at one input. -/
def wireSendsWrong : ChangeSpec := { name := "wireSends", fn := fun _ => fun
  | [d1, d2] => { results := [.lit (.bool false)], args := [d1, d2] }
  | _ => none }
def WireSendsWrongFalsely : Prop := wireSendsRow.holds Tryz.pinned (OpenSpec.ofChange wireSendsWrong)

/-- 'isobarlaw02.WireCans': WHATEVER THE INPUT: true; the input reads as it did. -/
def wireCansSpec : ChangeSpec := { name := "wireCans", fn := fun _ => fun
  | [d1, d2, d3] => { results := [.lit (.bool true)], args := [d1, d2, d3] }
  | _ => none }
def wireCansRow : OpenClaim := { program := "ytaphehlgijlfeaagreatdoor", sum := "8b7bc57171eaafd076127c17976fb27299b93e8ea2e92826c25e4d61aff03e8e", func := "isobar/isobarlaw02.WireCans", spec := "wireCans", inPlace := ["internal/abi.NoEscape", "internal/bytealg.MakeNoZero"], unfollowed := true, recurses := true, named := ["internal/strconv.uint64pow10", "math/bits.deBruijn32tab", "math/bits.deBruijn64tab"], plainKeys := false, apart := false, laid := [("math/bits.deBruijn32tab", laid_math_bits_deBruijn32tab), ("math/bits.deBruijn64tab", laid_math_bits_deBruijn64tab), ("internal/strconv.uint64pow10", laid_internal_strconv_uint64pow10)] }
def WireCansSaid : Prop := wireCansRow.holds Tryz.pinned (OpenSpec.ofChange wireCansSpec)

/-- ITS FALSE NEIGHBOUR: 'it returns false'. Refute it at one input. -/
def wireCansWrong : ChangeSpec := { name := "wireCans", fn := fun _ => fun
  | [d1, d2, d3] => { results := [.lit (.bool false)], args := [d1, d2, d3] }
  | _ => none }
def WireCansWrongFalsely : Prop := wireCansRow.holds Tryz.pinned (OpenSpec.ofChange wireCansWrong)

/-- 'isobarlaw02.WireTrue': WHATEVER THE INPUT: true; the input reads as it did. -/
def wireTrueSpec : ChangeSpec := { name := "wireTrue", fn := fun _ => fun
  | [d1, d2, d3] => { results := [.lit (.bool true)], args := [d1, d2, d3] }
  | _ => none }
def wireTrueRow : OpenClaim := { program := "ytaphehlgijlfeaagreatdoor", sum := "8b7bc57171eaafd076127c17976fb27299b93e8ea2e92826c25e4d61aff03e8e", func := "isobar/isobarlaw02.WireTrue", spec := "wireTrue", inPlace := ["internal/abi.NoEscape", "internal/bytealg.MakeNoZero"], unfollowed := true, recurses := true, named := ["internal/strconv.uint64pow10", "math/bits.deBruijn32tab", "math/bits.deBruijn64tab"], plainKeys := false, apart := false, laid := [("math/bits.deBruijn32tab", laid_math_bits_deBruijn32tab), ("math/bits.deBruijn64tab", laid_math_bits_deBruijn64tab), ("internal/strconv.uint64pow10", laid_internal_strconv_uint64pow10)] }
def WireTrueSaid : Prop := wireTrueRow.holds Tryz.pinned (OpenSpec.ofChange wireTrueSpec)

/-- ITS FALSE NEIGHBOUR: 'it returns false'. Refute it at one input. -/
def wireTrueWrong : ChangeSpec := { name := "wireTrue", fn := fun _ => fun
  | [d1, d2, d3] => { results := [.lit (.bool false)], args := [d1, d2, d3] }
  | _ => none }
def WireTrueWrongFalsely : Prop := wireTrueRow.holds Tryz.pinned (OpenSpec.ofChange wireTrueWrong)

/-- 'isobarlaw02.WirePacks': WHATEVER THE INPUT: true; the input reads as it did. -/
def wirePacksSpec : ChangeSpec := { name := "wirePacks", fn := fun _ => fun
  | [d1, d2, d3, d4] => { results := [.lit (.bool true)], args := [d1, d2, d3, d4] }
  | _ => none }
def wirePacksRow : OpenClaim := { program := "ytaphehlgijlfeaagreatdoor", sum := "8b7bc57171eaafd076127c17976fb27299b93e8ea2e92826c25e4d61aff03e8e", func := "isobar/isobarlaw02.WirePacks", spec := "wirePacks", inPlace := ["internal/abi.NoEscape", "internal/bytealg.MakeNoZero"], unfollowed := true, recurses := true, named := ["internal/strconv.uint64pow10", "math/bits.deBruijn32tab", "math/bits.deBruijn64tab"], plainKeys := false, apart := false, laid := [("math/bits.deBruijn32tab", laid_math_bits_deBruijn32tab), ("math/bits.deBruijn64tab", laid_math_bits_deBruijn64tab), ("internal/strconv.uint64pow10", laid_internal_strconv_uint64pow10)] }
def WirePacksSaid : Prop := wirePacksRow.holds Tryz.pinned (OpenSpec.ofChange wirePacksSpec)

/-- ITS FALSE NEIGHBOUR: 'it returns false'. Refute it at one input. -/
def wirePacksWrong : ChangeSpec := { name := "wirePacks", fn := fun _ => fun
  | [d1, d2, d3, d4] => { results := [.lit (.bool false)], args := [d1, d2, d3, d4] }
  | _ => none }
def WirePacksWrongFalsely : Prop := wirePacksRow.holds Tryz.pinned (OpenSpec.ofChange wirePacksWrong)

/-- 'isobarlaw02.WirePacked': WHATEVER THE INPUT: true; the input reads as it did. -/
def wirePackedSpec : ChangeSpec := { name := "wirePacked", fn := fun _ => fun
  | [d1, d2, d3, d4] => { results := [.lit (.bool true)], args := [d1, d2, d3, d4] }
  | _ => none }
def wirePackedRow : OpenClaim := { program := "ytaphehlgijlfeaagreatdoor", sum := "8b7bc57171eaafd076127c17976fb27299b93e8ea2e92826c25e4d61aff03e8e", func := "isobar/isobarlaw02.WirePacked", spec := "wirePacked", inPlace := ["internal/abi.NoEscape", "internal/bytealg.MakeNoZero"], unfollowed := true, recurses := true, named := ["internal/strconv.uint64pow10", "math/bits.deBruijn32tab", "math/bits.deBruijn64tab"], plainKeys := false, apart := false, laid := [("math/bits.deBruijn32tab", laid_math_bits_deBruijn32tab), ("math/bits.deBruijn64tab", laid_math_bits_deBruijn64tab), ("internal/strconv.uint64pow10", laid_internal_strconv_uint64pow10)] }
def WirePackedSaid : Prop := wirePackedRow.holds Tryz.pinned (OpenSpec.ofChange wirePackedSpec)

/-- ITS FALSE NEIGHBOUR: 'it returns false'. Refute it at one input. -/
def wirePackedWrong : ChangeSpec := { name := "wirePacked", fn := fun _ => fun
  | [d1, d2, d3, d4] => { results := [.lit (.bool false)], args := [d1, d2, d3, d4] }
  | _ => none }
def WirePackedWrongFalsely : Prop := wirePackedRow.holds Tryz.pinned (OpenSpec.ofChange wirePackedWrong)

/-- 'isobarlaw02.WirePrints': WHATEVER THE INPUT: true; the input reads as it did. -/
def wirePrintsSpec : ChangeSpec := { name := "wirePrints", fn := fun _ => fun
  | [d1, d2] => { results := [.lit (.bool true)], args := [d1, d2] }
  | _ => none }
def wirePrintsRow : OpenClaim := { program := "ytaphehlgijlfeaagreatdoor", sum := "8b7bc57171eaafd076127c17976fb27299b93e8ea2e92826c25e4d61aff03e8e", func := "isobar/isobarlaw02.WirePrints", spec := "wirePrints", inPlace := ["internal/abi.NoEscape", "internal/bytealg.MakeNoZero", "internal/bytealg.CountString", "internal/bytealg.IndexByteString", "internal/bytealg.IndexString"], unfollowed := true, recurses := true, named := ["internal/strconv.uint64pow10", "math/bits.deBruijn32tab", "math/bits.deBruijn64tab", "unicode/utf8.first", "unicode/utf8.acceptRanges", "internal/bytealg.MaxLen", "strconv.ErrSyntax", "strconv.ErrRange"], plainKeys := false, apart := false, laid := [("math/bits.deBruijn32tab", laid_math_bits_deBruijn32tab), ("math/bits.deBruijn64tab", laid_math_bits_deBruijn64tab), ("internal/strconv.uint64pow10", laid_internal_strconv_uint64pow10), ("unicode/utf8.acceptRanges", laid_unicode_utf8_acceptRanges), ("strconv.ErrRange", laid_strconv_ErrRange), ("strconv.ErrSyntax", laid_strconv_ErrSyntax), ("unicode/utf8.first", laid_unicode_utf8_first)] }
def WirePrintsSaid : Prop := wirePrintsRow.holds Tryz.pinned (OpenSpec.ofChange wirePrintsSpec)

/-- ITS FALSE NEIGHBOUR: 'it returns false'. Refute it at one input. -/
def wirePrintsWrong : ChangeSpec := { name := "wirePrints", fn := fun _ => fun
  | [d1, d2] => { results := [.lit (.bool false)], args := [d1, d2] }
  | _ => none }
def WirePrintsWrongFalsely : Prop := wirePrintsRow.holds Tryz.pinned (OpenSpec.ofChange wirePrintsWrong)

/-- 'isobarlaw02.WireReads': WHATEVER THE INPUT: true; the input reads as it did. -/
def wireReadsSpec : ChangeSpec := { name := "wireReads", fn := fun _ => fun
  | [d] => { results := [.lit (.bool true)], args := [d] }
  | _ => none }
def wireReadsRow : OpenClaim := { program := "ytaphehlgijlfeaagreatdoor", sum := "8b7bc57171eaafd076127c17976fb27299b93e8ea2e92826c25e4d61aff03e8e", func := "isobar/isobarlaw02.WireReads", spec := "wireReads", inPlace := ["internal/abi.NoEscape", "internal/bytealg.MakeNoZero", "internal/bytealg.CountString", "internal/bytealg.IndexByteString", "internal/bytealg.IndexString"], unfollowed := true, recurses := true, named := ["internal/strconv.uint64pow10", "math/bits.deBruijn32tab", "math/bits.deBruijn64tab", "unicode/utf8.first", "unicode/utf8.acceptRanges", "internal/bytealg.MaxLen", "strconv.ErrSyntax", "strconv.ErrRange"], plainKeys := false, apart := false, laid := [("math/bits.deBruijn32tab", laid_math_bits_deBruijn32tab), ("math/bits.deBruijn64tab", laid_math_bits_deBruijn64tab), ("internal/strconv.uint64pow10", laid_internal_strconv_uint64pow10), ("unicode/utf8.acceptRanges", laid_unicode_utf8_acceptRanges), ("strconv.ErrRange", laid_strconv_ErrRange), ("strconv.ErrSyntax", laid_strconv_ErrSyntax), ("unicode/utf8.first", laid_unicode_utf8_first)] }
def WireReadsSaid : Prop := wireReadsRow.holds Tryz.pinned (OpenSpec.ofChange wireReadsSpec)

/-- ITS FALSE NEIGHBOUR: 'it returns false'. Refute it at one input. -/
def wireReadsWrong : ChangeSpec := { name := "wireReads", fn := fun _ => fun
  | [d] => { results := [.lit (.bool false)], args := [d] }
  | _ => none }
def WireReadsWrongFalsely : Prop := wireReadsRow.holds Tryz.pinned (OpenSpec.ofChange wireReadsWrong)

/-- 'isobarlaw02.WireSpoilt': WHATEVER THE INPUT: true; the input reads as it did. -/
def wireSpoiltSpec : ChangeSpec := { name := "wireSpoilt", fn := fun _ => fun
  | [d1, d2, d3, d4] => { results := [.lit (.bool true)], args := [d1, d2, d3, d4] }
  | _ => none }
def wireSpoiltRow : OpenClaim := { program := "ytaphehlgijlfeaagreatdoor", sum := "8b7bc57171eaafd076127c17976fb27299b93e8ea2e92826c25e4d61aff03e8e", func := "isobar/isobarlaw02.WireSpoilt", spec := "wireSpoilt", inPlace := ["internal/abi.NoEscape", "internal/bytealg.MakeNoZero", "internal/bytealg.CountString", "internal/bytealg.IndexByteString", "internal/bytealg.IndexString"], unfollowed := true, recurses := true, named := ["internal/strconv.uint64pow10", "math/bits.deBruijn32tab", "math/bits.deBruijn64tab", "unicode/utf8.first", "unicode/utf8.acceptRanges", "internal/bytealg.MaxLen", "strconv.ErrSyntax", "strconv.ErrRange"], plainKeys := false, apart := false, laid := [("math/bits.deBruijn32tab", laid_math_bits_deBruijn32tab), ("math/bits.deBruijn64tab", laid_math_bits_deBruijn64tab), ("internal/strconv.uint64pow10", laid_internal_strconv_uint64pow10), ("unicode/utf8.acceptRanges", laid_unicode_utf8_acceptRanges), ("strconv.ErrRange", laid_strconv_ErrRange), ("strconv.ErrSyntax", laid_strconv_ErrSyntax), ("unicode/utf8.first", laid_unicode_utf8_first)] }
def WireSpoiltSaid : Prop := wireSpoiltRow.holds Tryz.pinned (OpenSpec.ofChange wireSpoiltSpec)

/-- ITS FALSE NEIGHBOUR: 'it returns false'. Refute it at one input. -/
def wireSpoiltWrong : ChangeSpec := { name := "wireSpoilt", fn := fun _ => fun
  | [d1, d2, d3, d4] => { results := [.lit (.bool false)], args := [d1, d2, d3, d4] }
  | _ => none }
def WireSpoiltWrongFalsely : Prop := wireSpoiltRow.holds Tryz.pinned (OpenSpec.ofChange wireSpoiltWrong)

/- THE SECOND FORM. 'bulk': how many values and letters a reading holds, each counted each time it is reached (what is shared counts as often as it is met; a slice's spare places count too). A statement '..UptoSaid' is the law's where the arguments, and the package variables that the reading takes, are together of bulk at most 1048576: NARROWER than '..Said'. Prove '..Said' where nothing that the law and all that it calls make is longer than what came in: it says more and counts as full. Else prove '..UptoSaid'. A law counts once. -/
mutual
def uptoBulk {H : Type} : DataW H → Nat
  | .lit (.string bytes) => bytes.length + 1
  | .lit _ => 1
  | .nil => 1
  | .ptr d => uptoBulk d + 1
  | .slice elems spare => uptoBulkAll elems + uptoBulkAll spare + 1
  | .agg parts => uptoBulkAll parts + 1
  | .iface _ d => uptoBulk d + 1
  | .map entries => uptoBulkEntries entries + 1
  | .held _ => 1
def uptoBulkAll {H : Type} : List (DataW H) → Nat
  | [] => 0
  | d :: r => uptoBulk d + uptoBulkAll r
def uptoBulkEntries {H : Type} : List (Lit × DataW H) → Nat
  | [] => 0
  | x :: r => uptoBulkEntry x + uptoBulkEntries r
def uptoBulkEntry {H : Type} : Lit × DataW H → Nat
  | (.string bytes, d) => bytes.length + uptoBulk d + 1
  | (_, d) => uptoBulk d + 1
 end
def uptoSmall : (H : Type) → List (DataW H) → Bool := fun _ ds => decide (uptoBulkAll ds ≤ 1048576)
def OpenSpec.upto (s : _root_.Go.ChangeSpec) : _root_.Go.OpenSpec := { _root_.Go.OpenSpec.ofChange s with cond := some uptoSmall }

/-- 'isobarlaw02.WireCoulds', WHERE WHAT IT READS IS OF BULK AT MOST 1048576: true; the input reads as it did. -/
def wireCouldsUptoRow : OpenClaim := { program := "ytaphehlgijlfeaagreatdoor", sum := "8b7bc57171eaafd076127c17976fb27299b93e8ea2e92826c25e4d61aff03e8e", func := "isobar/isobarlaw02.WireCoulds", spec := "wireCoulds", inPlace := ["internal/abi.NoEscape", "internal/bytealg.MakeNoZero"], unfollowed := true, recurses := true, named := ["internal/strconv.uint64pow10", "math/bits.deBruijn32tab", "math/bits.deBruijn64tab"], plainKeys := false, apart := false, laid := [("math/bits.deBruijn32tab", laid_math_bits_deBruijn32tab), ("math/bits.deBruijn64tab", laid_math_bits_deBruijn64tab), ("internal/strconv.uint64pow10", laid_internal_strconv_uint64pow10)], narrowed := true }
def WireCouldsUptoSaid : Prop := wireCouldsUptoRow.holds Tryz.pinned (OpenSpec.upto wireCouldsSpec)

/-- 'isobarlaw02.WireRestores', WHERE WHAT IT READS IS OF BULK AT MOST 1048576: true; the input reads as it did. -/
def wireRestoresUptoRow : OpenClaim := { program := "ytaphehlgijlfeaagreatdoor", sum := "8b7bc57171eaafd076127c17976fb27299b93e8ea2e92826c25e4d61aff03e8e", func := "isobar/isobarlaw02.WireRestores", spec := "wireRestores", inPlace := ["internal/abi.NoEscape", "internal/bytealg.MakeNoZero"], unfollowed := true, recurses := true, named := ["internal/strconv.uint64pow10", "math/bits.deBruijn32tab", "math/bits.deBruijn64tab"], plainKeys := false, apart := false, laid := [("math/bits.deBruijn32tab", laid_math_bits_deBruijn32tab), ("math/bits.deBruijn64tab", laid_math_bits_deBruijn64tab), ("internal/strconv.uint64pow10", laid_internal_strconv_uint64pow10)], narrowed := true }
def WireRestoresUptoSaid : Prop := wireRestoresUptoRow.holds Tryz.pinned (OpenSpec.upto wireRestoresSpec)

/-- 'isobarlaw02.WireClashes', WHERE WHAT IT READS IS OF BULK AT MOST 1048576: true; the input reads as it did. -/
def wireClashesUptoRow : OpenClaim := { program := "ytaphehlgijlfeaagreatdoor", sum := "8b7bc57171eaafd076127c17976fb27299b93e8ea2e92826c25e4d61aff03e8e", func := "isobar/isobarlaw02.WireClashes", spec := "wireClashes", inPlace := ["internal/abi.NoEscape", "internal/bytealg.MakeNoZero"], unfollowed := true, recurses := true, named := ["internal/strconv.uint64pow10", "math/bits.deBruijn32tab", "math/bits.deBruijn64tab"], plainKeys := false, apart := false, laid := [("math/bits.deBruijn32tab", laid_math_bits_deBruijn32tab), ("math/bits.deBruijn64tab", laid_math_bits_deBruijn64tab), ("internal/strconv.uint64pow10", laid_internal_strconv_uint64pow10)], narrowed := true }
def WireClashesUptoSaid : Prop := wireClashesUptoRow.holds Tryz.pinned (OpenSpec.upto wireClashesSpec)

/-- 'isobarlaw02.WireShown', WHERE WHAT IT READS IS OF BULK AT MOST 1048576: true; the input reads as it did. -/
def wireShownUptoRow : OpenClaim := { program := "ytaphehlgijlfeaagreatdoor", sum := "8b7bc57171eaafd076127c17976fb27299b93e8ea2e92826c25e4d61aff03e8e", func := "isobar/isobarlaw02.WireShown", spec := "wireShown", inPlace := ["internal/abi.NoEscape", "internal/bytealg.MakeNoZero"], unfollowed := true, recurses := true, named := ["internal/strconv.uint64pow10", "math/bits.deBruijn32tab", "math/bits.deBruijn64tab"], plainKeys := false, apart := false, laid := [("math/bits.deBruijn32tab", laid_math_bits_deBruijn32tab), ("math/bits.deBruijn64tab", laid_math_bits_deBruijn64tab), ("internal/strconv.uint64pow10", laid_internal_strconv_uint64pow10)], narrowed := true }
def WireShownUptoSaid : Prop := wireShownUptoRow.holds Tryz.pinned (OpenSpec.upto wireShownSpec)

/-- 'isobarlaw02.WireDoubts', WHERE WHAT IT READS IS OF BULK AT MOST 1048576: true; the input reads as it did. -/
def wireDoubtsUptoRow : OpenClaim := { program := "ytaphehlgijlfeaagreatdoor", sum := "8b7bc57171eaafd076127c17976fb27299b93e8ea2e92826c25e4d61aff03e8e", func := "isobar/isobarlaw02.WireDoubts", spec := "wireDoubts", inPlace := ["internal/abi.NoEscape", "internal/bytealg.MakeNoZero"], unfollowed := true, recurses := true, named := ["internal/strconv.uint64pow10", "math/bits.deBruijn32tab", "math/bits.deBruijn64tab"], plainKeys := false, apart := false, laid := [("math/bits.deBruijn32tab", laid_math_bits_deBruijn32tab), ("math/bits.deBruijn64tab", laid_math_bits_deBruijn64tab), ("internal/strconv.uint64pow10", laid_internal_strconv_uint64pow10)], narrowed := true }
def WireDoubtsUptoSaid : Prop := wireDoubtsUptoRow.holds Tryz.pinned (OpenSpec.upto wireDoubtsSpec)

/-- 'isobarlaw02.WireRepeats', WHERE WHAT IT READS IS OF BULK AT MOST 1048576: true; the input reads as it did. -/
def wireRepeatsUptoRow : OpenClaim := { program := "ytaphehlgijlfeaagreatdoor", sum := "8b7bc57171eaafd076127c17976fb27299b93e8ea2e92826c25e4d61aff03e8e", func := "isobar/isobarlaw02.WireRepeats", spec := "wireRepeats", inPlace := ["internal/abi.NoEscape", "internal/bytealg.MakeNoZero"], unfollowed := true, recurses := true, named := ["internal/strconv.uint64pow10", "math/bits.deBruijn32tab", "math/bits.deBruijn64tab"], plainKeys := false, apart := false, laid := [("math/bits.deBruijn32tab", laid_math_bits_deBruijn32tab), ("math/bits.deBruijn64tab", laid_math_bits_deBruijn64tab), ("internal/strconv.uint64pow10", laid_internal_strconv_uint64pow10)], narrowed := true }
def WireRepeatsUptoSaid : Prop := wireRepeatsUptoRow.holds Tryz.pinned (OpenSpec.upto wireRepeatsSpec)

/-- 'isobarlaw02.WireLooks', WHERE WHAT IT READS IS OF BULK AT MOST 1048576: true; the input reads as it did. -/
def wireLooksUptoRow : OpenClaim := { program := "ytaphehlgijlfeaagreatdoor", sum := "8b7bc57171eaafd076127c17976fb27299b93e8ea2e92826c25e4d61aff03e8e", func := "isobar/isobarlaw02.WireLooks", spec := "wireLooks", inPlace := ["internal/abi.NoEscape", "internal/bytealg.MakeNoZero"], unfollowed := true, recurses := true, named := ["internal/strconv.uint64pow10", "math/bits.deBruijn32tab", "math/bits.deBruijn64tab"], plainKeys := false, apart := false, laid := [("math/bits.deBruijn32tab", laid_math_bits_deBruijn32tab), ("math/bits.deBruijn64tab", laid_math_bits_deBruijn64tab), ("internal/strconv.uint64pow10", laid_internal_strconv_uint64pow10)], narrowed := true }
def WireLooksUptoSaid : Prop := wireLooksUptoRow.holds Tryz.pinned (OpenSpec.upto wireLooksSpec)

/-- 'isobarlaw02.WireCosts', WHERE WHAT IT READS IS OF BULK AT MOST 1048576: true; the input reads as it did. -/
def wireCostsUptoRow : OpenClaim := { program := "ytaphehlgijlfeaagreatdoor", sum := "8b7bc57171eaafd076127c17976fb27299b93e8ea2e92826c25e4d61aff03e8e", func := "isobar/isobarlaw02.WireCosts", spec := "wireCosts", inPlace := ["internal/abi.NoEscape", "internal/bytealg.MakeNoZero"], unfollowed := true, recurses := true, named := ["internal/strconv.uint64pow10", "math/bits.deBruijn32tab", "math/bits.deBruijn64tab"], plainKeys := false, apart := false, laid := [("math/bits.deBruijn32tab", laid_math_bits_deBruijn32tab), ("math/bits.deBruijn64tab", laid_math_bits_deBruijn64tab), ("internal/strconv.uint64pow10", laid_internal_strconv_uint64pow10)], narrowed := true }
def WireCostsUptoSaid : Prop := wireCostsUptoRow.holds Tryz.pinned (OpenSpec.upto wireCostsSpec)

/-- 'isobarlaw02.WireRouted', WHERE WHAT IT READS IS OF BULK AT MOST 1048576: true; the input reads as it did. -/
def wireRoutedUptoRow : OpenClaim := { program := "ytaphehlgijlfeaagreatdoor", sum := "8b7bc57171eaafd076127c17976fb27299b93e8ea2e92826c25e4d61aff03e8e", func := "isobar/isobarlaw02.WireRouted", spec := "wireRouted", inPlace := ["internal/abi.NoEscape", "internal/bytealg.MakeNoZero"], unfollowed := true, recurses := true, named := ["internal/strconv.uint64pow10", "math/bits.deBruijn32tab", "math/bits.deBruijn64tab"], plainKeys := false, apart := false, laid := [("math/bits.deBruijn32tab", laid_math_bits_deBruijn32tab), ("math/bits.deBruijn64tab", laid_math_bits_deBruijn64tab), ("internal/strconv.uint64pow10", laid_internal_strconv_uint64pow10)], narrowed := true }
def WireRoutedUptoSaid : Prop := wireRoutedUptoRow.holds Tryz.pinned (OpenSpec.upto wireRoutedSpec)

/-- 'isobarlaw02.WireMore', WHERE WHAT IT READS IS OF BULK AT MOST 1048576: true; the input reads as it did. -/
def wireMoreUptoRow : OpenClaim := { program := "ytaphehlgijlfeaagreatdoor", sum := "8b7bc57171eaafd076127c17976fb27299b93e8ea2e92826c25e4d61aff03e8e", func := "isobar/isobarlaw02.WireMore", spec := "wireMore", inPlace := ["internal/abi.NoEscape", "internal/bytealg.MakeNoZero"], unfollowed := true, recurses := true, named := ["internal/strconv.uint64pow10", "math/bits.deBruijn32tab", "math/bits.deBruijn64tab"], plainKeys := false, apart := false, laid := [("math/bits.deBruijn32tab", laid_math_bits_deBruijn32tab), ("math/bits.deBruijn64tab", laid_math_bits_deBruijn64tab), ("internal/strconv.uint64pow10", laid_internal_strconv_uint64pow10)], narrowed := true }
def WireMoreUptoSaid : Prop := wireMoreUptoRow.holds Tryz.pinned (OpenSpec.upto wireMoreSpec)

/-- 'isobarlaw02.WireSends', WHERE WHAT IT READS IS OF BULK AT MOST 1048576: true; the input reads as it did. -/
def wireSendsUptoRow : OpenClaim := { program := "ytaphehlgijlfeaagreatdoor", sum := "8b7bc57171eaafd076127c17976fb27299b93e8ea2e92826c25e4d61aff03e8e", func := "isobar/isobarlaw02.WireSends", spec := "wireSends", inPlace := ["internal/abi.NoEscape", "internal/bytealg.MakeNoZero"], unfollowed := true, recurses := true, named := ["internal/strconv.uint64pow10", "math/bits.deBruijn32tab", "math/bits.deBruijn64tab"], plainKeys := false, apart := false, laid := [("math/bits.deBruijn32tab", laid_math_bits_deBruijn32tab), ("math/bits.deBruijn64tab", laid_math_bits_deBruijn64tab), ("internal/strconv.uint64pow10", laid_internal_strconv_uint64pow10)], narrowed := true }
def WireSendsUptoSaid : Prop := wireSendsUptoRow.holds Tryz.pinned (OpenSpec.upto wireSendsSpec)

/-- 'isobarlaw02.WireCans', WHERE WHAT IT READS IS OF BULK AT MOST 1048576: true; the input reads as it did. -/
def wireCansUptoRow : OpenClaim := { program := "ytaphehlgijlfeaagreatdoor", sum := "8b7bc57171eaafd076127c17976fb27299b93e8ea2e92826c25e4d61aff03e8e", func := "isobar/isobarlaw02.WireCans", spec := "wireCans", inPlace := ["internal/abi.NoEscape", "internal/bytealg.MakeNoZero"], unfollowed := true, recurses := true, named := ["internal/strconv.uint64pow10", "math/bits.deBruijn32tab", "math/bits.deBruijn64tab"], plainKeys := false, apart := false, laid := [("math/bits.deBruijn32tab", laid_math_bits_deBruijn32tab), ("math/bits.deBruijn64tab", laid_math_bits_deBruijn64tab), ("internal/strconv.uint64pow10", laid_internal_strconv_uint64pow10)], narrowed := true }
def WireCansUptoSaid : Prop := wireCansUptoRow.holds Tryz.pinned (OpenSpec.upto wireCansSpec)

/-- 'isobarlaw02.WireTrue', WHERE WHAT IT READS IS OF BULK AT MOST 1048576: true; the input reads as it did. -/
def wireTrueUptoRow : OpenClaim := { program := "ytaphehlgijlfeaagreatdoor", sum := "8b7bc57171eaafd076127c17976fb27299b93e8ea2e92826c25e4d61aff03e8e", func := "isobar/isobarlaw02.WireTrue", spec := "wireTrue", inPlace := ["internal/abi.NoEscape", "internal/bytealg.MakeNoZero"], unfollowed := true, recurses := true, named := ["internal/strconv.uint64pow10", "math/bits.deBruijn32tab", "math/bits.deBruijn64tab"], plainKeys := false, apart := false, laid := [("math/bits.deBruijn32tab", laid_math_bits_deBruijn32tab), ("math/bits.deBruijn64tab", laid_math_bits_deBruijn64tab), ("internal/strconv.uint64pow10", laid_internal_strconv_uint64pow10)], narrowed := true }
def WireTrueUptoSaid : Prop := wireTrueUptoRow.holds Tryz.pinned (OpenSpec.upto wireTrueSpec)

/-- 'isobarlaw02.WirePacks', WHERE WHAT IT READS IS OF BULK AT MOST 1048576: true; the input reads as it did. -/
def wirePacksUptoRow : OpenClaim := { program := "ytaphehlgijlfeaagreatdoor", sum := "8b7bc57171eaafd076127c17976fb27299b93e8ea2e92826c25e4d61aff03e8e", func := "isobar/isobarlaw02.WirePacks", spec := "wirePacks", inPlace := ["internal/abi.NoEscape", "internal/bytealg.MakeNoZero"], unfollowed := true, recurses := true, named := ["internal/strconv.uint64pow10", "math/bits.deBruijn32tab", "math/bits.deBruijn64tab"], plainKeys := false, apart := false, laid := [("math/bits.deBruijn32tab", laid_math_bits_deBruijn32tab), ("math/bits.deBruijn64tab", laid_math_bits_deBruijn64tab), ("internal/strconv.uint64pow10", laid_internal_strconv_uint64pow10)], narrowed := true }
def WirePacksUptoSaid : Prop := wirePacksUptoRow.holds Tryz.pinned (OpenSpec.upto wirePacksSpec)

/-- 'isobarlaw02.WirePacked', WHERE WHAT IT READS IS OF BULK AT MOST 1048576: true; the input reads as it did. -/
def wirePackedUptoRow : OpenClaim := { program := "ytaphehlgijlfeaagreatdoor", sum := "8b7bc57171eaafd076127c17976fb27299b93e8ea2e92826c25e4d61aff03e8e", func := "isobar/isobarlaw02.WirePacked", spec := "wirePacked", inPlace := ["internal/abi.NoEscape", "internal/bytealg.MakeNoZero"], unfollowed := true, recurses := true, named := ["internal/strconv.uint64pow10", "math/bits.deBruijn32tab", "math/bits.deBruijn64tab"], plainKeys := false, apart := false, laid := [("math/bits.deBruijn32tab", laid_math_bits_deBruijn32tab), ("math/bits.deBruijn64tab", laid_math_bits_deBruijn64tab), ("internal/strconv.uint64pow10", laid_internal_strconv_uint64pow10)], narrowed := true }
def WirePackedUptoSaid : Prop := wirePackedUptoRow.holds Tryz.pinned (OpenSpec.upto wirePackedSpec)

/-- 'isobarlaw02.WirePrints', WHERE WHAT IT READS IS OF BULK AT MOST 1048576: true; the input reads as it did. -/
def wirePrintsUptoRow : OpenClaim := { program := "ytaphehlgijlfeaagreatdoor", sum := "8b7bc57171eaafd076127c17976fb27299b93e8ea2e92826c25e4d61aff03e8e", func := "isobar/isobarlaw02.WirePrints", spec := "wirePrints", inPlace := ["internal/abi.NoEscape", "internal/bytealg.MakeNoZero", "internal/bytealg.CountString", "internal/bytealg.IndexByteString", "internal/bytealg.IndexString"], unfollowed := true, recurses := true, named := ["internal/strconv.uint64pow10", "math/bits.deBruijn32tab", "math/bits.deBruijn64tab", "unicode/utf8.first", "unicode/utf8.acceptRanges", "internal/bytealg.MaxLen", "strconv.ErrSyntax", "strconv.ErrRange"], plainKeys := false, apart := false, laid := [("math/bits.deBruijn32tab", laid_math_bits_deBruijn32tab), ("math/bits.deBruijn64tab", laid_math_bits_deBruijn64tab), ("internal/strconv.uint64pow10", laid_internal_strconv_uint64pow10), ("unicode/utf8.acceptRanges", laid_unicode_utf8_acceptRanges), ("strconv.ErrRange", laid_strconv_ErrRange), ("strconv.ErrSyntax", laid_strconv_ErrSyntax), ("unicode/utf8.first", laid_unicode_utf8_first)], narrowed := true }
def WirePrintsUptoSaid : Prop := wirePrintsUptoRow.holds Tryz.pinned (OpenSpec.upto wirePrintsSpec)

/-- 'isobarlaw02.WireReads', WHERE WHAT IT READS IS OF BULK AT MOST 1048576: true; the input reads as it did. -/
def wireReadsUptoRow : OpenClaim := { program := "ytaphehlgijlfeaagreatdoor", sum := "8b7bc57171eaafd076127c17976fb27299b93e8ea2e92826c25e4d61aff03e8e", func := "isobar/isobarlaw02.WireReads", spec := "wireReads", inPlace := ["internal/abi.NoEscape", "internal/bytealg.MakeNoZero", "internal/bytealg.CountString", "internal/bytealg.IndexByteString", "internal/bytealg.IndexString"], unfollowed := true, recurses := true, named := ["internal/strconv.uint64pow10", "math/bits.deBruijn32tab", "math/bits.deBruijn64tab", "unicode/utf8.first", "unicode/utf8.acceptRanges", "internal/bytealg.MaxLen", "strconv.ErrSyntax", "strconv.ErrRange"], plainKeys := false, apart := false, laid := [("math/bits.deBruijn32tab", laid_math_bits_deBruijn32tab), ("math/bits.deBruijn64tab", laid_math_bits_deBruijn64tab), ("internal/strconv.uint64pow10", laid_internal_strconv_uint64pow10), ("unicode/utf8.acceptRanges", laid_unicode_utf8_acceptRanges), ("strconv.ErrRange", laid_strconv_ErrRange), ("strconv.ErrSyntax", laid_strconv_ErrSyntax), ("unicode/utf8.first", laid_unicode_utf8_first)], narrowed := true }
def WireReadsUptoSaid : Prop := wireReadsUptoRow.holds Tryz.pinned (OpenSpec.upto wireReadsSpec)

/-- 'isobarlaw02.WireSpoilt', WHERE WHAT IT READS IS OF BULK AT MOST 1048576: true; the input reads as it did. -/
def wireSpoiltUptoRow : OpenClaim := { program := "ytaphehlgijlfeaagreatdoor", sum := "8b7bc57171eaafd076127c17976fb27299b93e8ea2e92826c25e4d61aff03e8e", func := "isobar/isobarlaw02.WireSpoilt", spec := "wireSpoilt", inPlace := ["internal/abi.NoEscape", "internal/bytealg.MakeNoZero", "internal/bytealg.CountString", "internal/bytealg.IndexByteString", "internal/bytealg.IndexString"], unfollowed := true, recurses := true, named := ["internal/strconv.uint64pow10", "math/bits.deBruijn32tab", "math/bits.deBruijn64tab", "unicode/utf8.first", "unicode/utf8.acceptRanges", "internal/bytealg.MaxLen", "strconv.ErrSyntax", "strconv.ErrRange"], plainKeys := false, apart := false, laid := [("math/bits.deBruijn32tab", laid_math_bits_deBruijn32tab), ("math/bits.deBruijn64tab", laid_math_bits_deBruijn64tab), ("internal/strconv.uint64pow10", laid_internal_strconv_uint64pow10), ("unicode/utf8.acceptRanges", laid_unicode_utf8_acceptRanges), ("strconv.ErrRange", laid_strconv_ErrRange), ("strconv.ErrSyntax", laid_strconv_ErrSyntax), ("unicode/utf8.first", laid_unicode_utf8_first)], narrowed := true }
def WireSpoiltUptoSaid : Prop := wireSpoiltUptoRow.holds Tryz.pinned (OpenSpec.upto wireSpoiltSpec)

end Rows
end Go.Proofs.YtaphehlgijlfeaaGreatDoor
