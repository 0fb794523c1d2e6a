/-
  NARROWER THAN 'FOR EVERY INPUT', by the rows' own cells (each row's printed sentence says how): InferSteps: laid · InferBelow: laid · InferNeeds: laid · InferObjects: laid · InferMaybes: laid · InferGrows: laid · InferRuns: laid · InstrTexts: laid · InstrParses: laid · InstrBack: laid · InstrNames: laid · InstrTable: laid · InstrRight: laid · InstrEffect: laid · InstrWider: laid · InstrFits: laid.
  DERIVED. THE GIVEN ROWS OF THIS SEAT. 16 by the template 'for every input the law returns true; each argument reads behind the call as it read before'; 0 by the template 'total and deterministic' (their statements: YtdilmfnijkjiaaaDoorTotals.lean).
  GIVEN WITH THE SEED: the statements are not yours to turn. If you find one false, say at which input.
  Laid BY PROGRAM, IN A SANDBOX (cutbox-rows.mjs): the forced cells as the released guide's own fill.sh prints them over the translation a48bc230c6a4723a… (all of the seat's roots in one cut). By AI agents, Wed Nov 11 2026. No macro, syntax, notation, axiom, sorry.
-/
import Derived.Test.YtdilmfnijkjiaaaDoorChecked
import GoSem.PinnedTables
import GoSem.Claim
import GoSem.ClaimJoined
import GoSem.ClaimMapViews
import Derived.JoinedTies
import Derived.KernelRfl
namespace Go.Proofs.YtdilmfnijkjiaaaDoor
/- THE CELL 'sum', in the pinned program and in every row, IS THE sha256 OF THE DUMP (.gsa) THAT YtdilmfnijkjiaaaDoorProg.lean LOADS. Nothing in Lean hashes anything: it is a label: what it is worth is what the hold of that sum in a sandbox is worth. -/
noncomputable def Tryd.pinned : Pinned := { name := "ytdilmfnijkjiaaadoor", sum := "a48bc230c6a4723abe43b3b09df56cf927c8c37e36cd59d68ed4ba6d47e4bfd5", checked := Tryd.checked }
namespace Rows
def none {H : Type} : Left H := { results := [], args := [] }

/- WHAT THE LISTED PACKAGE-LEVEL VARIABLES READ AS WHEN THE CALL BEGINS. Each datum BY PROGRAM (the guide's laid-datum.mjs) off the statement by which the dump's own 'gosem.cut.vars' lays the variable. In a bare row this is a premise. The card (YtdilmfnijkjiaaaDoorCards.lean) ties it to the program's text. -/
def laid_math_bits_deBruijn32tab {H : Type} : DataW H := .agg [.lit (.int .u8 0), .lit (.int .u8 1), .lit (.int .u8 28), .lit (.int .u8 2), .lit (.int .u8 29), .lit (.int .u8 14), .lit (.int .u8 24), .lit (.int .u8 3), .lit (.int .u8 30), .lit (.int .u8 22), .lit (.int .u8 20), .lit (.int .u8 15), .lit (.int .u8 25), .lit (.int .u8 17), .lit (.int .u8 4), .lit (.int .u8 8), .lit (.int .u8 31), .lit (.int .u8 27), .lit (.int .u8 13), .lit (.int .u8 23), .lit (.int .u8 21), .lit (.int .u8 19), .lit (.int .u8 16), .lit (.int .u8 7), .lit (.int .u8 26), .lit (.int .u8 12), .lit (.int .u8 18), .lit (.int .u8 6), .lit (.int .u8 11), .lit (.int .u8 5), .lit (.int .u8 10), .lit (.int .u8 9)]
def laid_math_bits_deBruijn64tab {H : Type} : DataW H := .agg [.lit (.int .u8 0), .lit (.int .u8 1), .lit (.int .u8 56), .lit (.int .u8 2), .lit (.int .u8 57), .lit (.int .u8 49), .lit (.int .u8 28), .lit (.int .u8 3), .lit (.int .u8 61), .lit (.int .u8 58), .lit (.int .u8 42), .lit (.int .u8 50), .lit (.int .u8 38), .lit (.int .u8 29), .lit (.int .u8 17), .lit (.int .u8 4), .lit (.int .u8 62), .lit (.int .u8 47), .lit (.int .u8 59), .lit (.int .u8 36), .lit (.int .u8 45), .lit (.int .u8 43), .lit (.int .u8 51), .lit (.int .u8 22), .lit (.int .u8 53), .lit (.int .u8 39), .lit (.int .u8 33), .lit (.int .u8 30), .lit (.int .u8 24), .lit (.int .u8 18), .lit (.int .u8 12), .lit (.int .u8 5), .lit (.int .u8 63), .lit (.int .u8 55), .lit (.int .u8 48), .lit (.int .u8 27), .lit (.int .u8 60), .lit (.int .u8 41), .lit (.int .u8 37), .lit (.int .u8 16), .lit (.int .u8 46), .lit (.int .u8 35), .lit (.int .u8 44), .lit (.int .u8 21), .lit (.int .u8 52), .lit (.int .u8 32), .lit (.int .u8 23), .lit (.int .u8 11), .lit (.int .u8 54), .lit (.int .u8 26), .lit (.int .u8 40), .lit (.int .u8 15), .lit (.int .u8 34), .lit (.int .u8 20), .lit (.int .u8 31), .lit (.int .u8 10), .lit (.int .u8 25), .lit (.int .u8 14), .lit (.int .u8 19), .lit (.int .u8 9), .lit (.int .u8 13), .lit (.int .u8 8), .lit (.int .u8 7), .lit (.int .u8 6)]
def laid_internal_strconv_uint64pow10 {H : Type} : DataW H := .agg [.lit (.int .u64 1), .lit (.int .u64 10), .lit (.int .u64 100), .lit (.int .u64 1000), .lit (.int .u64 10000), .lit (.int .u64 100000), .lit (.int .u64 1000000), .lit (.int .u64 10000000), .lit (.int .u64 100000000), .lit (.int .u64 1000000000), .lit (.int .u64 10000000000), .lit (.int .u64 100000000000), .lit (.int .u64 1000000000000), .lit (.int .u64 10000000000000), .lit (.int .u64 100000000000000), .lit (.int .u64 1000000000000000), .lit (.int .u64 10000000000000000), .lit (.int .u64 100000000000000000), .lit (.int .u64 1000000000000000000), .lit (.int .u64 10000000000000000000)]
def laid_unicode_utf8_acceptRanges {H : Type} : DataW H := .agg [.agg [.lit (.int .u8 128), .lit (.int .u8 191)], .agg [.lit (.int .u8 160), .lit (.int .u8 191)], .agg [.lit (.int .u8 128), .lit (.int .u8 159)], .agg [.lit (.int .u8 144), .lit (.int .u8 191)], .agg [.lit (.int .u8 128), .lit (.int .u8 143)], .agg [.lit (.int .u8 0), .lit (.int .u8 0)], .agg [.lit (.int .u8 0), .lit (.int .u8 0)], .agg [.lit (.int .u8 0), .lit (.int .u8 0)], .agg [.lit (.int .u8 0), .lit (.int .u8 0)], .agg [.lit (.int .u8 0), .lit (.int .u8 0)], .agg [.lit (.int .u8 0), .lit (.int .u8 0)], .agg [.lit (.int .u8 0), .lit (.int .u8 0)], .agg [.lit (.int .u8 0), .lit (.int .u8 0)], .agg [.lit (.int .u8 0), .lit (.int .u8 0)], .agg [.lit (.int .u8 0), .lit (.int .u8 0)], .agg [.lit (.int .u8 0), .lit (.int .u8 0)]]
def laid_strconv_ErrRange {H : Type} : DataW H := .iface "*errors.errorString" (.ptr (.agg [.lit (.string [118, 97, 108, 117, 101, 32, 111, 117, 116, 32, 111, 102, 32, 114, 97, 110, 103, 101])]))
def laid_strconv_ErrSyntax {H : Type} : DataW H := .iface "*errors.errorString" (.ptr (.agg [.lit (.string [105, 110, 118, 97, 108, 105, 100, 32, 115, 121, 110, 116, 97, 120])]))
/-- One of Go's own tables, pinned by name: the form's constant. -/
def laid_unicode_utf8_first : DataW Unit := Go.Pinned.utf8First

/-- 'tidewaylaw07.InferSteps': WHATEVER THE INPUT: true; the input reads as it did. -/
def inferStepsSpec : ChangeSpec := { name := "inferSteps", fn := fun _ => fun
  | [d1, d2, d3] => { results := [.lit (.bool true)], args := [d1, d2, d3] }
  | _ => none }
def inferStepsRow : OpenClaim := { program := "ytdilmfnijkjiaaadoor", sum := "a48bc230c6a4723abe43b3b09df56cf927c8c37e36cd59d68ed4ba6d47e4bfd5", func := "tideway/tidewaylaw07.InferSteps", spec := "inferSteps", inPlace := ["internal/abi.NoEscape", "internal/bytealg.MakeNoZero"], unfollowed := true, recurses := true, named := ["internal/strconv.uint64pow10", "math/bits.deBruijn32tab", "math/bits.deBruijn64tab"], apart := false, laid := [("math/bits.deBruijn32tab", laid_math_bits_deBruijn32tab), ("math/bits.deBruijn64tab", laid_math_bits_deBruijn64tab), ("internal/strconv.uint64pow10", laid_internal_strconv_uint64pow10)] }
def InferStepsSaid : Prop := inferStepsRow.holds Tryd.pinned (OpenSpec.ofChange inferStepsSpec)

/-- ITS FALSE NEIGHBOUR: 'it returns false'. Refute it at one input. -/
def inferStepsWrong : ChangeSpec := { name := "inferSteps", fn := fun _ => fun
  | [d1, d2, d3] => { results := [.lit (.bool false)], args := [d1, d2, d3] }
  | _ => none }
def InferStepsWrongFalsely : Prop := inferStepsRow.holds Tryd.pinned (OpenSpec.ofChange inferStepsWrong)

/-- 'tidewaylaw07.InferBelow': WHATEVER THE INPUT: true; the input reads as it did. -/
def inferBelowSpec : ChangeSpec := { name := "inferBelow", fn := fun _ => fun
  | [d1, d2, d3, d4] => { results := [.lit (.bool true)], args := [d1, d2, d3, d4] }
  | _ => none }
def inferBelowRow : OpenClaim := { program := "ytdilmfnijkjiaaadoor", sum := "a48bc230c6a4723abe43b3b09df56cf927c8c37e36cd59d68ed4ba6d47e4bfd5", func := "tideway/tidewaylaw07.InferBelow", spec := "inferBelow", inPlace := ["internal/abi.NoEscape", "internal/bytealg.MakeNoZero"], unfollowed := true, recurses := true, named := ["internal/strconv.uint64pow10", "math/bits.deBruijn32tab", "math/bits.deBruijn64tab"], apart := false, laid := [("math/bits.deBruijn32tab", laid_math_bits_deBruijn32tab), ("math/bits.deBruijn64tab", laid_math_bits_deBruijn64tab), ("internal/strconv.uint64pow10", laid_internal_strconv_uint64pow10)] }
def InferBelowSaid : Prop := inferBelowRow.holds Tryd.pinned (OpenSpec.ofChange inferBelowSpec)

/-- ITS FALSE NEIGHBOUR: 'it returns false'. Refute it at one input. -/
def inferBelowWrong : ChangeSpec := { name := "inferBelow", fn := fun _ => fun
  | [d1, d2, d3, d4] => { results := [.lit (.bool false)], args := [d1, d2, d3, d4] }
  | _ => none }
def InferBelowWrongFalsely : Prop := inferBelowRow.holds Tryd.pinned (OpenSpec.ofChange inferBelowWrong)

/-- 'tidewaylaw07.InferNeeds': WHATEVER THE INPUT: true; the input reads as it did. -/
def inferNeedsSpec : ChangeSpec := { name := "inferNeeds", fn := fun _ => fun
  | [d1, d2, d3] => { results := [.lit (.bool true)], args := [d1, d2, d3] }
  | _ => none }
def inferNeedsRow : OpenClaim := { program := "ytdilmfnijkjiaaadoor", sum := "a48bc230c6a4723abe43b3b09df56cf927c8c37e36cd59d68ed4ba6d47e4bfd5", func := "tideway/tidewaylaw07.InferNeeds", spec := "inferNeeds", inPlace := ["internal/abi.NoEscape", "internal/bytealg.MakeNoZero"], unfollowed := true, recurses := true, named := ["internal/strconv.uint64pow10", "math/bits.deBruijn32tab", "math/bits.deBruijn64tab"], apart := false, laid := [("math/bits.deBruijn32tab", laid_math_bits_deBruijn32tab), ("math/bits.deBruijn64tab", laid_math_bits_deBruijn64tab), ("internal/strconv.uint64pow10", laid_internal_strconv_uint64pow10)] }
def InferNeedsSaid : Prop := inferNeedsRow.holds Tryd.pinned (OpenSpec.ofChange inferNeedsSpec)

/-- ITS FALSE NEIGHBOUR: 'it returns false'. Refute it at one input. -/
def inferNeedsWrong : ChangeSpec := { name := "inferNeeds", fn := fun _ => fun
  | [d1, d2, d3] => { results := [.lit (.bool false)], args := [d1, d2, d3] }
  | _ => none }
def InferNeedsWrongFalsely : Prop := inferNeedsRow.holds Tryd.pinned (OpenSpec.ofChange inferNeedsWrong)

/-- 'tidewaylaw07.InferObjects': WHATEVER THE INPUT: true; the input reads as it did. -/
def inferObjectsSpec : ChangeSpec := { name := "inferObjects", fn := fun _ => fun
  | [d1, d2, d3, d4] => { results := [.lit (.bool true)], args := [d1, d2, d3, d4] }
  | _ => none }
def inferObjectsRow : OpenClaim := { program := "ytdilmfnijkjiaaadoor", sum := "a48bc230c6a4723abe43b3b09df56cf927c8c37e36cd59d68ed4ba6d47e4bfd5", func := "tideway/tidewaylaw07.InferObjects", spec := "inferObjects", inPlace := ["internal/abi.NoEscape", "internal/bytealg.MakeNoZero"], unfollowed := true, recurses := true, named := ["internal/strconv.uint64pow10", "math/bits.deBruijn32tab", "math/bits.deBruijn64tab"], apart := false, laid := [("math/bits.deBruijn32tab", laid_math_bits_deBruijn32tab), ("math/bits.deBruijn64tab", laid_math_bits_deBruijn64tab), ("internal/strconv.uint64pow10", laid_internal_strconv_uint64pow10)] }
def InferObjectsSaid : Prop := inferObjectsRow.holds Tryd.pinned (OpenSpec.ofChange inferObjectsSpec)

/-- ITS FALSE NEIGHBOUR: 'it returns false'. Refute it at one input. -/
def inferObjectsWrong : ChangeSpec := { name := "inferObjects", fn := fun _ => fun
  | [d1, d2, d3, d4] => { results := [.lit (.bool false)], args := [d1, d2, d3, d4] }
  | _ => none }
def InferObjectsWrongFalsely : Prop := inferObjectsRow.holds Tryd.pinned (OpenSpec.ofChange inferObjectsWrong)

/-- 'tidewaylaw07.InferMaybes': WHATEVER THE INPUT: true; the input reads as it did. -/
def inferMaybesSpec : ChangeSpec := { name := "inferMaybes", fn := fun _ => fun
  | [d1, d2, d3] => { results := [.lit (.bool true)], args := [d1, d2, d3] }
  | _ => none }
def inferMaybesRow : OpenClaim := { program := "ytdilmfnijkjiaaadoor", sum := "a48bc230c6a4723abe43b3b09df56cf927c8c37e36cd59d68ed4ba6d47e4bfd5", func := "tideway/tidewaylaw07.InferMaybes", spec := "inferMaybes", inPlace := ["internal/abi.NoEscape", "internal/bytealg.MakeNoZero"], unfollowed := true, recurses := true, named := ["internal/strconv.uint64pow10", "math/bits.deBruijn32tab", "math/bits.deBruijn64tab"], apart := false, laid := [("math/bits.deBruijn32tab", laid_math_bits_deBruijn32tab), ("math/bits.deBruijn64tab", laid_math_bits_deBruijn64tab), ("internal/strconv.uint64pow10", laid_internal_strconv_uint64pow10)] }
def InferMaybesSaid : Prop := inferMaybesRow.holds Tryd.pinned (OpenSpec.ofChange inferMaybesSpec)

/-- ITS FALSE NEIGHBOUR: 'it returns false'. Refute it at one input. -/
def inferMaybesWrong : ChangeSpec := { name := "inferMaybes", fn := fun _ => fun
  | [d1, d2, d3] => { results := [.lit (.bool false)], args := [d1, d2, d3] }
  | _ => none }
def InferMaybesWrongFalsely : Prop := inferMaybesRow.holds Tryd.pinned (OpenSpec.ofChange inferMaybesWrong)

/-- 'tidewaylaw07.InferGrows': WHATEVER THE INPUT: true; the input reads as it did. -/
def inferGrowsSpec : ChangeSpec := { name := "inferGrows", fn := fun _ => fun
  | [d1, d2, d3, d4] => { results := [.lit (.bool true)], args := [d1, d2, d3, d4] }
  | _ => none }
def inferGrowsRow : OpenClaim := { program := "ytdilmfnijkjiaaadoor", sum := "a48bc230c6a4723abe43b3b09df56cf927c8c37e36cd59d68ed4ba6d47e4bfd5", func := "tideway/tidewaylaw07.InferGrows", spec := "inferGrows", inPlace := ["internal/abi.NoEscape", "internal/bytealg.MakeNoZero"], unfollowed := true, recurses := true, named := ["internal/strconv.uint64pow10", "math/bits.deBruijn32tab", "math/bits.deBruijn64tab"], apart := false, laid := [("math/bits.deBruijn32tab", laid_math_bits_deBruijn32tab), ("math/bits.deBruijn64tab", laid_math_bits_deBruijn64tab), ("internal/strconv.uint64pow10", laid_internal_strconv_uint64pow10)] }
def InferGrowsSaid : Prop := inferGrowsRow.holds Tryd.pinned (OpenSpec.ofChange inferGrowsSpec)

/-- ITS FALSE NEIGHBOUR: 'it returns false'. Refute it at one input. -/
def inferGrowsWrong : ChangeSpec := { name := "inferGrows", fn := fun _ => fun
  | [d1, d2, d3, d4] => { results := [.lit (.bool false)], args := [d1, d2, d3, d4] }
  | _ => none }
def InferGrowsWrongFalsely : Prop := inferGrowsRow.holds Tryd.pinned (OpenSpec.ofChange inferGrowsWrong)

/-- 'tidewaylaw07.InferRuns': WHATEVER THE INPUT: true; the input reads as it did. -/
def inferRunsSpec : ChangeSpec := { name := "inferRuns", fn := fun _ => fun
  | [d1, d2, d3, d4] => { results := [.lit (.bool true)], args := [d1, d2, d3, d4] }
  | _ => none }
def inferRunsRow : OpenClaim := { program := "ytdilmfnijkjiaaadoor", sum := "a48bc230c6a4723abe43b3b09df56cf927c8c37e36cd59d68ed4ba6d47e4bfd5", func := "tideway/tidewaylaw07.InferRuns", spec := "inferRuns", inPlace := ["internal/abi.NoEscape", "internal/bytealg.MakeNoZero"], unfollowed := true, recurses := true, named := ["internal/strconv.uint64pow10", "math/bits.deBruijn32tab", "math/bits.deBruijn64tab"], apart := false, laid := [("math/bits.deBruijn32tab", laid_math_bits_deBruijn32tab), ("math/bits.deBruijn64tab", laid_math_bits_deBruijn64tab), ("internal/strconv.uint64pow10", laid_internal_strconv_uint64pow10)] }
def InferRunsSaid : Prop := inferRunsRow.holds Tryd.pinned (OpenSpec.ofChange inferRunsSpec)

/-- ITS FALSE NEIGHBOUR: 'it returns false'. Refute it at one input. -/
def inferRunsWrong : ChangeSpec := { name := "inferRuns", fn := fun _ => fun
  | [d1, d2, d3, d4] => { results := [.lit (.bool false)], args := [d1, d2, d3, d4] }
  | _ => none }
def InferRunsWrongFalsely : Prop := inferRunsRow.holds Tryd.pinned (OpenSpec.ofChange inferRunsWrong)

/-- 'tidewaylaw04.InstrTexts': WHATEVER THE INPUT: true; the input reads as it did. -/
def instrTextsSpec : ChangeSpec := { name := "instrTexts", fn := fun _ => fun
  | [d] => { results := [.lit (.bool true)], args := [d] }
  | _ => none }
def instrTextsRow : OpenClaim := { program := "ytdilmfnijkjiaaadoor", sum := "a48bc230c6a4723abe43b3b09df56cf927c8c37e36cd59d68ed4ba6d47e4bfd5", func := "tideway/tidewaylaw04.InstrTexts", spec := "instrTexts", inPlace := ["internal/bytealg.CountString", "internal/bytealg.IndexByteString", "internal/bytealg.IndexString"], unfollowed := true, recurses := true, named := ["unicode/utf8.first", "unicode/utf8.acceptRanges", "internal/bytealg.MaxLen", "strconv.ErrSyntax", "strconv.ErrRange", "internal/strconv.uint64pow10", "math/bits.deBruijn32tab", "math/bits.deBruijn64tab"], apart := false, laid := [("math/bits.deBruijn32tab", laid_math_bits_deBruijn32tab), ("math/bits.deBruijn64tab", laid_math_bits_deBruijn64tab), ("internal/strconv.uint64pow10", laid_internal_strconv_uint64pow10), ("unicode/utf8.acceptRanges", laid_unicode_utf8_acceptRanges), ("strconv.ErrRange", laid_strconv_ErrRange), ("strconv.ErrSyntax", laid_strconv_ErrSyntax), ("unicode/utf8.first", laid_unicode_utf8_first)] }
def InstrTextsSaid : Prop := instrTextsRow.holds Tryd.pinned (OpenSpec.ofChange instrTextsSpec)

/-- ITS FALSE NEIGHBOUR: 'it returns false'. Refute it at one input. -/
def instrTextsWrong : ChangeSpec := { name := "instrTexts", fn := fun _ => fun
  | [d] => { results := [.lit (.bool false)], args := [d] }
  | _ => none }
def InstrTextsWrongFalsely : Prop := instrTextsRow.holds Tryd.pinned (OpenSpec.ofChange instrTextsWrong)

/-- 'tidewaylaw04.InstrParses': WHATEVER THE INPUT: true; the input reads as it did. -/
def instrParsesSpec : ChangeSpec := { name := "instrParses", fn := fun _ => fun
  | [d] => { results := [.lit (.bool true)], args := [d] }
  | _ => none }
def instrParsesRow : OpenClaim := { program := "ytdilmfnijkjiaaadoor", sum := "a48bc230c6a4723abe43b3b09df56cf927c8c37e36cd59d68ed4ba6d47e4bfd5", func := "tideway/tidewaylaw04.InstrParses", spec := "instrParses", inPlace := ["internal/bytealg.CountString", "internal/bytealg.IndexByteString", "internal/bytealg.IndexString"], unfollowed := true, recurses := true, named := ["unicode/utf8.first", "unicode/utf8.acceptRanges", "internal/bytealg.MaxLen", "strconv.ErrSyntax", "strconv.ErrRange", "internal/strconv.uint64pow10", "math/bits.deBruijn32tab", "math/bits.deBruijn64tab"], apart := false, laid := [("math/bits.deBruijn32tab", laid_math_bits_deBruijn32tab), ("math/bits.deBruijn64tab", laid_math_bits_deBruijn64tab), ("internal/strconv.uint64pow10", laid_internal_strconv_uint64pow10), ("unicode/utf8.acceptRanges", laid_unicode_utf8_acceptRanges), ("strconv.ErrRange", laid_strconv_ErrRange), ("strconv.ErrSyntax", laid_strconv_ErrSyntax), ("unicode/utf8.first", laid_unicode_utf8_first)] }
def InstrParsesSaid : Prop := instrParsesRow.holds Tryd.pinned (OpenSpec.ofChange instrParsesSpec)

/-- ITS FALSE NEIGHBOUR: 'it returns false'. Refute it at one input. -/
def instrParsesWrong : ChangeSpec := { name := "instrParses", fn := fun _ => fun
  | [d] => { results := [.lit (.bool false)], args := [d] }
  | _ => none }
def InstrParsesWrongFalsely : Prop := instrParsesRow.holds Tryd.pinned (OpenSpec.ofChange instrParsesWrong)

/-- 'tidewaylaw04.InstrBack': WHATEVER THE INPUT: true; the input reads as it did. -/
def instrBackSpec : ChangeSpec := { name := "instrBack", fn := fun _ => fun
  | [d1, d2] => { results := [.lit (.bool true)], args := [d1, d2] }
  | _ => none }
def instrBackRow : OpenClaim := { program := "ytdilmfnijkjiaaadoor", sum := "a48bc230c6a4723abe43b3b09df56cf927c8c37e36cd59d68ed4ba6d47e4bfd5", func := "tideway/tidewaylaw04.InstrBack", spec := "instrBack", inPlace := ["internal/bytealg.CountString", "internal/bytealg.IndexByteString", "internal/bytealg.IndexString"], unfollowed := true, recurses := true, named := ["unicode/utf8.first", "unicode/utf8.acceptRanges", "internal/bytealg.MaxLen", "strconv.ErrSyntax", "strconv.ErrRange", "internal/strconv.uint64pow10", "math/bits.deBruijn32tab", "math/bits.deBruijn64tab"], apart := false, laid := [("math/bits.deBruijn32tab", laid_math_bits_deBruijn32tab), ("math/bits.deBruijn64tab", laid_math_bits_deBruijn64tab), ("internal/strconv.uint64pow10", laid_internal_strconv_uint64pow10), ("unicode/utf8.acceptRanges", laid_unicode_utf8_acceptRanges), ("strconv.ErrRange", laid_strconv_ErrRange), ("strconv.ErrSyntax", laid_strconv_ErrSyntax), ("unicode/utf8.first", laid_unicode_utf8_first)] }
def InstrBackSaid : Prop := instrBackRow.holds Tryd.pinned (OpenSpec.ofChange instrBackSpec)

/-- ITS FALSE NEIGHBOUR: 'it returns false'. Refute it at one input. -/
def instrBackWrong : ChangeSpec := { name := "instrBack", fn := fun _ => fun
  | [d1, d2] => { results := [.lit (.bool false)], args := [d1, d2] }
  | _ => none }
def InstrBackWrongFalsely : Prop := instrBackRow.holds Tryd.pinned (OpenSpec.ofChange instrBackWrong)

/-- 'tidewaylaw04.InstrNames': WHATEVER THE INPUT: true; the input reads as it did. -/
def instrNamesSpec : ChangeSpec := { name := "instrNames", fn := fun _ => fun
  | [d1, d2] => { results := [.lit (.bool true)], args := [d1, d2] }
  | _ => none }
def instrNamesRow : OpenClaim := { program := "ytdilmfnijkjiaaadoor", sum := "a48bc230c6a4723abe43b3b09df56cf927c8c37e36cd59d68ed4ba6d47e4bfd5", func := "tideway/tidewaylaw04.InstrNames", spec := "instrNames", inPlace := ["internal/bytealg.CountString", "internal/bytealg.IndexByteString", "internal/bytealg.IndexString"], unfollowed := true, recurses := true, named := ["unicode/utf8.first", "unicode/utf8.acceptRanges", "internal/bytealg.MaxLen", "strconv.ErrSyntax", "strconv.ErrRange", "internal/strconv.uint64pow10", "math/bits.deBruijn32tab", "math/bits.deBruijn64tab"], apart := false, laid := [("math/bits.deBruijn32tab", laid_math_bits_deBruijn32tab), ("math/bits.deBruijn64tab", laid_math_bits_deBruijn64tab), ("internal/strconv.uint64pow10", laid_internal_strconv_uint64pow10), ("unicode/utf8.acceptRanges", laid_unicode_utf8_acceptRanges), ("strconv.ErrRange", laid_strconv_ErrRange), ("strconv.ErrSyntax", laid_strconv_ErrSyntax), ("unicode/utf8.first", laid_unicode_utf8_first)] }
def InstrNamesSaid : Prop := instrNamesRow.holds Tryd.pinned (OpenSpec.ofChange instrNamesSpec)

/-- ITS FALSE NEIGHBOUR: 'it returns false'. Refute it at one input. -/
def instrNamesWrong : ChangeSpec := { name := "instrNames", fn := fun _ => fun
  | [d1, d2] => { results := [.lit (.bool false)], args := [d1, d2] }
  | _ => none }
def InstrNamesWrongFalsely : Prop := instrNamesRow.holds Tryd.pinned (OpenSpec.ofChange instrNamesWrong)

/-- 'tidewaylaw04.InstrTable': WHATEVER THE INPUT: true; the input reads as it did. -/
def instrTableSpec : ChangeSpec := { name := "instrTable", fn := fun _ => fun
  | [d1, d2] => { results := [.lit (.bool true)], args := [d1, d2] }
  | _ => none }
def instrTableRow : OpenClaim := { program := "ytdilmfnijkjiaaadoor", sum := "a48bc230c6a4723abe43b3b09df56cf927c8c37e36cd59d68ed4ba6d47e4bfd5", func := "tideway/tidewaylaw04.InstrTable", spec := "instrTable", inPlace := ["internal/bytealg.CountString", "internal/bytealg.IndexByteString", "internal/bytealg.IndexString"], unfollowed := true, recurses := true, named := ["unicode/utf8.first", "unicode/utf8.acceptRanges", "internal/bytealg.MaxLen", "strconv.ErrSyntax", "strconv.ErrRange", "internal/strconv.uint64pow10", "math/bits.deBruijn32tab", "math/bits.deBruijn64tab"], apart := false, laid := [("math/bits.deBruijn32tab", laid_math_bits_deBruijn32tab), ("math/bits.deBruijn64tab", laid_math_bits_deBruijn64tab), ("internal/strconv.uint64pow10", laid_internal_strconv_uint64pow10), ("unicode/utf8.acceptRanges", laid_unicode_utf8_acceptRanges), ("strconv.ErrRange", laid_strconv_ErrRange), ("strconv.ErrSyntax", laid_strconv_ErrSyntax), ("unicode/utf8.first", laid_unicode_utf8_first)] }
def InstrTableSaid : Prop := instrTableRow.holds Tryd.pinned (OpenSpec.ofChange instrTableSpec)

/-- ITS FALSE NEIGHBOUR: 'it returns false'. Refute it at one input. -/
def instrTableWrong : ChangeSpec := { name := "instrTable", fn := fun _ => fun
  | [d1, d2] => { results := [.lit (.bool false)], args := [d1, d2] }
  | _ => none }
def InstrTableWrongFalsely : Prop := instrTableRow.holds Tryd.pinned (OpenSpec.ofChange instrTableWrong)

/-- 'tidewaylaw04.InstrRight': WHATEVER THE INPUT: true; the input reads as it did. -/
def instrRightSpec : ChangeSpec := { name := "instrRight", fn := fun _ => fun
  | [d1, d2] => { results := [.lit (.bool true)], args := [d1, d2] }
  | _ => none }
def instrRightRow : OpenClaim := { program := "ytdilmfnijkjiaaadoor", sum := "a48bc230c6a4723abe43b3b09df56cf927c8c37e36cd59d68ed4ba6d47e4bfd5", func := "tideway/tidewaylaw04.InstrRight", spec := "instrRight", inPlace := ["internal/bytealg.CountString", "internal/bytealg.IndexByteString", "internal/bytealg.IndexString"], unfollowed := true, recurses := true, named := ["unicode/utf8.first", "unicode/utf8.acceptRanges", "internal/bytealg.MaxLen", "strconv.ErrSyntax", "strconv.ErrRange", "internal/strconv.uint64pow10", "math/bits.deBruijn32tab", "math/bits.deBruijn64tab"], apart := false, laid := [("math/bits.deBruijn32tab", laid_math_bits_deBruijn32tab), ("math/bits.deBruijn64tab", laid_math_bits_deBruijn64tab), ("internal/strconv.uint64pow10", laid_internal_strconv_uint64pow10), ("unicode/utf8.acceptRanges", laid_unicode_utf8_acceptRanges), ("strconv.ErrRange", laid_strconv_ErrRange), ("strconv.ErrSyntax", laid_strconv_ErrSyntax), ("unicode/utf8.first", laid_unicode_utf8_first)] }
def InstrRightSaid : Prop := instrRightRow.holds Tryd.pinned (OpenSpec.ofChange instrRightSpec)

/-- ITS FALSE NEIGHBOUR: 'it returns false'. Refute it at one input. -/
def instrRightWrong : ChangeSpec := { name := "instrRight", fn := fun _ => fun
  | [d1, d2] => { results := [.lit (.bool false)], args := [d1, d2] }
  | _ => none }
def InstrRightWrongFalsely : Prop := instrRightRow.holds Tryd.pinned (OpenSpec.ofChange instrRightWrong)

/-- 'tidewaylaw04.InstrEffect': WHATEVER THE INPUT: true; the input reads as it did. -/
def instrEffectSpec : ChangeSpec := { name := "instrEffect", fn := fun _ => fun
  | [d1, d2] => { results := [.lit (.bool true)], args := [d1, d2] }
  | _ => none }
def instrEffectRow : OpenClaim := { program := "ytdilmfnijkjiaaadoor", sum := "a48bc230c6a4723abe43b3b09df56cf927c8c37e36cd59d68ed4ba6d47e4bfd5", func := "tideway/tidewaylaw04.InstrEffect", spec := "instrEffect", inPlace := ["internal/bytealg.CountString", "internal/bytealg.IndexByteString", "internal/bytealg.IndexString"], unfollowed := true, recurses := true, named := ["unicode/utf8.first", "unicode/utf8.acceptRanges", "internal/bytealg.MaxLen", "strconv.ErrSyntax", "strconv.ErrRange", "internal/strconv.uint64pow10", "math/bits.deBruijn32tab", "math/bits.deBruijn64tab"], apart := false, laid := [("math/bits.deBruijn32tab", laid_math_bits_deBruijn32tab), ("math/bits.deBruijn64tab", laid_math_bits_deBruijn64tab), ("internal/strconv.uint64pow10", laid_internal_strconv_uint64pow10), ("unicode/utf8.acceptRanges", laid_unicode_utf8_acceptRanges), ("strconv.ErrRange", laid_strconv_ErrRange), ("strconv.ErrSyntax", laid_strconv_ErrSyntax), ("unicode/utf8.first", laid_unicode_utf8_first)] }
def InstrEffectSaid : Prop := instrEffectRow.holds Tryd.pinned (OpenSpec.ofChange instrEffectSpec)

/-- ITS FALSE NEIGHBOUR: 'it returns false'. Refute it at one input. -/
def instrEffectWrong : ChangeSpec := { name := "instrEffect", fn := fun _ => fun
  | [d1, d2] => { results := [.lit (.bool false)], args := [d1, d2] }
  | _ => none }
def InstrEffectWrongFalsely : Prop := instrEffectRow.holds Tryd.pinned (OpenSpec.ofChange instrEffectWrong)

/-- 'tidewaylaw04.InstrWider': WHATEVER THE INPUT: true; the input reads as it did. -/
def instrWiderSpec : ChangeSpec := { name := "instrWider", fn := fun _ => fun
  | [d1, d2, d3] => { results := [.lit (.bool true)], args := [d1, d2, d3] }
  | _ => none }
def instrWiderRow : OpenClaim := { program := "ytdilmfnijkjiaaadoor", sum := "a48bc230c6a4723abe43b3b09df56cf927c8c37e36cd59d68ed4ba6d47e4bfd5", func := "tideway/tidewaylaw04.InstrWider", spec := "instrWider", inPlace := ["internal/bytealg.CountString", "internal/bytealg.IndexByteString", "internal/bytealg.IndexString"], unfollowed := true, recurses := true, named := ["unicode/utf8.first", "unicode/utf8.acceptRanges", "internal/bytealg.MaxLen", "strconv.ErrSyntax", "strconv.ErrRange", "internal/strconv.uint64pow10", "math/bits.deBruijn32tab", "math/bits.deBruijn64tab"], apart := false, laid := [("math/bits.deBruijn32tab", laid_math_bits_deBruijn32tab), ("math/bits.deBruijn64tab", laid_math_bits_deBruijn64tab), ("internal/strconv.uint64pow10", laid_internal_strconv_uint64pow10), ("unicode/utf8.acceptRanges", laid_unicode_utf8_acceptRanges), ("strconv.ErrRange", laid_strconv_ErrRange), ("strconv.ErrSyntax", laid_strconv_ErrSyntax), ("unicode/utf8.first", laid_unicode_utf8_first)] }
def InstrWiderSaid : Prop := instrWiderRow.holds Tryd.pinned (OpenSpec.ofChange instrWiderSpec)

/-- ITS FALSE NEIGHBOUR: 'it returns false'. Refute it at one input. -/
def instrWiderWrong : ChangeSpec := { name := "instrWider", fn := fun _ => fun
  | [d1, d2, d3] => { results := [.lit (.bool false)], args := [d1, d2, d3] }
  | _ => none }
def InstrWiderWrongFalsely : Prop := instrWiderRow.holds Tryd.pinned (OpenSpec.ofChange instrWiderWrong)

/-- 'tidewaylaw04.InstrFits': WHATEVER THE INPUT: true; the input reads as it did. -/
def instrFitsSpec : ChangeSpec := { name := "instrFits", fn := fun _ => fun
  | [d1, d2] => { results := [.lit (.bool true)], args := [d1, d2] }
  | _ => none }
def instrFitsRow : OpenClaim := { program := "ytdilmfnijkjiaaadoor", sum := "a48bc230c6a4723abe43b3b09df56cf927c8c37e36cd59d68ed4ba6d47e4bfd5", func := "tideway/tidewaylaw04.InstrFits", spec := "instrFits", inPlace := ["internal/bytealg.CountString", "internal/bytealg.IndexByteString", "internal/bytealg.IndexString"], unfollowed := true, recurses := true, named := ["unicode/utf8.first", "unicode/utf8.acceptRanges", "internal/bytealg.MaxLen", "strconv.ErrSyntax", "strconv.ErrRange", "internal/strconv.uint64pow10", "math/bits.deBruijn32tab", "math/bits.deBruijn64tab"], apart := false, laid := [("math/bits.deBruijn32tab", laid_math_bits_deBruijn32tab), ("math/bits.deBruijn64tab", laid_math_bits_deBruijn64tab), ("internal/strconv.uint64pow10", laid_internal_strconv_uint64pow10), ("unicode/utf8.acceptRanges", laid_unicode_utf8_acceptRanges), ("strconv.ErrRange", laid_strconv_ErrRange), ("strconv.ErrSyntax", laid_strconv_ErrSyntax), ("unicode/utf8.first", laid_unicode_utf8_first)] }
def InstrFitsSaid : Prop := instrFitsRow.holds Tryd.pinned (OpenSpec.ofChange instrFitsSpec)

/-- ITS FALSE NEIGHBOUR: 'it returns false'. Refute it at one input. -/
def instrFitsWrong : ChangeSpec := { name := "instrFits", fn := fun _ => fun
  | [d1, d2] => { results := [.lit (.bool false)], args := [d1, d2] }
  | _ => none }
def InstrFitsWrongFalsely : Prop := instrFitsRow.holds Tryd.pinned (OpenSpec.ofChange instrFitsWrong)

/- THE SECOND FORM. 'bulk': how many values and letters a reading holds, each counted each time it is reached (what is shared counts as often as it is met; a slice's spare places count too). A statement '..UptoSaid' is the law's where the arguments, and the package variables that the reading takes, are together of bulk at most 1048576: NARROWER than '..Said'. Prove '..Said' where nothing that the law and all that it calls make is longer than what came in: it says more and counts as full. Else prove '..UptoSaid'. A law counts once. -/
mutual
def uptoBulk {H : Type} : DataW H → Nat
  | .lit (.string bytes) => bytes.length + 1
  | .lit _ => 1
  | .nil => 1
  | .ptr d => uptoBulk d + 1
  | .slice elems spare => uptoBulkAll elems + uptoBulkAll spare + 1
  | .agg parts => uptoBulkAll parts + 1
  | .iface _ d => uptoBulk d + 1
  | .map entries => uptoBulkEntries entries + 1
  | .held _ => 1
def uptoBulkAll {H : Type} : List (DataW H) → Nat
  | [] => 0
  | d :: r => uptoBulk d + uptoBulkAll r
def uptoBulkEntries {H : Type} : List (Lit × DataW H) → Nat
  | [] => 0
  | x :: r => uptoBulkEntry x + uptoBulkEntries r
def uptoBulkEntry {H : Type} : Lit × DataW H → Nat
  | (.string bytes, d) => bytes.length + uptoBulk d + 1
  | (_, d) => uptoBulk d + 1
 end
def uptoSmall : (H : Type) → List (DataW H) → Bool := fun _ ds => decide (uptoBulkAll ds ≤ 1048576)
def OpenSpec.upto (s : _root_.Go.ChangeSpec) : _root_.Go.OpenSpec := { _root_.Go.OpenSpec.ofChange s with cond := some uptoSmall }

/-- 'tidewaylaw07.InferSteps', WHERE WHAT IT READS IS OF BULK AT MOST 1048576: true; the input reads as it did. -/
def inferStepsUptoRow : OpenClaim := { program := "ytdilmfnijkjiaaadoor", sum := "a48bc230c6a4723abe43b3b09df56cf927c8c37e36cd59d68ed4ba6d47e4bfd5", func := "tideway/tidewaylaw07.InferSteps", spec := "inferSteps", inPlace := ["internal/abi.NoEscape", "internal/bytealg.MakeNoZero"], unfollowed := true, recurses := true, named := ["internal/strconv.uint64pow10", "math/bits.deBruijn32tab", "math/bits.deBruijn64tab"], apart := false, laid := [("math/bits.deBruijn32tab", laid_math_bits_deBruijn32tab), ("math/bits.deBruijn64tab", laid_math_bits_deBruijn64tab), ("internal/strconv.uint64pow10", laid_internal_strconv_uint64pow10)], narrowed := true }
def InferStepsUptoSaid : Prop := inferStepsUptoRow.holds Tryd.pinned (OpenSpec.upto inferStepsSpec)

/-- 'tidewaylaw07.InferBelow', WHERE WHAT IT READS IS OF BULK AT MOST 1048576: true; the input reads as it did. -/
def inferBelowUptoRow : OpenClaim := { program := "ytdilmfnijkjiaaadoor", sum := "a48bc230c6a4723abe43b3b09df56cf927c8c37e36cd59d68ed4ba6d47e4bfd5", func := "tideway/tidewaylaw07.InferBelow", spec := "inferBelow", inPlace := ["internal/abi.NoEscape", "internal/bytealg.MakeNoZero"], unfollowed := true, recurses := true, named := ["internal/strconv.uint64pow10", "math/bits.deBruijn32tab", "math/bits.deBruijn64tab"], apart := false, laid := [("math/bits.deBruijn32tab", laid_math_bits_deBruijn32tab), ("math/bits.deBruijn64tab", laid_math_bits_deBruijn64tab), ("internal/strconv.uint64pow10", laid_internal_strconv_uint64pow10)], narrowed := true }
def InferBelowUptoSaid : Prop := inferBelowUptoRow.holds Tryd.pinned (OpenSpec.upto inferBelowSpec)

/-- 'tidewaylaw07.InferNeeds', WHERE WHAT IT READS IS OF BULK AT MOST 1048576: true; the input reads as it did. -/
def inferNeedsUptoRow : OpenClaim := { program := "ytdilmfnijkjiaaadoor", sum := "a48bc230c6a4723abe43b3b09df56cf927c8c37e36cd59d68ed4ba6d47e4bfd5", func := "tideway/tidewaylaw07.InferNeeds", spec := "inferNeeds", inPlace := ["internal/abi.NoEscape", "internal/bytealg.MakeNoZero"], unfollowed := true, recurses := true, named := ["internal/strconv.uint64pow10", "math/bits.deBruijn32tab", "math/bits.deBruijn64tab"], apart := false, laid := [("math/bits.deBruijn32tab", laid_math_bits_deBruijn32tab), ("math/bits.deBruijn64tab", laid_math_bits_deBruijn64tab), ("internal/strconv.uint64pow10", laid_internal_strconv_uint64pow10)], narrowed := true }
def InferNeedsUptoSaid : Prop := inferNeedsUptoRow.holds Tryd.pinned (OpenSpec.upto inferNeedsSpec)

/-- 'tidewaylaw07.InferObjects', WHERE WHAT IT READS IS OF BULK AT MOST 1048576: true; the input reads as it did. -/
def inferObjectsUptoRow : OpenClaim := { program := "ytdilmfnijkjiaaadoor", sum := "a48bc230c6a4723abe43b3b09df56cf927c8c37e36cd59d68ed4ba6d47e4bfd5", func := "tideway/tidewaylaw07.InferObjects", spec := "inferObjects", inPlace := ["internal/abi.NoEscape", "internal/bytealg.MakeNoZero"], unfollowed := true, recurses := true, named := ["internal/strconv.uint64pow10", "math/bits.deBruijn32tab", "math/bits.deBruijn64tab"], apart := false, laid := [("math/bits.deBruijn32tab", laid_math_bits_deBruijn32tab), ("math/bits.deBruijn64tab", laid_math_bits_deBruijn64tab), ("internal/strconv.uint64pow10", laid_internal_strconv_uint64pow10)], narrowed := true }
def InferObjectsUptoSaid : Prop := inferObjectsUptoRow.holds Tryd.pinned (OpenSpec.upto inferObjectsSpec)

/-- 'tidewaylaw07.InferMaybes', WHERE WHAT IT READS IS OF BULK AT MOST 1048576: true; the input reads as it did. -/
def inferMaybesUptoRow : OpenClaim := { program := "ytdilmfnijkjiaaadoor", sum := "a48bc230c6a4723abe43b3b09df56cf927c8c37e36cd59d68ed4ba6d47e4bfd5", func := "tideway/tidewaylaw07.InferMaybes", spec := "inferMaybes", inPlace := ["internal/abi.NoEscape", "internal/bytealg.MakeNoZero"], unfollowed := true, recurses := true, named := ["internal/strconv.uint64pow10", "math/bits.deBruijn32tab", "math/bits.deBruijn64tab"], apart := false, laid := [("math/bits.deBruijn32tab", laid_math_bits_deBruijn32tab), ("math/bits.deBruijn64tab", laid_math_bits_deBruijn64tab), ("internal/strconv.uint64pow10", laid_internal_strconv_uint64pow10)], narrowed := true }
def InferMaybesUptoSaid : Prop := inferMaybesUptoRow.holds Tryd.pinned (OpenSpec.upto inferMaybesSpec)

/-- 'tidewaylaw07.InferGrows', WHERE WHAT IT READS IS OF BULK AT MOST 1048576: true; the input reads as it did. -/
def inferGrowsUptoRow : OpenClaim := { program := "ytdilmfnijkjiaaadoor", sum := "a48bc230c6a4723abe43b3b09df56cf927c8c37e36cd59d68ed4ba6d47e4bfd5", func := "tideway/tidewaylaw07.InferGrows", spec := "inferGrows", inPlace := ["internal/abi.NoEscape", "internal/bytealg.MakeNoZero"], unfollowed := true, recurses := true, named := ["internal/strconv.uint64pow10", "math/bits.deBruijn32tab", "math/bits.deBruijn64tab"], apart := false, laid := [("math/bits.deBruijn32tab", laid_math_bits_deBruijn32tab), ("math/bits.deBruijn64tab", laid_math_bits_deBruijn64tab), ("internal/strconv.uint64pow10", laid_internal_strconv_uint64pow10)], narrowed := true }
def InferGrowsUptoSaid : Prop := inferGrowsUptoRow.holds Tryd.pinned (OpenSpec.upto inferGrowsSpec)

/-- 'tidewaylaw07.InferRuns', WHERE WHAT IT READS IS OF BULK AT MOST 1048576: true; the input reads as it did. -/
def inferRunsUptoRow : OpenClaim := { program := "ytdilmfnijkjiaaadoor", sum := "a48bc230c6a4723abe43b3b09df56cf927c8c37e36cd59d68ed4ba6d47e4bfd5", func := "tideway/tidewaylaw07.InferRuns", spec := "inferRuns", inPlace := ["internal/abi.NoEscape", "internal/bytealg.MakeNoZero"], unfollowed := true, recurses := true, named := ["internal/strconv.uint64pow10", "math/bits.deBruijn32tab", "math/bits.deBruijn64tab"], apart := false, laid := [("math/bits.deBruijn32tab", laid_math_bits_deBruijn32tab), ("math/bits.deBruijn64tab", laid_math_bits_deBruijn64tab), ("internal/strconv.uint64pow10", laid_internal_strconv_uint64pow10)], narrowed := true }
def InferRunsUptoSaid : Prop := inferRunsUptoRow.holds Tryd.pinned (OpenSpec.upto inferRunsSpec)

/-- 'tidewaylaw04.InstrTexts', WHERE WHAT IT READS IS OF BULK AT MOST 1048576: true; the input reads as it did. -/
def instrTextsUptoRow : OpenClaim := { program := "ytdilmfnijkjiaaadoor", sum := "a48bc230c6a4723abe43b3b09df56cf927c8c37e36cd59d68ed4ba6d47e4bfd5", func := "tideway/tidewaylaw04.InstrTexts", spec := "instrTexts", inPlace := ["internal/bytealg.CountString", "internal/bytealg.IndexByteString", "internal/bytealg.IndexString"], unfollowed := true, recurses := true, named := ["unicode/utf8.first", "unicode/utf8.acceptRanges", "internal/bytealg.MaxLen", "strconv.ErrSyntax", "strconv.ErrRange", "internal/strconv.uint64pow10", "math/bits.deBruijn32tab", "math/bits.deBruijn64tab"], apart := false, laid := [("math/bits.deBruijn32tab", laid_math_bits_deBruijn32tab), ("math/bits.deBruijn64tab", laid_math_bits_deBruijn64tab), ("internal/strconv.uint64pow10", laid_internal_strconv_uint64pow10), ("unicode/utf8.acceptRanges", laid_unicode_utf8_acceptRanges), ("strconv.ErrRange", laid_strconv_ErrRange), ("strconv.ErrSyntax", laid_strconv_ErrSyntax), ("unicode/utf8.first", laid_unicode_utf8_first)], narrowed := true }
def InstrTextsUptoSaid : Prop := instrTextsUptoRow.holds Tryd.pinned (OpenSpec.upto instrTextsSpec)

/-- 'tidewaylaw04.InstrParses', WHERE WHAT IT READS IS OF BULK AT MOST 1048576: true; the input reads as it did. -/
def instrParsesUptoRow : OpenClaim := { program := "ytdilmfnijkjiaaadoor", sum := "a48bc230c6a4723abe43b3b09df56cf927c8c37e36cd59d68ed4ba6d47e4bfd5", func := "tideway/tidewaylaw04.InstrParses", spec := "instrParses", inPlace := ["internal/bytealg.CountString", "internal/bytealg.IndexByteString", "internal/bytealg.IndexString"], unfollowed := true, recurses := true, named := ["unicode/utf8.first", "unicode/utf8.acceptRanges", "internal/bytealg.MaxLen", "strconv.ErrSyntax", "strconv.ErrRange", "internal/strconv.uint64pow10", "math/bits.deBruijn32tab", "math/bits.deBruijn64tab"], apart := false, laid := [("math/bits.deBruijn32tab", laid_math_bits_deBruijn32tab), ("math/bits.deBruijn64tab", laid_math_bits_deBruijn64tab), ("internal/strconv.uint64pow10", laid_internal_strconv_uint64pow10), ("unicode/utf8.acceptRanges", laid_unicode_utf8_acceptRanges), ("strconv.ErrRange", laid_strconv_ErrRange), ("strconv.ErrSyntax", laid_strconv_ErrSyntax), ("unicode/utf8.first", laid_unicode_utf8_first)], narrowed := true }
def InstrParsesUptoSaid : Prop := instrParsesUptoRow.holds Tryd.pinned (OpenSpec.upto instrParsesSpec)

/-- 'tidewaylaw04.InstrBack', WHERE WHAT IT READS IS OF BULK AT MOST 1048576: true; the input reads as it did. -/
def instrBackUptoRow : OpenClaim := { program := "ytdilmfnijkjiaaadoor", sum := "a48bc230c6a4723abe43b3b09df56cf927c8c37e36cd59d68ed4ba6d47e4bfd5", func := "tideway/tidewaylaw04.InstrBack", spec := "instrBack", inPlace := ["internal/bytealg.CountString", "internal/bytealg.IndexByteString", "internal/bytealg.IndexString"], unfollowed := true, recurses := true, named := ["unicode/utf8.first", "unicode/utf8.acceptRanges", "internal/bytealg.MaxLen", "strconv.ErrSyntax", "strconv.ErrRange", "internal/strconv.uint64pow10", "math/bits.deBruijn32tab", "math/bits.deBruijn64tab"], apart := false, laid := [("math/bits.deBruijn32tab", laid_math_bits_deBruijn32tab), ("math/bits.deBruijn64tab", laid_math_bits_deBruijn64tab), ("internal/strconv.uint64pow10", laid_internal_strconv_uint64pow10), ("unicode/utf8.acceptRanges", laid_unicode_utf8_acceptRanges), ("strconv.ErrRange", laid_strconv_ErrRange), ("strconv.ErrSyntax", laid_strconv_ErrSyntax), ("unicode/utf8.first", laid_unicode_utf8_first)], narrowed := true }
def InstrBackUptoSaid : Prop := instrBackUptoRow.holds Tryd.pinned (OpenSpec.upto instrBackSpec)

/-- 'tidewaylaw04.InstrNames', WHERE WHAT IT READS IS OF BULK AT MOST 1048576: true; the input reads as it did. -/
def instrNamesUptoRow : OpenClaim := { program := "ytdilmfnijkjiaaadoor", sum := "a48bc230c6a4723abe43b3b09df56cf927c8c37e36cd59d68ed4ba6d47e4bfd5", func := "tideway/tidewaylaw04.InstrNames", spec := "instrNames", inPlace := ["internal/bytealg.CountString", "internal/bytealg.IndexByteString", "internal/bytealg.IndexString"], unfollowed := true, recurses := true, named := ["unicode/utf8.first", "unicode/utf8.acceptRanges", "internal/bytealg.MaxLen", "strconv.ErrSyntax", "strconv.ErrRange", "internal/strconv.uint64pow10", "math/bits.deBruijn32tab", "math/bits.deBruijn64tab"], apart := false, laid := [("math/bits.deBruijn32tab", laid_math_bits_deBruijn32tab), ("math/bits.deBruijn64tab", laid_math_bits_deBruijn64tab), ("internal/strconv.uint64pow10", laid_internal_strconv_uint64pow10), ("unicode/utf8.acceptRanges", laid_unicode_utf8_acceptRanges), ("strconv.ErrRange", laid_strconv_ErrRange), ("strconv.ErrSyntax", laid_strconv_ErrSyntax), ("unicode/utf8.first", laid_unicode_utf8_first)], narrowed := true }
def InstrNamesUptoSaid : Prop := instrNamesUptoRow.holds Tryd.pinned (OpenSpec.upto instrNamesSpec)

/-- 'tidewaylaw04.InstrTable', WHERE WHAT IT READS IS OF BULK AT MOST 1048576: true; the input reads as it did. -/
def instrTableUptoRow : OpenClaim := { program := "ytdilmfnijkjiaaadoor", sum := "a48bc230c6a4723abe43b3b09df56cf927c8c37e36cd59d68ed4ba6d47e4bfd5", func := "tideway/tidewaylaw04.InstrTable", spec := "instrTable", inPlace := ["internal/bytealg.CountString", "internal/bytealg.IndexByteString", "internal/bytealg.IndexString"], unfollowed := true, recurses := true, named := ["unicode/utf8.first", "unicode/utf8.acceptRanges", "internal/bytealg.MaxLen", "strconv.ErrSyntax", "strconv.ErrRange", "internal/strconv.uint64pow10", "math/bits.deBruijn32tab", "math/bits.deBruijn64tab"], apart := false, laid := [("math/bits.deBruijn32tab", laid_math_bits_deBruijn32tab), ("math/bits.deBruijn64tab", laid_math_bits_deBruijn64tab), ("internal/strconv.uint64pow10", laid_internal_strconv_uint64pow10), ("unicode/utf8.acceptRanges", laid_unicode_utf8_acceptRanges), ("strconv.ErrRange", laid_strconv_ErrRange), ("strconv.ErrSyntax", laid_strconv_ErrSyntax), ("unicode/utf8.first", laid_unicode_utf8_first)], narrowed := true }
def InstrTableUptoSaid : Prop := instrTableUptoRow.holds Tryd.pinned (OpenSpec.upto instrTableSpec)

/-- 'tidewaylaw04.InstrRight', WHERE WHAT IT READS IS OF BULK AT MOST 1048576: true; the input reads as it did. -/
def instrRightUptoRow : OpenClaim := { program := "ytdilmfnijkjiaaadoor", sum := "a48bc230c6a4723abe43b3b09df56cf927c8c37e36cd59d68ed4ba6d47e4bfd5", func := "tideway/tidewaylaw04.InstrRight", spec := "instrRight", inPlace := ["internal/bytealg.CountString", "internal/bytealg.IndexByteString", "internal/bytealg.IndexString"], unfollowed := true, recurses := true, named := ["unicode/utf8.first", "unicode/utf8.acceptRanges", "internal/bytealg.MaxLen", "strconv.ErrSyntax", "strconv.ErrRange", "internal/strconv.uint64pow10", "math/bits.deBruijn32tab", "math/bits.deBruijn64tab"], apart := false, laid := [("math/bits.deBruijn32tab", laid_math_bits_deBruijn32tab), ("math/bits.deBruijn64tab", laid_math_bits_deBruijn64tab), ("internal/strconv.uint64pow10", laid_internal_strconv_uint64pow10), ("unicode/utf8.acceptRanges", laid_unicode_utf8_acceptRanges), ("strconv.ErrRange", laid_strconv_ErrRange), ("strconv.ErrSyntax", laid_strconv_ErrSyntax), ("unicode/utf8.first", laid_unicode_utf8_first)], narrowed := true }
def InstrRightUptoSaid : Prop := instrRightUptoRow.holds Tryd.pinned (OpenSpec.upto instrRightSpec)

/-- 'tidewaylaw04.InstrEffect', WHERE WHAT IT READS IS OF BULK AT MOST 1048576: true; the input reads as it did. -/
def instrEffectUptoRow : OpenClaim := { program := "ytdilmfnijkjiaaadoor", sum := "a48bc230c6a4723abe43b3b09df56cf927c8c37e36cd59d68ed4ba6d47e4bfd5", func := "tideway/tidewaylaw04.InstrEffect", spec := "instrEffect", inPlace := ["internal/bytealg.CountString", "internal/bytealg.IndexByteString", "internal/bytealg.IndexString"], unfollowed := true, recurses := true, named := ["unicode/utf8.first", "unicode/utf8.acceptRanges", "internal/bytealg.MaxLen", "strconv.ErrSyntax", "strconv.ErrRange", "internal/strconv.uint64pow10", "math/bits.deBruijn32tab", "math/bits.deBruijn64tab"], apart := false, laid := [("math/bits.deBruijn32tab", laid_math_bits_deBruijn32tab), ("math/bits.deBruijn64tab", laid_math_bits_deBruijn64tab), ("internal/strconv.uint64pow10", laid_internal_strconv_uint64pow10), ("unicode/utf8.acceptRanges", laid_unicode_utf8_acceptRanges), ("strconv.ErrRange", laid_strconv_ErrRange), ("strconv.ErrSyntax", laid_strconv_ErrSyntax), ("unicode/utf8.first", laid_unicode_utf8_first)], narrowed := true }
def InstrEffectUptoSaid : Prop := instrEffectUptoRow.holds Tryd.pinned (OpenSpec.upto instrEffectSpec)

/-- 'tidewaylaw04.InstrWider', WHERE WHAT IT READS IS OF BULK AT MOST 1048576: true; the input reads as it did. -/
def instrWiderUptoRow : OpenClaim := { program := "ytdilmfnijkjiaaadoor", sum := "a48bc230c6a4723abe43b3b09df56cf927c8c37e36cd59d68ed4ba6d47e4bfd5", func := "tideway/tidewaylaw04.InstrWider", spec := "instrWider", inPlace := ["internal/bytealg.CountString", "internal/bytealg.IndexByteString", "internal/bytealg.IndexString"], unfollowed := true, recurses := true, named := ["unicode/utf8.first", "unicode/utf8.acceptRanges", "internal/bytealg.MaxLen", "strconv.ErrSyntax", "strconv.ErrRange", "internal/strconv.uint64pow10", "math/bits.deBruijn32tab", "math/bits.deBruijn64tab"], apart := false, laid := [("math/bits.deBruijn32tab", laid_math_bits_deBruijn32tab), ("math/bits.deBruijn64tab", laid_math_bits_deBruijn64tab), ("internal/strconv.uint64pow10", laid_internal_strconv_uint64pow10), ("unicode/utf8.acceptRanges", laid_unicode_utf8_acceptRanges), ("strconv.ErrRange", laid_strconv_ErrRange), ("strconv.ErrSyntax", laid_strconv_ErrSyntax), ("unicode/utf8.first", laid_unicode_utf8_first)], narrowed := true }
def InstrWiderUptoSaid : Prop := instrWiderUptoRow.holds Tryd.pinned (OpenSpec.upto instrWiderSpec)

/-- 'tidewaylaw04.InstrFits', WHERE WHAT IT READS IS OF BULK AT MOST 1048576: true; the input reads as it did. -/
def instrFitsUptoRow : OpenClaim := { program := "ytdilmfnijkjiaaadoor", sum := "a48bc230c6a4723abe43b3b09df56cf927c8c37e36cd59d68ed4ba6d47e4bfd5", func := "tideway/tidewaylaw04.InstrFits", spec := "instrFits", inPlace := ["internal/bytealg.CountString", "internal/bytealg.IndexByteString", "internal/bytealg.IndexString"], unfollowed := true, recurses := true, named := ["unicode/utf8.first", "unicode/utf8.acceptRanges", "internal/bytealg.MaxLen", "strconv.ErrSyntax", "strconv.ErrRange", "internal/strconv.uint64pow10", "math/bits.deBruijn32tab", "math/bits.deBruijn64tab"], apart := false, laid := [("math/bits.deBruijn32tab", laid_math_bits_deBruijn32tab), ("math/bits.deBruijn64tab", laid_math_bits_deBruijn64tab), ("internal/strconv.uint64pow10", laid_internal_strconv_uint64pow10), ("unicode/utf8.acceptRanges", laid_unicode_utf8_acceptRanges), ("strconv.ErrRange", laid_strconv_ErrRange), ("strconv.ErrSyntax", laid_strconv_ErrSyntax), ("unicode/utf8.first", laid_unicode_utf8_first)], narrowed := true }
def InstrFitsUptoSaid : Prop := instrFitsUptoRow.holds Tryd.pinned (OpenSpec.upto instrFitsSpec)

end Rows
end Go.Proofs.YtdilmfnijkjiaaaDoor
