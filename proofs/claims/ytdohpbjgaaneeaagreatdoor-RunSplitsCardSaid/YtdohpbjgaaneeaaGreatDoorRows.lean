/-
  NARROWER THAN 'FOR EVERY INPUT', by the rows' own cells (each row's printed sentence says how): InstanceMatchesReference: loops, laid · InstanceBudgets: loops, laid · InstanceMethods: loops, laid · InstancePlain: loops, laid · InstanceOrders: loops, laid · InstanceCloses: loops, laid · RunTraces: loops, laid · RunMore: loops, laid · RunPairs: loops, laid · RunSplits: loops, laid.
  DERIVED. THE GIVEN ROWS OF THIS SEAT. 10 by the template 'for every input the law returns true; each argument reads behind the call as it read before'; 0 by the template 'total and deterministic' (their statements: YtdohpbjgaaneeaaGreatDoorTotals.lean).
  GIVEN WITH THE SEED: the statements are not yours to turn. If you find one false, say at which input.
  Laid BY PROGRAM, IN A SANDBOX (cutbox-rows.mjs): the forced cells as the released guide's own fill.sh prints them over the translation d249cb1165b3a285… (all of the seat's roots in one cut). By AI agents, Wed Nov 11 2026. No macro, syntax, notation, axiom, sorry.
-/
import Derived.Test.YtdohpbjgaaneeaaGreatDoorChecked
import GoSem.PinnedTables
import GoSem.Claim
import GoSem.ClaimJoined
import GoSem.ClaimMapViews
import Derived.JoinedTies
import Derived.KernelRfl
namespace Go.Proofs.YtdohpbjgaaneeaaGreatDoor
/- THE CELL 'sum', in the pinned program and in every row, IS THE sha256 OF THE DUMP (.gsa) THAT YtdohpbjgaaneeaaGreatDoorProg.lean LOADS. Nothing in Lean hashes anything: it is a label: what it is worth is what the hold of that sum in a sandbox is worth. -/
noncomputable def Tryz.pinned : Pinned := { name := "ytdohpbjgaaneeaagreatdoor", sum := "d249cb1165b3a285720d5490417f90e405964852aa0189f40cb1a64abb71a104", checked := Tryz.checked }
namespace Rows
def none {H : Type} : Left H := { results := [], args := [] }

/- WHAT THE LISTED PACKAGE-LEVEL VARIABLES READ AS WHEN THE CALL BEGINS. Each datum BY PROGRAM (the guide's laid-datum.mjs) off the statement by which the dump's own 'gosem.cut.vars' lays the variable. In a bare row this is a premise. The card (YtdohpbjgaaneeaaGreatDoorCards.lean) ties it to the program's text. -/
def laid_math_bits_deBruijn32tab {H : Type} : DataW H := .agg [.lit (.int .u8 0), .lit (.int .u8 1), .lit (.int .u8 28), .lit (.int .u8 2), .lit (.int .u8 29), .lit (.int .u8 14), .lit (.int .u8 24), .lit (.int .u8 3), .lit (.int .u8 30), .lit (.int .u8 22), .lit (.int .u8 20), .lit (.int .u8 15), .lit (.int .u8 25), .lit (.int .u8 17), .lit (.int .u8 4), .lit (.int .u8 8), .lit (.int .u8 31), .lit (.int .u8 27), .lit (.int .u8 13), .lit (.int .u8 23), .lit (.int .u8 21), .lit (.int .u8 19), .lit (.int .u8 16), .lit (.int .u8 7), .lit (.int .u8 26), .lit (.int .u8 12), .lit (.int .u8 18), .lit (.int .u8 6), .lit (.int .u8 11), .lit (.int .u8 5), .lit (.int .u8 10), .lit (.int .u8 9)]
def laid_math_bits_deBruijn64tab {H : Type} : DataW H := .agg [.lit (.int .u8 0), .lit (.int .u8 1), .lit (.int .u8 56), .lit (.int .u8 2), .lit (.int .u8 57), .lit (.int .u8 49), .lit (.int .u8 28), .lit (.int .u8 3), .lit (.int .u8 61), .lit (.int .u8 58), .lit (.int .u8 42), .lit (.int .u8 50), .lit (.int .u8 38), .lit (.int .u8 29), .lit (.int .u8 17), .lit (.int .u8 4), .lit (.int .u8 62), .lit (.int .u8 47), .lit (.int .u8 59), .lit (.int .u8 36), .lit (.int .u8 45), .lit (.int .u8 43), .lit (.int .u8 51), .lit (.int .u8 22), .lit (.int .u8 53), .lit (.int .u8 39), .lit (.int .u8 33), .lit (.int .u8 30), .lit (.int .u8 24), .lit (.int .u8 18), .lit (.int .u8 12), .lit (.int .u8 5), .lit (.int .u8 63), .lit (.int .u8 55), .lit (.int .u8 48), .lit (.int .u8 27), .lit (.int .u8 60), .lit (.int .u8 41), .lit (.int .u8 37), .lit (.int .u8 16), .lit (.int .u8 46), .lit (.int .u8 35), .lit (.int .u8 44), .lit (.int .u8 21), .lit (.int .u8 52), .lit (.int .u8 32), .lit (.int .u8 23), .lit (.int .u8 11), .lit (.int .u8 54), .lit (.int .u8 26), .lit (.int .u8 40), .lit (.int .u8 15), .lit (.int .u8 34), .lit (.int .u8 20), .lit (.int .u8 31), .lit (.int .u8 10), .lit (.int .u8 25), .lit (.int .u8 14), .lit (.int .u8 19), .lit (.int .u8 9), .lit (.int .u8 13), .lit (.int .u8 8), .lit (.int .u8 7), .lit (.int .u8 6)]
def laid_internal_strconv_uint64pow10 {H : Type} : DataW H := .agg [.lit (.int .u64 1), .lit (.int .u64 10), .lit (.int .u64 100), .lit (.int .u64 1000), .lit (.int .u64 10000), .lit (.int .u64 100000), .lit (.int .u64 1000000), .lit (.int .u64 10000000), .lit (.int .u64 100000000), .lit (.int .u64 1000000000), .lit (.int .u64 10000000000), .lit (.int .u64 100000000000), .lit (.int .u64 1000000000000), .lit (.int .u64 10000000000000), .lit (.int .u64 100000000000000), .lit (.int .u64 1000000000000000), .lit (.int .u64 10000000000000000), .lit (.int .u64 100000000000000000), .lit (.int .u64 1000000000000000000), .lit (.int .u64 10000000000000000000)]
def laid_unicode_utf8_acceptRanges {H : Type} : DataW H := .agg [.agg [.lit (.int .u8 128), .lit (.int .u8 191)], .agg [.lit (.int .u8 160), .lit (.int .u8 191)], .agg [.lit (.int .u8 128), .lit (.int .u8 159)], .agg [.lit (.int .u8 144), .lit (.int .u8 191)], .agg [.lit (.int .u8 128), .lit (.int .u8 143)], .agg [.lit (.int .u8 0), .lit (.int .u8 0)], .agg [.lit (.int .u8 0), .lit (.int .u8 0)], .agg [.lit (.int .u8 0), .lit (.int .u8 0)], .agg [.lit (.int .u8 0), .lit (.int .u8 0)], .agg [.lit (.int .u8 0), .lit (.int .u8 0)], .agg [.lit (.int .u8 0), .lit (.int .u8 0)], .agg [.lit (.int .u8 0), .lit (.int .u8 0)], .agg [.lit (.int .u8 0), .lit (.int .u8 0)], .agg [.lit (.int .u8 0), .lit (.int .u8 0)], .agg [.lit (.int .u8 0), .lit (.int .u8 0)], .agg [.lit (.int .u8 0), .lit (.int .u8 0)]]
def laid_strconv_ErrRange {H : Type} : DataW H := .iface "*errors.errorString" (.ptr (.agg [.lit (.string [118, 97, 108, 117, 101, 32, 111, 117, 116, 32, 111, 102, 32, 114, 97, 110, 103, 101])]))
def laid_strconv_ErrSyntax {H : Type} : DataW H := .iface "*errors.errorString" (.ptr (.agg [.lit (.string [105, 110, 118, 97, 108, 105, 100, 32, 115, 121, 110, 116, 97, 120])]))
def laid_castings_run_words {H : Type} : DataW H := .agg [.lit (.string []), .lit (.string []), .lit (.string [118, 97, 108, 117, 101]), .lit (.string [112, 97, 110, 105, 99]), .lit (.string [115, 116, 117, 99, 107]), .lit (.string [102, 117, 101, 108])]
/-- One of Go's own tables, pinned by name: the form's constant. -/
def laid_unicode_utf8_first : DataW Unit := Go.Pinned.utf8First

/-- 'castingslaw21.InstanceMatchesReference': WHATEVER THE INPUT: true; the input reads as it did. -/
def instanceMatchesReferenceSpec : ChangeSpec := { name := "instanceMatchesReference", fn := fun _ => fun
  | [d1, d2] => { results := [.lit (.bool true)], args := [d1, d2] }
  | _ => none }
def instanceMatchesReferenceRow : OpenClaim := { program := "ytdohpbjgaaneeaagreatdoor", sum := "d249cb1165b3a285720d5490417f90e405964852aa0189f40cb1a64abb71a104", func := "castings/castingslaw21.InstanceMatchesReference", spec := "instanceMatchesReference", inPlace := ["internal/abi.NoEscape", "internal/bytealg.MakeNoZero", "maps.clone"], unfollowed := true, recurses := true, named := ["internal/strconv.uint64pow10", "math/bits.deBruijn32tab", "math/bits.deBruijn64tab"], loops := true, plainKeys := false, apart := false, laid := [("math/bits.deBruijn32tab", laid_math_bits_deBruijn32tab), ("math/bits.deBruijn64tab", laid_math_bits_deBruijn64tab), ("internal/strconv.uint64pow10", laid_internal_strconv_uint64pow10)] }
def InstanceMatchesReferenceSaid : Prop := instanceMatchesReferenceRow.holds Tryz.pinned (OpenSpec.ofChange instanceMatchesReferenceSpec)

/-- ITS FALSE NEIGHBOUR: 'it returns false'. Refute it at one input. -/
def instanceMatchesReferenceWrong : ChangeSpec := { name := "instanceMatchesReference", fn := fun _ => fun
  | [d1, d2] => { results := [.lit (.bool false)], args := [d1, d2] }
  | _ => none }
def InstanceMatchesReferenceWrongFalsely : Prop := instanceMatchesReferenceRow.holds Tryz.pinned (OpenSpec.ofChange instanceMatchesReferenceWrong)

/-- 'castingslaw21.InstanceBudgets': WHATEVER THE INPUT: true; the input reads as it did. -/
def instanceBudgetsSpec : ChangeSpec := { name := "instanceBudgets", fn := fun _ => fun
  | [d1, d2] => { results := [.lit (.bool true)], args := [d1, d2] }
  | _ => none }
def instanceBudgetsRow : OpenClaim := { program := "ytdohpbjgaaneeaagreatdoor", sum := "d249cb1165b3a285720d5490417f90e405964852aa0189f40cb1a64abb71a104", func := "castings/castingslaw21.InstanceBudgets", spec := "instanceBudgets", inPlace := ["internal/abi.NoEscape", "internal/bytealg.MakeNoZero", "maps.clone"], unfollowed := true, recurses := true, named := ["internal/strconv.uint64pow10", "math/bits.deBruijn32tab", "math/bits.deBruijn64tab"], loops := true, plainKeys := false, apart := false, laid := [("math/bits.deBruijn32tab", laid_math_bits_deBruijn32tab), ("math/bits.deBruijn64tab", laid_math_bits_deBruijn64tab), ("internal/strconv.uint64pow10", laid_internal_strconv_uint64pow10)] }
def InstanceBudgetsSaid : Prop := instanceBudgetsRow.holds Tryz.pinned (OpenSpec.ofChange instanceBudgetsSpec)

/-- ITS FALSE NEIGHBOUR: 'it returns false'. Refute it at one input. -/
def instanceBudgetsWrong : ChangeSpec := { name := "instanceBudgets", fn := fun _ => fun
  | [d1, d2] => { results := [.lit (.bool false)], args := [d1, d2] }
  | _ => none }
def InstanceBudgetsWrongFalsely : Prop := instanceBudgetsRow.holds Tryz.pinned (OpenSpec.ofChange instanceBudgetsWrong)

/-- 'castingslaw21.InstanceMethods': WHATEVER THE INPUT: true; the input reads as it did. -/
def instanceMethodsSpec : ChangeSpec := { name := "instanceMethods", fn := fun _ => fun
  | [d1, d2] => { results := [.lit (.bool true)], args := [d1, d2] }
  | _ => none }
def instanceMethodsRow : OpenClaim := { program := "ytdohpbjgaaneeaagreatdoor", sum := "d249cb1165b3a285720d5490417f90e405964852aa0189f40cb1a64abb71a104", func := "castings/castingslaw21.InstanceMethods", spec := "instanceMethods", inPlace := ["internal/abi.NoEscape", "internal/bytealg.MakeNoZero", "maps.clone"], unfollowed := true, recurses := true, named := ["internal/strconv.uint64pow10", "math/bits.deBruijn32tab", "math/bits.deBruijn64tab"], loops := true, plainKeys := false, apart := false, laid := [("math/bits.deBruijn32tab", laid_math_bits_deBruijn32tab), ("math/bits.deBruijn64tab", laid_math_bits_deBruijn64tab), ("internal/strconv.uint64pow10", laid_internal_strconv_uint64pow10)] }
def InstanceMethodsSaid : Prop := instanceMethodsRow.holds Tryz.pinned (OpenSpec.ofChange instanceMethodsSpec)

/-- ITS FALSE NEIGHBOUR: 'it returns false'. Refute it at one input. -/
def instanceMethodsWrong : ChangeSpec := { name := "instanceMethods", fn := fun _ => fun
  | [d1, d2] => { results := [.lit (.bool false)], args := [d1, d2] }
  | _ => none }
def InstanceMethodsWrongFalsely : Prop := instanceMethodsRow.holds Tryz.pinned (OpenSpec.ofChange instanceMethodsWrong)

/-- 'castingslaw21.InstancePlain': WHATEVER THE INPUT: true; the input reads as it did. -/
def instancePlainSpec : ChangeSpec := { name := "instancePlain", fn := fun _ => fun
  | [d] => { results := [.lit (.bool true)], args := [d] }
  | _ => none }
def instancePlainRow : OpenClaim := { program := "ytdohpbjgaaneeaagreatdoor", sum := "d249cb1165b3a285720d5490417f90e405964852aa0189f40cb1a64abb71a104", func := "castings/castingslaw21.InstancePlain", spec := "instancePlain", inPlace := ["internal/abi.NoEscape", "internal/bytealg.MakeNoZero", "maps.clone"], unfollowed := true, recurses := true, named := ["internal/strconv.uint64pow10", "math/bits.deBruijn32tab", "math/bits.deBruijn64tab"], loops := true, plainKeys := false, apart := false, laid := [("math/bits.deBruijn32tab", laid_math_bits_deBruijn32tab), ("math/bits.deBruijn64tab", laid_math_bits_deBruijn64tab), ("internal/strconv.uint64pow10", laid_internal_strconv_uint64pow10)] }
def InstancePlainSaid : Prop := instancePlainRow.holds Tryz.pinned (OpenSpec.ofChange instancePlainSpec)

/-- ITS FALSE NEIGHBOUR: 'it returns false'. Refute it at one input. -/
def instancePlainWrong : ChangeSpec := { name := "instancePlain", fn := fun _ => fun
  | [d] => { results := [.lit (.bool false)], args := [d] }
  | _ => none }
def InstancePlainWrongFalsely : Prop := instancePlainRow.holds Tryz.pinned (OpenSpec.ofChange instancePlainWrong)

/-- 'castingslaw21.InstanceOrders': WHATEVER THE INPUT: true; the input reads as it did. -/
def instanceOrdersSpec : ChangeSpec := { name := "instanceOrders", fn := fun _ => fun
  | [d1, d2, d3, d4] => { results := [.lit (.bool true)], args := [d1, d2, d3, d4] }
  | _ => none }
def instanceOrdersRow : OpenClaim := { program := "ytdohpbjgaaneeaagreatdoor", sum := "d249cb1165b3a285720d5490417f90e405964852aa0189f40cb1a64abb71a104", func := "castings/castingslaw21.InstanceOrders", spec := "instanceOrders", inPlace := ["internal/abi.NoEscape", "internal/bytealg.MakeNoZero", "maps.clone"], unfollowed := true, recurses := true, named := ["internal/strconv.uint64pow10", "math/bits.deBruijn32tab", "math/bits.deBruijn64tab"], loops := true, plainKeys := false, apart := false, laid := [("math/bits.deBruijn32tab", laid_math_bits_deBruijn32tab), ("math/bits.deBruijn64tab", laid_math_bits_deBruijn64tab), ("internal/strconv.uint64pow10", laid_internal_strconv_uint64pow10)] }
def InstanceOrdersSaid : Prop := instanceOrdersRow.holds Tryz.pinned (OpenSpec.ofChange instanceOrdersSpec)

/-- ITS FALSE NEIGHBOUR: 'it returns false'. Refute it at one input. -/
def instanceOrdersWrong : ChangeSpec := { name := "instanceOrders", fn := fun _ => fun
  | [d1, d2, d3, d4] => { results := [.lit (.bool false)], args := [d1, d2, d3, d4] }
  | _ => none }
def InstanceOrdersWrongFalsely : Prop := instanceOrdersRow.holds Tryz.pinned (OpenSpec.ofChange instanceOrdersWrong)

/-- 'castingslaw21.InstanceCloses': WHATEVER THE INPUT: true; the input reads as it did. -/
def instanceClosesSpec : ChangeSpec := { name := "instanceCloses", fn := fun _ => fun
  | [d] => { results := [.lit (.bool true)], args := [d] }
  | _ => none }
def instanceClosesRow : OpenClaim := { program := "ytdohpbjgaaneeaagreatdoor", sum := "d249cb1165b3a285720d5490417f90e405964852aa0189f40cb1a64abb71a104", func := "castings/castingslaw21.InstanceCloses", spec := "instanceCloses", inPlace := ["internal/abi.NoEscape", "internal/bytealg.MakeNoZero", "maps.clone"], unfollowed := true, recurses := true, named := ["internal/strconv.uint64pow10", "math/bits.deBruijn32tab", "math/bits.deBruijn64tab"], loops := true, plainKeys := false, apart := false, laid := [("math/bits.deBruijn32tab", laid_math_bits_deBruijn32tab), ("math/bits.deBruijn64tab", laid_math_bits_deBruijn64tab), ("internal/strconv.uint64pow10", laid_internal_strconv_uint64pow10)] }
def InstanceClosesSaid : Prop := instanceClosesRow.holds Tryz.pinned (OpenSpec.ofChange instanceClosesSpec)

/-- ITS FALSE NEIGHBOUR: 'it returns false'. Refute it at one input. -/
def instanceClosesWrong : ChangeSpec := { name := "instanceCloses", fn := fun _ => fun
  | [d] => { results := [.lit (.bool false)], args := [d] }
  | _ => none }
def InstanceClosesWrongFalsely : Prop := instanceClosesRow.holds Tryz.pinned (OpenSpec.ofChange instanceClosesWrong)

/-- 'castingslaw26.RunTraces': WHATEVER THE INPUT: true; the input reads as it did. -/
def runTracesSpec : ChangeSpec := { name := "runTraces", fn := fun _ => fun
  | [d1, d2] => { results := [.lit (.bool true)], args := [d1, d2] }
  | _ => none }
def runTracesRow : OpenClaim := { program := "ytdohpbjgaaneeaagreatdoor", sum := "d249cb1165b3a285720d5490417f90e405964852aa0189f40cb1a64abb71a104", func := "castings/castingslaw26.RunTraces", spec := "runTraces", inPlace := ["internal/bytealg.CountString", "internal/bytealg.IndexByteString", "internal/bytealg.IndexString", "internal/abi.NoEscape", "internal/bytealg.MakeNoZero"], unfollowed := true, recurses := true, named := ["strconv.ErrSyntax", "strconv.ErrRange", "internal/strconv.uint64pow10", "math/bits.deBruijn32tab", "math/bits.deBruijn64tab", "internal/bytealg.MaxLen", "unicode/utf8.first", "unicode/utf8.acceptRanges", "castings/run.words"], loops := true, plainKeys := false, apart := false, laid := [("math/bits.deBruijn32tab", laid_math_bits_deBruijn32tab), ("math/bits.deBruijn64tab", laid_math_bits_deBruijn64tab), ("internal/strconv.uint64pow10", laid_internal_strconv_uint64pow10), ("unicode/utf8.acceptRanges", laid_unicode_utf8_acceptRanges), ("strconv.ErrRange", laid_strconv_ErrRange), ("strconv.ErrSyntax", laid_strconv_ErrSyntax), ("castings/run.words", laid_castings_run_words), ("unicode/utf8.first", laid_unicode_utf8_first)] }
def RunTracesSaid : Prop := runTracesRow.holds Tryz.pinned (OpenSpec.ofChange runTracesSpec)

/-- ITS FALSE NEIGHBOUR: 'it returns false'. Refute it at one input. -/
def runTracesWrong : ChangeSpec := { name := "runTraces", fn := fun _ => fun
  | [d1, d2] => { results := [.lit (.bool false)], args := [d1, d2] }
  | _ => none }
def RunTracesWrongFalsely : Prop := runTracesRow.holds Tryz.pinned (OpenSpec.ofChange runTracesWrong)

/-- 'castingslaw26.RunMore': WHATEVER THE INPUT: true; the input reads as it did. -/
def runMoreSpec : ChangeSpec := { name := "runMore", fn := fun _ => fun
  | [d1, d2, d3] => { results := [.lit (.bool true)], args := [d1, d2, d3] }
  | _ => none }
def runMoreRow : OpenClaim := { program := "ytdohpbjgaaneeaagreatdoor", sum := "d249cb1165b3a285720d5490417f90e405964852aa0189f40cb1a64abb71a104", func := "castings/castingslaw26.RunMore", spec := "runMore", inPlace := ["internal/bytealg.CountString", "internal/bytealg.IndexByteString", "internal/bytealg.IndexString", "internal/abi.NoEscape", "internal/bytealg.MakeNoZero"], unfollowed := true, recurses := true, named := ["strconv.ErrSyntax", "strconv.ErrRange", "internal/strconv.uint64pow10", "math/bits.deBruijn32tab", "math/bits.deBruijn64tab", "internal/bytealg.MaxLen", "unicode/utf8.first", "unicode/utf8.acceptRanges", "castings/run.words"], loops := true, plainKeys := false, apart := false, laid := [("math/bits.deBruijn32tab", laid_math_bits_deBruijn32tab), ("math/bits.deBruijn64tab", laid_math_bits_deBruijn64tab), ("internal/strconv.uint64pow10", laid_internal_strconv_uint64pow10), ("unicode/utf8.acceptRanges", laid_unicode_utf8_acceptRanges), ("strconv.ErrRange", laid_strconv_ErrRange), ("strconv.ErrSyntax", laid_strconv_ErrSyntax), ("castings/run.words", laid_castings_run_words), ("unicode/utf8.first", laid_unicode_utf8_first)] }
def RunMoreSaid : Prop := runMoreRow.holds Tryz.pinned (OpenSpec.ofChange runMoreSpec)

/-- ITS FALSE NEIGHBOUR: 'it returns false'. Refute it at one input. -/
def runMoreWrong : ChangeSpec := { name := "runMore", fn := fun _ => fun
  | [d1, d2, d3] => { results := [.lit (.bool false)], args := [d1, d2, d3] }
  | _ => none }
def RunMoreWrongFalsely : Prop := runMoreRow.holds Tryz.pinned (OpenSpec.ofChange runMoreWrong)

/-- 'castingslaw26.RunPairs': WHATEVER THE INPUT: true; the input reads as it did. -/
def runPairsSpec : ChangeSpec := { name := "runPairs", fn := fun _ => fun
  | [d1, d2] => { results := [.lit (.bool true)], args := [d1, d2] }
  | _ => none }
def runPairsRow : OpenClaim := { program := "ytdohpbjgaaneeaagreatdoor", sum := "d249cb1165b3a285720d5490417f90e405964852aa0189f40cb1a64abb71a104", func := "castings/castingslaw26.RunPairs", spec := "runPairs", inPlace := ["internal/bytealg.CountString", "internal/bytealg.IndexByteString", "internal/bytealg.IndexString", "internal/abi.NoEscape", "internal/bytealg.MakeNoZero"], unfollowed := true, recurses := true, named := ["strconv.ErrSyntax", "strconv.ErrRange", "internal/strconv.uint64pow10", "math/bits.deBruijn32tab", "math/bits.deBruijn64tab", "internal/bytealg.MaxLen", "unicode/utf8.first", "unicode/utf8.acceptRanges", "castings/run.words"], loops := true, plainKeys := false, apart := false, laid := [("math/bits.deBruijn32tab", laid_math_bits_deBruijn32tab), ("math/bits.deBruijn64tab", laid_math_bits_deBruijn64tab), ("internal/strconv.uint64pow10", laid_internal_strconv_uint64pow10), ("unicode/utf8.acceptRanges", laid_unicode_utf8_acceptRanges), ("strconv.ErrRange", laid_strconv_ErrRange), ("strconv.ErrSyntax", laid_strconv_ErrSyntax), ("castings/run.words", laid_castings_run_words), ("unicode/utf8.first", laid_unicode_utf8_first)] }
def RunPairsSaid : Prop := runPairsRow.holds Tryz.pinned (OpenSpec.ofChange runPairsSpec)

/-- ITS FALSE NEIGHBOUR: 'it returns false'. Refute it at one input. -/
def runPairsWrong : ChangeSpec := { name := "runPairs", fn := fun _ => fun
  | [d1, d2] => { results := [.lit (.bool false)], args := [d1, d2] }
  | _ => none }
def RunPairsWrongFalsely : Prop := runPairsRow.holds Tryz.pinned (OpenSpec.ofChange runPairsWrong)

/-- 'castingslaw26.RunSplits': WHATEVER THE INPUT: true; the input reads as it did. -/
def runSplitsSpec : ChangeSpec := { name := "runSplits", fn := fun _ => fun
  | [d1, d2, d3] => { results := [.lit (.bool true)], args := [d1, d2, d3] }
  | _ => none }
def runSplitsRow : OpenClaim := { program := "ytdohpbjgaaneeaagreatdoor", sum := "d249cb1165b3a285720d5490417f90e405964852aa0189f40cb1a64abb71a104", func := "castings/castingslaw26.RunSplits", spec := "runSplits", inPlace := ["internal/bytealg.CountString", "internal/bytealg.IndexByteString", "internal/bytealg.IndexString", "internal/abi.NoEscape", "internal/bytealg.MakeNoZero"], unfollowed := true, recurses := true, named := ["strconv.ErrSyntax", "strconv.ErrRange", "internal/strconv.uint64pow10", "math/bits.deBruijn32tab", "math/bits.deBruijn64tab", "internal/bytealg.MaxLen", "unicode/utf8.first", "unicode/utf8.acceptRanges", "castings/run.words"], loops := true, plainKeys := false, apart := false, laid := [("math/bits.deBruijn32tab", laid_math_bits_deBruijn32tab), ("math/bits.deBruijn64tab", laid_math_bits_deBruijn64tab), ("internal/strconv.uint64pow10", laid_internal_strconv_uint64pow10), ("unicode/utf8.acceptRanges", laid_unicode_utf8_acceptRanges), ("strconv.ErrRange", laid_strconv_ErrRange), ("strconv.ErrSyntax", laid_strconv_ErrSyntax), ("castings/run.words", laid_castings_run_words), ("unicode/utf8.first", laid_unicode_utf8_first)] }
def RunSplitsSaid : Prop := runSplitsRow.holds Tryz.pinned (OpenSpec.ofChange runSplitsSpec)

/-- ITS FALSE NEIGHBOUR: 'it returns false'. Refute it at one input. -/
def runSplitsWrong : ChangeSpec := { name := "runSplits", fn := fun _ => fun
  | [d1, d2, d3] => { results := [.lit (.bool false)], args := [d1, d2, d3] }
  | _ => none }
def RunSplitsWrongFalsely : Prop := runSplitsRow.holds Tryz.pinned (OpenSpec.ofChange runSplitsWrong)

/- THE SECOND FORM. 'bulk': how many values and letters a reading holds, each counted each time it is reached (what is shared counts as often as it is met; a slice's spare places count too). A statement '..UptoSaid' is the law's where the arguments, and the package variables that the reading takes, are together of bulk at most 1048576: NARROWER than '..Said'. Prove '..Said' where nothing that the law and all that it calls make is longer than what came in: it says more and counts as full. Else prove '..UptoSaid'. A law counts once. -/
mutual
def uptoBulk {H : Type} : DataW H → Nat
  | .lit (.string bytes) => bytes.length + 1
  | .lit _ => 1
  | .nil => 1
  | .ptr d => uptoBulk d + 1
  | .slice elems spare => uptoBulkAll elems + uptoBulkAll spare + 1
  | .agg parts => uptoBulkAll parts + 1
  | .iface _ d => uptoBulk d + 1
  | .map entries => uptoBulkEntries entries + 1
  | .held _ => 1
def uptoBulkAll {H : Type} : List (DataW H) → Nat
  | [] => 0
  | d :: r => uptoBulk d + uptoBulkAll r
def uptoBulkEntries {H : Type} : List (Lit × DataW H) → Nat
  | [] => 0
  | x :: r => uptoBulkEntry x + uptoBulkEntries r
def uptoBulkEntry {H : Type} : Lit × DataW H → Nat
  | (.string bytes, d) => bytes.length + uptoBulk d + 1
  | (_, d) => uptoBulk d + 1
 end
def uptoSmall : (H : Type) → List (DataW H) → Bool := fun _ ds => decide (uptoBulkAll ds ≤ 1048576)
def OpenSpec.upto (s : _root_.Go.ChangeSpec) : _root_.Go.OpenSpec := { _root_.Go.OpenSpec.ofChange s with cond := some uptoSmall }

/-- 'castingslaw21.InstanceMatchesReference', WHERE WHAT IT READS IS OF BULK AT MOST 1048576: true; the input reads as it did. -/
def instanceMatchesReferenceUptoRow : OpenClaim := { program := "ytdohpbjgaaneeaagreatdoor", sum := "d249cb1165b3a285720d5490417f90e405964852aa0189f40cb1a64abb71a104", func := "castings/castingslaw21.InstanceMatchesReference", spec := "instanceMatchesReference", inPlace := ["internal/abi.NoEscape", "internal/bytealg.MakeNoZero", "maps.clone"], unfollowed := true, recurses := true, named := ["internal/strconv.uint64pow10", "math/bits.deBruijn32tab", "math/bits.deBruijn64tab"], loops := true, plainKeys := false, apart := false, laid := [("math/bits.deBruijn32tab", laid_math_bits_deBruijn32tab), ("math/bits.deBruijn64tab", laid_math_bits_deBruijn64tab), ("internal/strconv.uint64pow10", laid_internal_strconv_uint64pow10)], narrowed := true }
def InstanceMatchesReferenceUptoSaid : Prop := instanceMatchesReferenceUptoRow.holds Tryz.pinned (OpenSpec.upto instanceMatchesReferenceSpec)

/-- 'castingslaw21.InstanceBudgets', WHERE WHAT IT READS IS OF BULK AT MOST 1048576: true; the input reads as it did. -/
def instanceBudgetsUptoRow : OpenClaim := { program := "ytdohpbjgaaneeaagreatdoor", sum := "d249cb1165b3a285720d5490417f90e405964852aa0189f40cb1a64abb71a104", func := "castings/castingslaw21.InstanceBudgets", spec := "instanceBudgets", inPlace := ["internal/abi.NoEscape", "internal/bytealg.MakeNoZero", "maps.clone"], unfollowed := true, recurses := true, named := ["internal/strconv.uint64pow10", "math/bits.deBruijn32tab", "math/bits.deBruijn64tab"], loops := true, plainKeys := false, apart := false, laid := [("math/bits.deBruijn32tab", laid_math_bits_deBruijn32tab), ("math/bits.deBruijn64tab", laid_math_bits_deBruijn64tab), ("internal/strconv.uint64pow10", laid_internal_strconv_uint64pow10)], narrowed := true }
def InstanceBudgetsUptoSaid : Prop := instanceBudgetsUptoRow.holds Tryz.pinned (OpenSpec.upto instanceBudgetsSpec)

/-- 'castingslaw21.InstanceMethods', WHERE WHAT IT READS IS OF BULK AT MOST 1048576: true; the input reads as it did. -/
def instanceMethodsUptoRow : OpenClaim := { program := "ytdohpbjgaaneeaagreatdoor", sum := "d249cb1165b3a285720d5490417f90e405964852aa0189f40cb1a64abb71a104", func := "castings/castingslaw21.InstanceMethods", spec := "instanceMethods", inPlace := ["internal/abi.NoEscape", "internal/bytealg.MakeNoZero", "maps.clone"], unfollowed := true, recurses := true, named := ["internal/strconv.uint64pow10", "math/bits.deBruijn32tab", "math/bits.deBruijn64tab"], loops := true, plainKeys := false, apart := false, laid := [("math/bits.deBruijn32tab", laid_math_bits_deBruijn32tab), ("math/bits.deBruijn64tab", laid_math_bits_deBruijn64tab), ("internal/strconv.uint64pow10", laid_internal_strconv_uint64pow10)], narrowed := true }
def InstanceMethodsUptoSaid : Prop := instanceMethodsUptoRow.holds Tryz.pinned (OpenSpec.upto instanceMethodsSpec)

/-- 'castingslaw21.InstancePlain', WHERE WHAT IT READS IS OF BULK AT MOST 1048576: true; the input reads as it did. -/
def instancePlainUptoRow : OpenClaim := { program := "ytdohpbjgaaneeaagreatdoor", sum := "d249cb1165b3a285720d5490417f90e405964852aa0189f40cb1a64abb71a104", func := "castings/castingslaw21.InstancePlain", spec := "instancePlain", inPlace := ["internal/abi.NoEscape", "internal/bytealg.MakeNoZero", "maps.clone"], unfollowed := true, recurses := true, named := ["internal/strconv.uint64pow10", "math/bits.deBruijn32tab", "math/bits.deBruijn64tab"], loops := true, plainKeys := false, apart := false, laid := [("math/bits.deBruijn32tab", laid_math_bits_deBruijn32tab), ("math/bits.deBruijn64tab", laid_math_bits_deBruijn64tab), ("internal/strconv.uint64pow10", laid_internal_strconv_uint64pow10)], narrowed := true }
def InstancePlainUptoSaid : Prop := instancePlainUptoRow.holds Tryz.pinned (OpenSpec.upto instancePlainSpec)

/-- 'castingslaw21.InstanceOrders', WHERE WHAT IT READS IS OF BULK AT MOST 1048576: true; the input reads as it did. -/
def instanceOrdersUptoRow : OpenClaim := { program := "ytdohpbjgaaneeaagreatdoor", sum := "d249cb1165b3a285720d5490417f90e405964852aa0189f40cb1a64abb71a104", func := "castings/castingslaw21.InstanceOrders", spec := "instanceOrders", inPlace := ["internal/abi.NoEscape", "internal/bytealg.MakeNoZero", "maps.clone"], unfollowed := true, recurses := true, named := ["internal/strconv.uint64pow10", "math/bits.deBruijn32tab", "math/bits.deBruijn64tab"], loops := true, plainKeys := false, apart := false, laid := [("math/bits.deBruijn32tab", laid_math_bits_deBruijn32tab), ("math/bits.deBruijn64tab", laid_math_bits_deBruijn64tab), ("internal/strconv.uint64pow10", laid_internal_strconv_uint64pow10)], narrowed := true }
def InstanceOrdersUptoSaid : Prop := instanceOrdersUptoRow.holds Tryz.pinned (OpenSpec.upto instanceOrdersSpec)

/-- 'castingslaw21.InstanceCloses', WHERE WHAT IT READS IS OF BULK AT MOST 1048576: true; the input reads as it did. -/
def instanceClosesUptoRow : OpenClaim := { program := "ytdohpbjgaaneeaagreatdoor", sum := "d249cb1165b3a285720d5490417f90e405964852aa0189f40cb1a64abb71a104", func := "castings/castingslaw21.InstanceCloses", spec := "instanceCloses", inPlace := ["internal/abi.NoEscape", "internal/bytealg.MakeNoZero", "maps.clone"], unfollowed := true, recurses := true, named := ["internal/strconv.uint64pow10", "math/bits.deBruijn32tab", "math/bits.deBruijn64tab"], loops := true, plainKeys := false, apart := false, laid := [("math/bits.deBruijn32tab", laid_math_bits_deBruijn32tab), ("math/bits.deBruijn64tab", laid_math_bits_deBruijn64tab), ("internal/strconv.uint64pow10", laid_internal_strconv_uint64pow10)], narrowed := true }
def InstanceClosesUptoSaid : Prop := instanceClosesUptoRow.holds Tryz.pinned (OpenSpec.upto instanceClosesSpec)

/-- 'castingslaw26.RunTraces', WHERE WHAT IT READS IS OF BULK AT MOST 1048576: true; the input reads as it did. -/
def runTracesUptoRow : OpenClaim := { program := "ytdohpbjgaaneeaagreatdoor", sum := "d249cb1165b3a285720d5490417f90e405964852aa0189f40cb1a64abb71a104", func := "castings/castingslaw26.RunTraces", spec := "runTraces", inPlace := ["internal/bytealg.CountString", "internal/bytealg.IndexByteString", "internal/bytealg.IndexString", "internal/abi.NoEscape", "internal/bytealg.MakeNoZero"], unfollowed := true, recurses := true, named := ["strconv.ErrSyntax", "strconv.ErrRange", "internal/strconv.uint64pow10", "math/bits.deBruijn32tab", "math/bits.deBruijn64tab", "internal/bytealg.MaxLen", "unicode/utf8.first", "unicode/utf8.acceptRanges", "castings/run.words"], loops := true, plainKeys := false, apart := false, laid := [("math/bits.deBruijn32tab", laid_math_bits_deBruijn32tab), ("math/bits.deBruijn64tab", laid_math_bits_deBruijn64tab), ("internal/strconv.uint64pow10", laid_internal_strconv_uint64pow10), ("unicode/utf8.acceptRanges", laid_unicode_utf8_acceptRanges), ("strconv.ErrRange", laid_strconv_ErrRange), ("strconv.ErrSyntax", laid_strconv_ErrSyntax), ("castings/run.words", laid_castings_run_words), ("unicode/utf8.first", laid_unicode_utf8_first)], narrowed := true }
def RunTracesUptoSaid : Prop := runTracesUptoRow.holds Tryz.pinned (OpenSpec.upto runTracesSpec)

/-- 'castingslaw26.RunMore', WHERE WHAT IT READS IS OF BULK AT MOST 1048576: true; the input reads as it did. -/
def runMoreUptoRow : OpenClaim := { program := "ytdohpbjgaaneeaagreatdoor", sum := "d249cb1165b3a285720d5490417f90e405964852aa0189f40cb1a64abb71a104", func := "castings/castingslaw26.RunMore", spec := "runMore", inPlace := ["internal/bytealg.CountString", "internal/bytealg.IndexByteString", "internal/bytealg.IndexString", "internal/abi.NoEscape", "internal/bytealg.MakeNoZero"], unfollowed := true, recurses := true, named := ["strconv.ErrSyntax", "strconv.ErrRange", "internal/strconv.uint64pow10", "math/bits.deBruijn32tab", "math/bits.deBruijn64tab", "internal/bytealg.MaxLen", "unicode/utf8.first", "unicode/utf8.acceptRanges", "castings/run.words"], loops := true, plainKeys := false, apart := false, laid := [("math/bits.deBruijn32tab", laid_math_bits_deBruijn32tab), ("math/bits.deBruijn64tab", laid_math_bits_deBruijn64tab), ("internal/strconv.uint64pow10", laid_internal_strconv_uint64pow10), ("unicode/utf8.acceptRanges", laid_unicode_utf8_acceptRanges), ("strconv.ErrRange", laid_strconv_ErrRange), ("strconv.ErrSyntax", laid_strconv_ErrSyntax), ("castings/run.words", laid_castings_run_words), ("unicode/utf8.first", laid_unicode_utf8_first)], narrowed := true }
def RunMoreUptoSaid : Prop := runMoreUptoRow.holds Tryz.pinned (OpenSpec.upto runMoreSpec)

/-- 'castingslaw26.RunPairs', WHERE WHAT IT READS IS OF BULK AT MOST 1048576: true; the input reads as it did. -/
def runPairsUptoRow : OpenClaim := { program := "ytdohpbjgaaneeaagreatdoor", sum := "d249cb1165b3a285720d5490417f90e405964852aa0189f40cb1a64abb71a104", func := "castings/castingslaw26.RunPairs", spec := "runPairs", inPlace := ["internal/bytealg.CountString", "internal/bytealg.IndexByteString", "internal/bytealg.IndexString", "internal/abi.NoEscape", "internal/bytealg.MakeNoZero"], unfollowed := true, recurses := true, named := ["strconv.ErrSyntax", "strconv.ErrRange", "internal/strconv.uint64pow10", "math/bits.deBruijn32tab", "math/bits.deBruijn64tab", "internal/bytealg.MaxLen", "unicode/utf8.first", "unicode/utf8.acceptRanges", "castings/run.words"], loops := true, plainKeys := false, apart := false, laid := [("math/bits.deBruijn32tab", laid_math_bits_deBruijn32tab), ("math/bits.deBruijn64tab", laid_math_bits_deBruijn64tab), ("internal/strconv.uint64pow10", laid_internal_strconv_uint64pow10), ("unicode/utf8.acceptRanges", laid_unicode_utf8_acceptRanges), ("strconv.ErrRange", laid_strconv_ErrRange), ("strconv.ErrSyntax", laid_strconv_ErrSyntax), ("castings/run.words", laid_castings_run_words), ("unicode/utf8.first", laid_unicode_utf8_first)], narrowed := true }
def RunPairsUptoSaid : Prop := runPairsUptoRow.holds Tryz.pinned (OpenSpec.upto runPairsSpec)

/-- 'castingslaw26.RunSplits', WHERE WHAT IT READS IS OF BULK AT MOST 1048576: true; the input reads as it did. -/
def runSplitsUptoRow : OpenClaim := { program := "ytdohpbjgaaneeaagreatdoor", sum := "d249cb1165b3a285720d5490417f90e405964852aa0189f40cb1a64abb71a104", func := "castings/castingslaw26.RunSplits", spec := "runSplits", inPlace := ["internal/bytealg.CountString", "internal/bytealg.IndexByteString", "internal/bytealg.IndexString", "internal/abi.NoEscape", "internal/bytealg.MakeNoZero"], unfollowed := true, recurses := true, named := ["strconv.ErrSyntax", "strconv.ErrRange", "internal/strconv.uint64pow10", "math/bits.deBruijn32tab", "math/bits.deBruijn64tab", "internal/bytealg.MaxLen", "unicode/utf8.first", "unicode/utf8.acceptRanges", "castings/run.words"], loops := true, plainKeys := false, apart := false, laid := [("math/bits.deBruijn32tab", laid_math_bits_deBruijn32tab), ("math/bits.deBruijn64tab", laid_math_bits_deBruijn64tab), ("internal/strconv.uint64pow10", laid_internal_strconv_uint64pow10), ("unicode/utf8.acceptRanges", laid_unicode_utf8_acceptRanges), ("strconv.ErrRange", laid_strconv_ErrRange), ("strconv.ErrSyntax", laid_strconv_ErrSyntax), ("castings/run.words", laid_castings_run_words), ("unicode/utf8.first", laid_unicode_utf8_first)], narrowed := true }
def RunSplitsUptoSaid : Prop := runSplitsUptoRow.holds Tryz.pinned (OpenSpec.upto runSplitsSpec)

end Rows
end Go.Proofs.YtdohpbjgaaneeaaGreatDoor
