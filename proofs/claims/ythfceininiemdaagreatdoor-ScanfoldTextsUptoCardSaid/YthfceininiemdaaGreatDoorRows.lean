/-
  NARROWER THAN 'FOR EVERY INPUT', by the rows' own cells (each row's printed sentence says how): ScanfoldNodes: loops, laid · ScanfoldPrograms: loops, laid · ScanfoldStops: loops, laid · ScanfoldClosed: loops, laid · ScanfoldArithmetic: laid · ScanfoldTexts: laid.
  DERIVED. THE GIVEN ROWS OF THIS SEAT. 6 by the template 'for every input the law returns true; each argument reads behind the call as it read before'; 0 by the template 'total and deterministic' (their statements: YthfceininiemdaaGreatDoorTotals.lean).
  GIVEN WITH THE SEED: the statements are not yours to turn. If you find one false, say at which input.
  Laid BY PROGRAM, IN A SANDBOX (cutbox-rows.mjs): the forced cells as the released guide's own fill.sh prints them over the translation dac9ae33840de137… (all of the seat's roots in one cut). By AI agents, Wed Nov 11 2026. No macro, syntax, notation, axiom, sorry.
-/
import Derived.Test.YthfceininiemdaaGreatDoorChecked
import GoSem.PinnedTables
import GoSem.Claim
import GoSem.ClaimJoined
import GoSem.ClaimMapViews
import Derived.JoinedTies
import Derived.KernelRfl
namespace Go.Proofs.YthfceininiemdaaGreatDoor
/- THE CELL 'sum', in the pinned program and in every row, IS THE sha256 OF THE DUMP (.gsa) THAT YthfceininiemdaaGreatDoorProg.lean LOADS. Nothing in Lean hashes anything: it is a label: what it is worth is what the hold of that sum in a sandbox is worth. -/
noncomputable def Tryz.pinned : Pinned := { name := "ythfceininiemdaagreatdoor", sum := "dac9ae33840de1374f60f6509c999976d1e4de4188121abc44c837d44cfb2118", checked := Tryz.checked }
namespace Rows
def none {H : Type} : Left H := { results := [], args := [] }

/- WHAT THE LISTED PACKAGE-LEVEL VARIABLES READ AS WHEN THE CALL BEGINS. Each datum BY PROGRAM (the guide's laid-datum.mjs) off the statement by which the dump's own 'gosem.cut.vars' lays the variable. In a bare row this is a premise. The card (YthfceininiemdaaGreatDoorCards.lean) ties it to the program's text. -/
def laid_math_bits_deBruijn32tab {H : Type} : DataW H := .agg [.lit (.int .u8 0), .lit (.int .u8 1), .lit (.int .u8 28), .lit (.int .u8 2), .lit (.int .u8 29), .lit (.int .u8 14), .lit (.int .u8 24), .lit (.int .u8 3), .lit (.int .u8 30), .lit (.int .u8 22), .lit (.int .u8 20), .lit (.int .u8 15), .lit (.int .u8 25), .lit (.int .u8 17), .lit (.int .u8 4), .lit (.int .u8 8), .lit (.int .u8 31), .lit (.int .u8 27), .lit (.int .u8 13), .lit (.int .u8 23), .lit (.int .u8 21), .lit (.int .u8 19), .lit (.int .u8 16), .lit (.int .u8 7), .lit (.int .u8 26), .lit (.int .u8 12), .lit (.int .u8 18), .lit (.int .u8 6), .lit (.int .u8 11), .lit (.int .u8 5), .lit (.int .u8 10), .lit (.int .u8 9)]
def laid_math_bits_deBruijn64tab {H : Type} : DataW H := .agg [.lit (.int .u8 0), .lit (.int .u8 1), .lit (.int .u8 56), .lit (.int .u8 2), .lit (.int .u8 57), .lit (.int .u8 49), .lit (.int .u8 28), .lit (.int .u8 3), .lit (.int .u8 61), .lit (.int .u8 58), .lit (.int .u8 42), .lit (.int .u8 50), .lit (.int .u8 38), .lit (.int .u8 29), .lit (.int .u8 17), .lit (.int .u8 4), .lit (.int .u8 62), .lit (.int .u8 47), .lit (.int .u8 59), .lit (.int .u8 36), .lit (.int .u8 45), .lit (.int .u8 43), .lit (.int .u8 51), .lit (.int .u8 22), .lit (.int .u8 53), .lit (.int .u8 39), .lit (.int .u8 33), .lit (.int .u8 30), .lit (.int .u8 24), .lit (.int .u8 18), .lit (.int .u8 12), .lit (.int .u8 5), .lit (.int .u8 63), .lit (.int .u8 55), .lit (.int .u8 48), .lit (.int .u8 27), .lit (.int .u8 60), .lit (.int .u8 41), .lit (.int .u8 37), .lit (.int .u8 16), .lit (.int .u8 46), .lit (.int .u8 35), .lit (.int .u8 44), .lit (.int .u8 21), .lit (.int .u8 52), .lit (.int .u8 32), .lit (.int .u8 23), .lit (.int .u8 11), .lit (.int .u8 54), .lit (.int .u8 26), .lit (.int .u8 40), .lit (.int .u8 15), .lit (.int .u8 34), .lit (.int .u8 20), .lit (.int .u8 31), .lit (.int .u8 10), .lit (.int .u8 25), .lit (.int .u8 14), .lit (.int .u8 19), .lit (.int .u8 9), .lit (.int .u8 13), .lit (.int .u8 8), .lit (.int .u8 7), .lit (.int .u8 6)]
def laid_internal_strconv_uint64pow10 {H : Type} : DataW H := .agg [.lit (.int .u64 1), .lit (.int .u64 10), .lit (.int .u64 100), .lit (.int .u64 1000), .lit (.int .u64 10000), .lit (.int .u64 100000), .lit (.int .u64 1000000), .lit (.int .u64 10000000), .lit (.int .u64 100000000), .lit (.int .u64 1000000000), .lit (.int .u64 10000000000), .lit (.int .u64 100000000000), .lit (.int .u64 1000000000000), .lit (.int .u64 10000000000000), .lit (.int .u64 100000000000000), .lit (.int .u64 1000000000000000), .lit (.int .u64 10000000000000000), .lit (.int .u64 100000000000000000), .lit (.int .u64 1000000000000000000), .lit (.int .u64 10000000000000000000)]
def laid_unicode_utf8_acceptRanges {H : Type} : DataW H := .agg [.agg [.lit (.int .u8 128), .lit (.int .u8 191)], .agg [.lit (.int .u8 160), .lit (.int .u8 191)], .agg [.lit (.int .u8 128), .lit (.int .u8 159)], .agg [.lit (.int .u8 144), .lit (.int .u8 191)], .agg [.lit (.int .u8 128), .lit (.int .u8 143)], .agg [.lit (.int .u8 0), .lit (.int .u8 0)], .agg [.lit (.int .u8 0), .lit (.int .u8 0)], .agg [.lit (.int .u8 0), .lit (.int .u8 0)], .agg [.lit (.int .u8 0), .lit (.int .u8 0)], .agg [.lit (.int .u8 0), .lit (.int .u8 0)], .agg [.lit (.int .u8 0), .lit (.int .u8 0)], .agg [.lit (.int .u8 0), .lit (.int .u8 0)], .agg [.lit (.int .u8 0), .lit (.int .u8 0)], .agg [.lit (.int .u8 0), .lit (.int .u8 0)], .agg [.lit (.int .u8 0), .lit (.int .u8 0)], .agg [.lit (.int .u8 0), .lit (.int .u8 0)]]
def laid_texttools_decimal_units {H : Type} : DataW H := .agg [.lit (.int .i64 10000), .lit (.int .i64 1000), .lit (.int .i64 100), .lit (.int .i64 10), .lit (.int .i64 1)]
def laid_texttools_builtin_functions {H : Type} : DataW H := .agg [.agg [.lit (.string [108, 101, 110, 103, 116, 104]), .lit (.int .i64 1), .lit (.int .i64 1)], .agg [.lit (.string [115, 117, 98, 115, 116, 114]), .lit (.int .i64 2), .lit (.int .i64 3)], .agg [.lit (.string [105, 110, 100, 101, 120]), .lit (.int .i64 2), .lit (.int .i64 2)], .agg [.lit (.string [116, 111, 108, 111, 119, 101, 114]), .lit (.int .i64 1), .lit (.int .i64 1)], .agg [.lit (.string [116, 111, 117, 112, 112, 101, 114]), .lit (.int .i64 1), .lit (.int .i64 1)], .agg [.lit (.string [105, 110, 116]), .lit (.int .i64 1), .lit (.int .i64 1)], .agg [.lit (.string [115, 112, 114, 105, 110, 116, 102]), .lit (.int .i64 1), .lit (.int .i64 1073741824)]]
/-- One of Go's own tables, pinned by name: the form's constant. -/
def laid_unicode_CaseRanges : DataW Unit := Go.Pinned.caseRanges
/-- One of Go's own tables, pinned by name: the form's constant. -/
def laid_unicode_utf8_first : DataW Unit := Go.Pinned.utf8First

/-- 'texttoolslaw48.ScanfoldNodes': WHATEVER THE INPUT: true; the input reads as it did. -/
def scanfoldNodesSpec : ChangeSpec := { name := "scanfoldNodes", fn := fun _ => fun
  | [d1, d2] => { results := [.lit (.bool true)], args := [d1, d2] }
  | _ => none }
def scanfoldNodesRow : OpenClaim := { program := "ythfceininiemdaagreatdoor", sum := "dac9ae33840de1374f60f6509c999976d1e4de4188121abc44c837d44cfb2118", func := "texttools/texttoolslaw48.ScanfoldNodes", spec := "scanfoldNodes", inPlace := ["internal/bytealg.IndexByteString", "internal/bytealg.IndexString", "internal/abi.NoEscape", "internal/bytealg.MakeNoZero", "internal/bytealg.abigen_runtime_cmpstring"], unfollowed := true, recurses := true, named := ["internal/strconv.uint64pow10", "math/bits.deBruijn32tab", "math/bits.deBruijn64tab", "internal/bytealg.MaxLen", "texttools/builtin.functions", "texttools/decimal.units", "unicode/utf8.first", "unicode/utf8.acceptRanges", "unicode.CaseRanges", "math/bits.divideError", "math/bits.overflowError"], loops := true, apart := false, laid := [("math/bits.deBruijn32tab", laid_math_bits_deBruijn32tab), ("math/bits.deBruijn64tab", laid_math_bits_deBruijn64tab), ("internal/strconv.uint64pow10", laid_internal_strconv_uint64pow10), ("unicode/utf8.acceptRanges", laid_unicode_utf8_acceptRanges), ("texttools/decimal.units", laid_texttools_decimal_units), ("texttools/builtin.functions", laid_texttools_builtin_functions), ("unicode.CaseRanges", laid_unicode_CaseRanges), ("unicode/utf8.first", laid_unicode_utf8_first)] }
def ScanfoldNodesSaid : Prop := scanfoldNodesRow.holds Tryz.pinned (OpenSpec.ofChange scanfoldNodesSpec)

/-- ITS FALSE NEIGHBOUR: 'it returns false'. Refute it at one input. -/
def scanfoldNodesWrong : ChangeSpec := { name := "scanfoldNodes", fn := fun _ => fun
  | [d1, d2] => { results := [.lit (.bool false)], args := [d1, d2] }
  | _ => none }
def ScanfoldNodesWrongFalsely : Prop := scanfoldNodesRow.holds Tryz.pinned (OpenSpec.ofChange scanfoldNodesWrong)

/-- 'texttoolslaw48.ScanfoldPrograms': WHATEVER THE INPUT: true; the input reads as it did. -/
def scanfoldProgramsSpec : ChangeSpec := { name := "scanfoldPrograms", fn := fun _ => fun
  | [d1, d2] => { results := [.lit (.bool true)], args := [d1, d2] }
  | _ => none }
def scanfoldProgramsRow : OpenClaim := { program := "ythfceininiemdaagreatdoor", sum := "dac9ae33840de1374f60f6509c999976d1e4de4188121abc44c837d44cfb2118", func := "texttools/texttoolslaw48.ScanfoldPrograms", spec := "scanfoldPrograms", inPlace := ["internal/bytealg.IndexByteString", "internal/bytealg.IndexString", "internal/abi.NoEscape", "internal/bytealg.MakeNoZero", "internal/bytealg.abigen_runtime_cmpstring"], unfollowed := true, recurses := true, named := ["internal/strconv.uint64pow10", "math/bits.deBruijn32tab", "math/bits.deBruijn64tab", "internal/bytealg.MaxLen", "texttools/builtin.functions", "texttools/decimal.units", "unicode/utf8.first", "unicode/utf8.acceptRanges", "unicode.CaseRanges", "math/bits.divideError", "math/bits.overflowError"], loops := true, apart := false, laid := [("math/bits.deBruijn32tab", laid_math_bits_deBruijn32tab), ("math/bits.deBruijn64tab", laid_math_bits_deBruijn64tab), ("internal/strconv.uint64pow10", laid_internal_strconv_uint64pow10), ("unicode/utf8.acceptRanges", laid_unicode_utf8_acceptRanges), ("texttools/decimal.units", laid_texttools_decimal_units), ("texttools/builtin.functions", laid_texttools_builtin_functions), ("unicode.CaseRanges", laid_unicode_CaseRanges), ("unicode/utf8.first", laid_unicode_utf8_first)] }
def ScanfoldProgramsSaid : Prop := scanfoldProgramsRow.holds Tryz.pinned (OpenSpec.ofChange scanfoldProgramsSpec)

/-- ITS FALSE NEIGHBOUR: 'it returns false'. Refute it at one input. -/
def scanfoldProgramsWrong : ChangeSpec := { name := "scanfoldPrograms", fn := fun _ => fun
  | [d1, d2] => { results := [.lit (.bool false)], args := [d1, d2] }
  | _ => none }
def ScanfoldProgramsWrongFalsely : Prop := scanfoldProgramsRow.holds Tryz.pinned (OpenSpec.ofChange scanfoldProgramsWrong)

/-- 'texttoolslaw48.ScanfoldStops': WHATEVER THE INPUT: true; the input reads as it did. -/
def scanfoldStopsSpec : ChangeSpec := { name := "scanfoldStops", fn := fun _ => fun
  | [d1, d2] => { results := [.lit (.bool true)], args := [d1, d2] }
  | _ => none }
def scanfoldStopsRow : OpenClaim := { program := "ythfceininiemdaagreatdoor", sum := "dac9ae33840de1374f60f6509c999976d1e4de4188121abc44c837d44cfb2118", func := "texttools/texttoolslaw48.ScanfoldStops", spec := "scanfoldStops", inPlace := ["internal/bytealg.IndexByteString", "internal/bytealg.IndexString", "internal/abi.NoEscape", "internal/bytealg.MakeNoZero", "internal/bytealg.abigen_runtime_cmpstring"], unfollowed := true, recurses := true, named := ["internal/strconv.uint64pow10", "math/bits.deBruijn32tab", "math/bits.deBruijn64tab", "internal/bytealg.MaxLen", "texttools/builtin.functions", "texttools/decimal.units", "unicode/utf8.first", "unicode/utf8.acceptRanges", "unicode.CaseRanges", "math/bits.divideError", "math/bits.overflowError"], loops := true, apart := false, laid := [("math/bits.deBruijn32tab", laid_math_bits_deBruijn32tab), ("math/bits.deBruijn64tab", laid_math_bits_deBruijn64tab), ("internal/strconv.uint64pow10", laid_internal_strconv_uint64pow10), ("unicode/utf8.acceptRanges", laid_unicode_utf8_acceptRanges), ("texttools/decimal.units", laid_texttools_decimal_units), ("texttools/builtin.functions", laid_texttools_builtin_functions), ("unicode.CaseRanges", laid_unicode_CaseRanges), ("unicode/utf8.first", laid_unicode_utf8_first)] }
def ScanfoldStopsSaid : Prop := scanfoldStopsRow.holds Tryz.pinned (OpenSpec.ofChange scanfoldStopsSpec)

/-- ITS FALSE NEIGHBOUR: 'it returns false'. Refute it at one input. -/
def scanfoldStopsWrong : ChangeSpec := { name := "scanfoldStops", fn := fun _ => fun
  | [d1, d2] => { results := [.lit (.bool false)], args := [d1, d2] }
  | _ => none }
def ScanfoldStopsWrongFalsely : Prop := scanfoldStopsRow.holds Tryz.pinned (OpenSpec.ofChange scanfoldStopsWrong)

/-- 'texttoolslaw48.ScanfoldClosed': WHATEVER THE INPUT: true; the input reads as it did. -/
def scanfoldClosedSpec : ChangeSpec := { name := "scanfoldClosed", fn := fun _ => fun
  | [d] => { results := [.lit (.bool true)], args := [d] }
  | _ => none }
def scanfoldClosedRow : OpenClaim := { program := "ythfceininiemdaagreatdoor", sum := "dac9ae33840de1374f60f6509c999976d1e4de4188121abc44c837d44cfb2118", func := "texttools/texttoolslaw48.ScanfoldClosed", spec := "scanfoldClosed", inPlace := ["internal/bytealg.IndexByteString", "internal/bytealg.IndexString", "internal/abi.NoEscape", "internal/bytealg.MakeNoZero", "internal/bytealg.abigen_runtime_cmpstring"], unfollowed := true, recurses := true, named := ["internal/strconv.uint64pow10", "math/bits.deBruijn32tab", "math/bits.deBruijn64tab", "internal/bytealg.MaxLen", "texttools/builtin.functions", "texttools/decimal.units", "unicode/utf8.first", "unicode/utf8.acceptRanges", "unicode.CaseRanges", "math/bits.divideError", "math/bits.overflowError"], loops := true, apart := false, laid := [("math/bits.deBruijn32tab", laid_math_bits_deBruijn32tab), ("math/bits.deBruijn64tab", laid_math_bits_deBruijn64tab), ("internal/strconv.uint64pow10", laid_internal_strconv_uint64pow10), ("unicode/utf8.acceptRanges", laid_unicode_utf8_acceptRanges), ("texttools/decimal.units", laid_texttools_decimal_units), ("texttools/builtin.functions", laid_texttools_builtin_functions), ("unicode.CaseRanges", laid_unicode_CaseRanges), ("unicode/utf8.first", laid_unicode_utf8_first)] }
def ScanfoldClosedSaid : Prop := scanfoldClosedRow.holds Tryz.pinned (OpenSpec.ofChange scanfoldClosedSpec)

/-- ITS FALSE NEIGHBOUR: 'it returns false'. Refute it at one input. -/
def scanfoldClosedWrong : ChangeSpec := { name := "scanfoldClosed", fn := fun _ => fun
  | [d] => { results := [.lit (.bool false)], args := [d] }
  | _ => none }
def ScanfoldClosedWrongFalsely : Prop := scanfoldClosedRow.holds Tryz.pinned (OpenSpec.ofChange scanfoldClosedWrong)

/-- 'texttoolslaw48.ScanfoldArithmetic': WHATEVER THE INPUT: true; the input reads as it did. -/
def scanfoldArithmeticSpec : ChangeSpec := { name := "scanfoldArithmetic", fn := fun _ => fun
  | [d1, d2, d3] => { results := [.lit (.bool true)], args := [d1, d2, d3] }
  | _ => none }
def scanfoldArithmeticRow : OpenClaim := { program := "ythfceininiemdaagreatdoor", sum := "dac9ae33840de1374f60f6509c999976d1e4de4188121abc44c837d44cfb2118", func := "texttools/texttoolslaw48.ScanfoldArithmetic", spec := "scanfoldArithmetic", inPlace := ["internal/bytealg.IndexByteString", "internal/bytealg.IndexString", "internal/abi.NoEscape", "internal/bytealg.MakeNoZero", "internal/bytealg.abigen_runtime_cmpstring"], unfollowed := true, recurses := true, named := ["internal/strconv.uint64pow10", "math/bits.deBruijn32tab", "math/bits.deBruijn64tab", "internal/bytealg.MaxLen", "texttools/builtin.functions", "texttools/decimal.units", "unicode/utf8.first", "unicode/utf8.acceptRanges", "unicode.CaseRanges", "math/bits.divideError", "math/bits.overflowError"], apart := false, laid := [("math/bits.deBruijn32tab", laid_math_bits_deBruijn32tab), ("math/bits.deBruijn64tab", laid_math_bits_deBruijn64tab), ("internal/strconv.uint64pow10", laid_internal_strconv_uint64pow10), ("unicode/utf8.acceptRanges", laid_unicode_utf8_acceptRanges), ("texttools/decimal.units", laid_texttools_decimal_units), ("texttools/builtin.functions", laid_texttools_builtin_functions), ("unicode.CaseRanges", laid_unicode_CaseRanges), ("unicode/utf8.first", laid_unicode_utf8_first)] }
def ScanfoldArithmeticSaid : Prop := scanfoldArithmeticRow.holds Tryz.pinned (OpenSpec.ofChange scanfoldArithmeticSpec)

/-- ITS FALSE NEIGHBOUR: 'it returns false'. Refute it at one input. -/
def scanfoldArithmeticWrong : ChangeSpec := { name := "scanfoldArithmetic", fn := fun _ => fun
  | [d1, d2, d3] => { results := [.lit (.bool false)], args := [d1, d2, d3] }
  | _ => none }
def ScanfoldArithmeticWrongFalsely : Prop := scanfoldArithmeticRow.holds Tryz.pinned (OpenSpec.ofChange scanfoldArithmeticWrong)

/-- 'texttoolslaw48.ScanfoldTexts': WHATEVER THE INPUT: true; the input reads as it did. -/
def scanfoldTextsSpec : ChangeSpec := { name := "scanfoldTexts", fn := fun _ => fun
  | [d1, d2] => { results := [.lit (.bool true)], args := [d1, d2] }
  | _ => none }
def scanfoldTextsRow : OpenClaim := { program := "ythfceininiemdaagreatdoor", sum := "dac9ae33840de1374f60f6509c999976d1e4de4188121abc44c837d44cfb2118", func := "texttools/texttoolslaw48.ScanfoldTexts", spec := "scanfoldTexts", inPlace := ["internal/bytealg.IndexByteString", "internal/bytealg.IndexString", "internal/abi.NoEscape", "internal/bytealg.MakeNoZero", "internal/bytealg.abigen_runtime_cmpstring"], unfollowed := true, recurses := true, named := ["internal/strconv.uint64pow10", "math/bits.deBruijn32tab", "math/bits.deBruijn64tab", "internal/bytealg.MaxLen", "texttools/builtin.functions", "texttools/decimal.units", "unicode/utf8.first", "unicode/utf8.acceptRanges", "unicode.CaseRanges", "math/bits.divideError", "math/bits.overflowError"], apart := false, laid := [("math/bits.deBruijn32tab", laid_math_bits_deBruijn32tab), ("math/bits.deBruijn64tab", laid_math_bits_deBruijn64tab), ("internal/strconv.uint64pow10", laid_internal_strconv_uint64pow10), ("unicode/utf8.acceptRanges", laid_unicode_utf8_acceptRanges), ("texttools/decimal.units", laid_texttools_decimal_units), ("texttools/builtin.functions", laid_texttools_builtin_functions), ("unicode.CaseRanges", laid_unicode_CaseRanges), ("unicode/utf8.first", laid_unicode_utf8_first)] }
def ScanfoldTextsSaid : Prop := scanfoldTextsRow.holds Tryz.pinned (OpenSpec.ofChange scanfoldTextsSpec)

/-- ITS FALSE NEIGHBOUR: 'it returns false'. Refute it at one input. -/
def scanfoldTextsWrong : ChangeSpec := { name := "scanfoldTexts", fn := fun _ => fun
  | [d1, d2] => { results := [.lit (.bool false)], args := [d1, d2] }
  | _ => none }
def ScanfoldTextsWrongFalsely : Prop := scanfoldTextsRow.holds Tryz.pinned (OpenSpec.ofChange scanfoldTextsWrong)

/- THE SECOND FORM. 'bulk': how many values and letters a reading holds, each counted each time it is reached (what is shared counts as often as it is met; a slice's spare places count too). A statement '..UptoSaid' is the law's where the arguments, and the package variables that the reading takes, are together of bulk at most 1048576: NARROWER than '..Said'. Prove '..Said' where nothing that the law and all that it calls make is longer than what came in: it says more and counts as full. Else prove '..UptoSaid'. A law counts once. -/
mutual
def uptoBulk {H : Type} : DataW H → Nat
  | .lit (.string bytes) => bytes.length + 1
  | .lit _ => 1
  | .nil => 1
  | .ptr d => uptoBulk d + 1
  | .slice elems spare => uptoBulkAll elems + uptoBulkAll spare + 1
  | .agg parts => uptoBulkAll parts + 1
  | .iface _ d => uptoBulk d + 1
  | .map entries => uptoBulkEntries entries + 1
  | .held _ => 1
def uptoBulkAll {H : Type} : List (DataW H) → Nat
  | [] => 0
  | d :: r => uptoBulk d + uptoBulkAll r
def uptoBulkEntries {H : Type} : List (Lit × DataW H) → Nat
  | [] => 0
  | x :: r => uptoBulkEntry x + uptoBulkEntries r
def uptoBulkEntry {H : Type} : Lit × DataW H → Nat
  | (.string bytes, d) => bytes.length + uptoBulk d + 1
  | (_, d) => uptoBulk d + 1
 end
def uptoSmall : (H : Type) → List (DataW H) → Bool := fun _ ds => decide (uptoBulkAll ds ≤ 1048576)
def OpenSpec.upto (s : _root_.Go.ChangeSpec) : _root_.Go.OpenSpec := { _root_.Go.OpenSpec.ofChange s with cond := some uptoSmall }

/-- 'texttoolslaw48.ScanfoldNodes', WHERE WHAT IT READS IS OF BULK AT MOST 1048576: true; the input reads as it did. -/
def scanfoldNodesUptoRow : OpenClaim := { program := "ythfceininiemdaagreatdoor", sum := "dac9ae33840de1374f60f6509c999976d1e4de4188121abc44c837d44cfb2118", func := "texttools/texttoolslaw48.ScanfoldNodes", spec := "scanfoldNodes", inPlace := ["internal/bytealg.IndexByteString", "internal/bytealg.IndexString", "internal/abi.NoEscape", "internal/bytealg.MakeNoZero", "internal/bytealg.abigen_runtime_cmpstring"], unfollowed := true, recurses := true, named := ["internal/strconv.uint64pow10", "math/bits.deBruijn32tab", "math/bits.deBruijn64tab", "internal/bytealg.MaxLen", "texttools/builtin.functions", "texttools/decimal.units", "unicode/utf8.first", "unicode/utf8.acceptRanges", "unicode.CaseRanges", "math/bits.divideError", "math/bits.overflowError"], loops := true, apart := false, laid := [("math/bits.deBruijn32tab", laid_math_bits_deBruijn32tab), ("math/bits.deBruijn64tab", laid_math_bits_deBruijn64tab), ("internal/strconv.uint64pow10", laid_internal_strconv_uint64pow10), ("unicode/utf8.acceptRanges", laid_unicode_utf8_acceptRanges), ("texttools/decimal.units", laid_texttools_decimal_units), ("texttools/builtin.functions", laid_texttools_builtin_functions), ("unicode.CaseRanges", laid_unicode_CaseRanges), ("unicode/utf8.first", laid_unicode_utf8_first)], narrowed := true }
def ScanfoldNodesUptoSaid : Prop := scanfoldNodesUptoRow.holds Tryz.pinned (OpenSpec.upto scanfoldNodesSpec)

/-- 'texttoolslaw48.ScanfoldPrograms', WHERE WHAT IT READS IS OF BULK AT MOST 1048576: true; the input reads as it did. -/
def scanfoldProgramsUptoRow : OpenClaim := { program := "ythfceininiemdaagreatdoor", sum := "dac9ae33840de1374f60f6509c999976d1e4de4188121abc44c837d44cfb2118", func := "texttools/texttoolslaw48.ScanfoldPrograms", spec := "scanfoldPrograms", inPlace := ["internal/bytealg.IndexByteString", "internal/bytealg.IndexString", "internal/abi.NoEscape", "internal/bytealg.MakeNoZero", "internal/bytealg.abigen_runtime_cmpstring"], unfollowed := true, recurses := true, named := ["internal/strconv.uint64pow10", "math/bits.deBruijn32tab", "math/bits.deBruijn64tab", "internal/bytealg.MaxLen", "texttools/builtin.functions", "texttools/decimal.units", "unicode/utf8.first", "unicode/utf8.acceptRanges", "unicode.CaseRanges", "math/bits.divideError", "math/bits.overflowError"], loops := true, apart := false, laid := [("math/bits.deBruijn32tab", laid_math_bits_deBruijn32tab), ("math/bits.deBruijn64tab", laid_math_bits_deBruijn64tab), ("internal/strconv.uint64pow10", laid_internal_strconv_uint64pow10), ("unicode/utf8.acceptRanges", laid_unicode_utf8_acceptRanges), ("texttools/decimal.units", laid_texttools_decimal_units), ("texttools/builtin.functions", laid_texttools_builtin_functions), ("unicode.CaseRanges", laid_unicode_CaseRanges), ("unicode/utf8.first", laid_unicode_utf8_first)], narrowed := true }
def ScanfoldProgramsUptoSaid : Prop := scanfoldProgramsUptoRow.holds Tryz.pinned (OpenSpec.upto scanfoldProgramsSpec)

/-- 'texttoolslaw48.ScanfoldStops', WHERE WHAT IT READS IS OF BULK AT MOST 1048576: true; the input reads as it did. -/
def scanfoldStopsUptoRow : OpenClaim := { program := "ythfceininiemdaagreatdoor", sum := "dac9ae33840de1374f60f6509c999976d1e4de4188121abc44c837d44cfb2118", func := "texttools/texttoolslaw48.ScanfoldStops", spec := "scanfoldStops", inPlace := ["internal/bytealg.IndexByteString", "internal/bytealg.IndexString", "internal/abi.NoEscape", "internal/bytealg.MakeNoZero", "internal/bytealg.abigen_runtime_cmpstring"], unfollowed := true, recurses := true, named := ["internal/strconv.uint64pow10", "math/bits.deBruijn32tab", "math/bits.deBruijn64tab", "internal/bytealg.MaxLen", "texttools/builtin.functions", "texttools/decimal.units", "unicode/utf8.first", "unicode/utf8.acceptRanges", "unicode.CaseRanges", "math/bits.divideError", "math/bits.overflowError"], loops := true, apart := false, laid := [("math/bits.deBruijn32tab", laid_math_bits_deBruijn32tab), ("math/bits.deBruijn64tab", laid_math_bits_deBruijn64tab), ("internal/strconv.uint64pow10", laid_internal_strconv_uint64pow10), ("unicode/utf8.acceptRanges", laid_unicode_utf8_acceptRanges), ("texttools/decimal.units", laid_texttools_decimal_units), ("texttools/builtin.functions", laid_texttools_builtin_functions), ("unicode.CaseRanges", laid_unicode_CaseRanges), ("unicode/utf8.first", laid_unicode_utf8_first)], narrowed := true }
def ScanfoldStopsUptoSaid : Prop := scanfoldStopsUptoRow.holds Tryz.pinned (OpenSpec.upto scanfoldStopsSpec)

/-- 'texttoolslaw48.ScanfoldClosed', WHERE WHAT IT READS IS OF BULK AT MOST 1048576: true; the input reads as it did. -/
def scanfoldClosedUptoRow : OpenClaim := { program := "ythfceininiemdaagreatdoor", sum := "dac9ae33840de1374f60f6509c999976d1e4de4188121abc44c837d44cfb2118", func := "texttools/texttoolslaw48.ScanfoldClosed", spec := "scanfoldClosed", inPlace := ["internal/bytealg.IndexByteString", "internal/bytealg.IndexString", "internal/abi.NoEscape", "internal/bytealg.MakeNoZero", "internal/bytealg.abigen_runtime_cmpstring"], unfollowed := true, recurses := true, named := ["internal/strconv.uint64pow10", "math/bits.deBruijn32tab", "math/bits.deBruijn64tab", "internal/bytealg.MaxLen", "texttools/builtin.functions", "texttools/decimal.units", "unicode/utf8.first", "unicode/utf8.acceptRanges", "unicode.CaseRanges", "math/bits.divideError", "math/bits.overflowError"], loops := true, apart := false, laid := [("math/bits.deBruijn32tab", laid_math_bits_deBruijn32tab), ("math/bits.deBruijn64tab", laid_math_bits_deBruijn64tab), ("internal/strconv.uint64pow10", laid_internal_strconv_uint64pow10), ("unicode/utf8.acceptRanges", laid_unicode_utf8_acceptRanges), ("texttools/decimal.units", laid_texttools_decimal_units), ("texttools/builtin.functions", laid_texttools_builtin_functions), ("unicode.CaseRanges", laid_unicode_CaseRanges), ("unicode/utf8.first", laid_unicode_utf8_first)], narrowed := true }
def ScanfoldClosedUptoSaid : Prop := scanfoldClosedUptoRow.holds Tryz.pinned (OpenSpec.upto scanfoldClosedSpec)

/-- 'texttoolslaw48.ScanfoldArithmetic', WHERE WHAT IT READS IS OF BULK AT MOST 1048576: true; the input reads as it did. -/
def scanfoldArithmeticUptoRow : OpenClaim := { program := "ythfceininiemdaagreatdoor", sum := "dac9ae33840de1374f60f6509c999976d1e4de4188121abc44c837d44cfb2118", func := "texttools/texttoolslaw48.ScanfoldArithmetic", spec := "scanfoldArithmetic", inPlace := ["internal/bytealg.IndexByteString", "internal/bytealg.IndexString", "internal/abi.NoEscape", "internal/bytealg.MakeNoZero", "internal/bytealg.abigen_runtime_cmpstring"], unfollowed := true, recurses := true, named := ["internal/strconv.uint64pow10", "math/bits.deBruijn32tab", "math/bits.deBruijn64tab", "internal/bytealg.MaxLen", "texttools/builtin.functions", "texttools/decimal.units", "unicode/utf8.first", "unicode/utf8.acceptRanges", "unicode.CaseRanges", "math/bits.divideError", "math/bits.overflowError"], apart := false, laid := [("math/bits.deBruijn32tab", laid_math_bits_deBruijn32tab), ("math/bits.deBruijn64tab", laid_math_bits_deBruijn64tab), ("internal/strconv.uint64pow10", laid_internal_strconv_uint64pow10), ("unicode/utf8.acceptRanges", laid_unicode_utf8_acceptRanges), ("texttools/decimal.units", laid_texttools_decimal_units), ("texttools/builtin.functions", laid_texttools_builtin_functions), ("unicode.CaseRanges", laid_unicode_CaseRanges), ("unicode/utf8.first", laid_unicode_utf8_first)], narrowed := true }
def ScanfoldArithmeticUptoSaid : Prop := scanfoldArithmeticUptoRow.holds Tryz.pinned (OpenSpec.upto scanfoldArithmeticSpec)

/-- 'texttoolslaw48.ScanfoldTexts', WHERE WHAT IT READS IS OF BULK AT MOST 1048576: true; the input reads as it did. -/
def scanfoldTextsUptoRow : OpenClaim := { program := "ythfceininiemdaagreatdoor", sum := "dac9ae33840de1374f60f6509c999976d1e4de4188121abc44c837d44cfb2118", func := "texttools/texttoolslaw48.ScanfoldTexts", spec := "scanfoldTexts", inPlace := ["internal/bytealg.IndexByteString", "internal/bytealg.IndexString", "internal/abi.NoEscape", "internal/bytealg.MakeNoZero", "internal/bytealg.abigen_runtime_cmpstring"], unfollowed := true, recurses := true, named := ["internal/strconv.uint64pow10", "math/bits.deBruijn32tab", "math/bits.deBruijn64tab", "internal/bytealg.MaxLen", "texttools/builtin.functions", "texttools/decimal.units", "unicode/utf8.first", "unicode/utf8.acceptRanges", "unicode.CaseRanges", "math/bits.divideError", "math/bits.overflowError"], apart := false, laid := [("math/bits.deBruijn32tab", laid_math_bits_deBruijn32tab), ("math/bits.deBruijn64tab", laid_math_bits_deBruijn64tab), ("internal/strconv.uint64pow10", laid_internal_strconv_uint64pow10), ("unicode/utf8.acceptRanges", laid_unicode_utf8_acceptRanges), ("texttools/decimal.units", laid_texttools_decimal_units), ("texttools/builtin.functions", laid_texttools_builtin_functions), ("unicode.CaseRanges", laid_unicode_CaseRanges), ("unicode/utf8.first", laid_unicode_utf8_first)], narrowed := true }
def ScanfoldTextsUptoSaid : Prop := scanfoldTextsUptoRow.holds Tryz.pinned (OpenSpec.upto scanfoldTextsSpec)

end Rows
end Go.Proofs.YthfceininiemdaaGreatDoor
