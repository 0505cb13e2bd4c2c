/-
  NARROWER THAN 'FOR EVERY INPUT', by the rows' own cells (each row's printed sentence says how): CircuitCounts: laid · CircuitFormat: laid · CircuitParse: laid · CircuitPrefixFree: laid · CircuitAppendMul: laid · CircuitValid: laid · CircuitFormatInjective: laid.
  DERIVED. THE GIVEN ROWS OF THIS SEAT. 7 by the template 'for every input the law returns true; each argument reads behind the call as it read before'; 0 by the template 'total and deterministic' (their statements: YtmnleabeipmhmaaDoorTotals.lean).
  GIVEN WITH THE SEED: the statements are not yours to turn. If you find one false, say at which input.
  Laid BY PROGRAM, IN A SANDBOX (cutbox-rows.mjs): the forced cells as the released guide's own fill.sh prints them over the translation 8a3bf0d68265c67f… (all of the seat's roots in one cut). By AI agents, Wed Nov 11 2026. No macro, syntax, notation, axiom, sorry.
-/
import Derived.Test.YtmnleabeipmhmaaDoorChecked
import GoSem.PinnedTables
import GoSem.Claim
import GoSem.ClaimJoined
import GoSem.ClaimMapViews
import Derived.JoinedTies
import Derived.KernelRfl
namespace Go.Proofs.YtmnleabeipmhmaaDoor
/- THE CELL 'sum', in the pinned program and in every row, IS THE sha256 OF THE DUMP (.gsa) THAT YtmnleabeipmhmaaDoorProg.lean LOADS. Nothing in Lean hashes anything: it is a label: what it is worth is what the hold of that sum in a sandbox is worth. -/
noncomputable def Tryd.pinned : Pinned := { name := "ytmnleabeipmhmaadoor", sum := "8a3bf0d68265c67f850a98f452654b4630812ad10c99366ba69761f459fbe2c5", checked := Tryd.checked }
namespace Rows
def none {H : Type} : Left H := { results := [], args := [] }

/- WHAT THE LISTED PACKAGE-LEVEL VARIABLES READ AS WHEN THE CALL BEGINS. Each datum BY PROGRAM (the guide's laid-datum.mjs) off the statement by which the dump's own 'gosem.cut.vars' lays the variable. In a bare row this is a premise. The card (YtmnleabeipmhmaaDoorCards.lean) ties it to the program's text. -/
def laid_math_bits_deBruijn32tab {H : Type} : DataW H := .agg [.lit (.int .u8 0), .lit (.int .u8 1), .lit (.int .u8 28), .lit (.int .u8 2), .lit (.int .u8 29), .lit (.int .u8 14), .lit (.int .u8 24), .lit (.int .u8 3), .lit (.int .u8 30), .lit (.int .u8 22), .lit (.int .u8 20), .lit (.int .u8 15), .lit (.int .u8 25), .lit (.int .u8 17), .lit (.int .u8 4), .lit (.int .u8 8), .lit (.int .u8 31), .lit (.int .u8 27), .lit (.int .u8 13), .lit (.int .u8 23), .lit (.int .u8 21), .lit (.int .u8 19), .lit (.int .u8 16), .lit (.int .u8 7), .lit (.int .u8 26), .lit (.int .u8 12), .lit (.int .u8 18), .lit (.int .u8 6), .lit (.int .u8 11), .lit (.int .u8 5), .lit (.int .u8 10), .lit (.int .u8 9)]
def laid_math_bits_deBruijn64tab {H : Type} : DataW H := .agg [.lit (.int .u8 0), .lit (.int .u8 1), .lit (.int .u8 56), .lit (.int .u8 2), .lit (.int .u8 57), .lit (.int .u8 49), .lit (.int .u8 28), .lit (.int .u8 3), .lit (.int .u8 61), .lit (.int .u8 58), .lit (.int .u8 42), .lit (.int .u8 50), .lit (.int .u8 38), .lit (.int .u8 29), .lit (.int .u8 17), .lit (.int .u8 4), .lit (.int .u8 62), .lit (.int .u8 47), .lit (.int .u8 59), .lit (.int .u8 36), .lit (.int .u8 45), .lit (.int .u8 43), .lit (.int .u8 51), .lit (.int .u8 22), .lit (.int .u8 53), .lit (.int .u8 39), .lit (.int .u8 33), .lit (.int .u8 30), .lit (.int .u8 24), .lit (.int .u8 18), .lit (.int .u8 12), .lit (.int .u8 5), .lit (.int .u8 63), .lit (.int .u8 55), .lit (.int .u8 48), .lit (.int .u8 27), .lit (.int .u8 60), .lit (.int .u8 41), .lit (.int .u8 37), .lit (.int .u8 16), .lit (.int .u8 46), .lit (.int .u8 35), .lit (.int .u8 44), .lit (.int .u8 21), .lit (.int .u8 52), .lit (.int .u8 32), .lit (.int .u8 23), .lit (.int .u8 11), .lit (.int .u8 54), .lit (.int .u8 26), .lit (.int .u8 40), .lit (.int .u8 15), .lit (.int .u8 34), .lit (.int .u8 20), .lit (.int .u8 31), .lit (.int .u8 10), .lit (.int .u8 25), .lit (.int .u8 14), .lit (.int .u8 19), .lit (.int .u8 9), .lit (.int .u8 13), .lit (.int .u8 8), .lit (.int .u8 7), .lit (.int .u8 6)]
def laid_internal_strconv_uint64pow10 {H : Type} : DataW H := .agg [.lit (.int .u64 1), .lit (.int .u64 10), .lit (.int .u64 100), .lit (.int .u64 1000), .lit (.int .u64 10000), .lit (.int .u64 100000), .lit (.int .u64 1000000), .lit (.int .u64 10000000), .lit (.int .u64 100000000), .lit (.int .u64 1000000000), .lit (.int .u64 10000000000), .lit (.int .u64 100000000000), .lit (.int .u64 1000000000000), .lit (.int .u64 10000000000000), .lit (.int .u64 100000000000000), .lit (.int .u64 1000000000000000), .lit (.int .u64 10000000000000000), .lit (.int .u64 100000000000000000), .lit (.int .u64 1000000000000000000), .lit (.int .u64 10000000000000000000)]
def laid_privity_field_exps {H : Type} : DataW H := .agg [.lit (.int .i64 5), .lit (.int .i64 7), .lit (.int .i64 13), .lit (.int .i64 17), .lit (.int .i64 19), .lit (.int .i64 31), .lit (.int .i64 61)]
def laid_unicode_utf8_acceptRanges {H : Type} : DataW H := .agg [.agg [.lit (.int .u8 128), .lit (.int .u8 191)], .agg [.lit (.int .u8 160), .lit (.int .u8 191)], .agg [.lit (.int .u8 128), .lit (.int .u8 159)], .agg [.lit (.int .u8 144), .lit (.int .u8 191)], .agg [.lit (.int .u8 128), .lit (.int .u8 143)], .agg [.lit (.int .u8 0), .lit (.int .u8 0)], .agg [.lit (.int .u8 0), .lit (.int .u8 0)], .agg [.lit (.int .u8 0), .lit (.int .u8 0)], .agg [.lit (.int .u8 0), .lit (.int .u8 0)], .agg [.lit (.int .u8 0), .lit (.int .u8 0)], .agg [.lit (.int .u8 0), .lit (.int .u8 0)], .agg [.lit (.int .u8 0), .lit (.int .u8 0)], .agg [.lit (.int .u8 0), .lit (.int .u8 0)], .agg [.lit (.int .u8 0), .lit (.int .u8 0)], .agg [.lit (.int .u8 0), .lit (.int .u8 0)], .agg [.lit (.int .u8 0), .lit (.int .u8 0)]]
def laid_strconv_ErrRange {H : Type} : DataW H := .iface "*errors.errorString" (.ptr (.agg [.lit (.string [118, 97, 108, 117, 101, 32, 111, 117, 116, 32, 111, 102, 32, 114, 97, 110, 103, 101])]))
def laid_strconv_ErrSyntax {H : Type} : DataW H := .iface "*errors.errorString" (.ptr (.agg [.lit (.string [105, 110, 118, 97, 108, 105, 100, 32, 115, 121, 110, 116, 97, 120])]))
def laid_privity_circuit_forms {H : Type} : DataW H := .agg [.agg [.lit (.string [105, 110]), .lit (.int .i64 1), .lit (.bool true), .lit (.bool false), .lit (.bool false), .lit (.bool false), .lit (.bool false)], .agg [.lit (.string [98, 105, 116]), .lit (.int .i64 1), .lit (.bool true), .lit (.bool false), .lit (.bool false), .lit (.bool false), .lit (.bool true)], .agg [.lit (.string [99, 111, 110, 115, 116]), .lit (.int .i64 2), .lit (.bool false), .lit (.bool true), .lit (.bool false), .lit (.bool false), .lit (.bool false)], .agg [.lit (.string [97, 100, 100]), .lit (.int .i64 3), .lit (.bool false), .lit (.bool false), .lit (.bool true), .lit (.bool true), .lit (.bool false)], .agg [.lit (.string [115, 117, 98]), .lit (.int .i64 4), .lit (.bool false), .lit (.bool false), .lit (.bool true), .lit (.bool true), .lit (.bool false)], .agg [.lit (.string [115, 99, 97, 108, 101]), .lit (.int .i64 5), .lit (.bool false), .lit (.bool true), .lit (.bool true), .lit (.bool false), .lit (.bool false)], .agg [.lit (.string [109, 117, 108]), .lit (.int .i64 6), .lit (.bool false), .lit (.bool false), .lit (.bool true), .lit (.bool true), .lit (.bool false)]]
/-- One of Go's own tables, pinned by name: the form's constant. -/
def laid_unicode_utf8_first : DataW Unit := Go.Pinned.utf8First

/-- 'privitylaw32.CircuitCounts': WHATEVER THE INPUT: true; the input reads as it did. -/
def circuitCountsSpec : ChangeSpec := { name := "circuitCounts", fn := fun _ => fun
  | [d1, d2] => { results := [.lit (.bool true)], args := [d1, d2] }
  | _ => none }
def circuitCountsRow : OpenClaim := { program := "ytmnleabeipmhmaadoor", sum := "8a3bf0d68265c67f850a98f452654b4630812ad10c99366ba69761f459fbe2c5", func := "privity/privitylaw32.CircuitCounts", spec := "circuitCounts", inPlace := ["internal/bytealg.CountString", "internal/bytealg.IndexByteString", "internal/bytealg.IndexString", "internal/abi.NoEscape"], unfollowed := true, recurses := true, named := ["unicode/utf8.first", "unicode/utf8.acceptRanges", "internal/bytealg.MaxLen", "strconv.ErrSyntax", "strconv.ErrRange", "internal/strconv.uint64pow10", "math/bits.deBruijn32tab", "math/bits.deBruijn64tab", "privity/field.exps", "privity/circuit.forms"], apart := false, laid := [("math/bits.deBruijn32tab", laid_math_bits_deBruijn32tab), ("math/bits.deBruijn64tab", laid_math_bits_deBruijn64tab), ("internal/strconv.uint64pow10", laid_internal_strconv_uint64pow10), ("privity/field.exps", laid_privity_field_exps), ("unicode/utf8.acceptRanges", laid_unicode_utf8_acceptRanges), ("strconv.ErrRange", laid_strconv_ErrRange), ("strconv.ErrSyntax", laid_strconv_ErrSyntax), ("privity/circuit.forms", laid_privity_circuit_forms), ("unicode/utf8.first", laid_unicode_utf8_first)] }
def CircuitCountsSaid : Prop := circuitCountsRow.holds Tryd.pinned (OpenSpec.ofChange circuitCountsSpec)

/-- ITS FALSE NEIGHBOUR: 'it returns false'. Refute it at one input. -/
def circuitCountsWrong : ChangeSpec := { name := "circuitCounts", fn := fun _ => fun
  | [d1, d2] => { results := [.lit (.bool false)], args := [d1, d2] }
  | _ => none }
def CircuitCountsWrongFalsely : Prop := circuitCountsRow.holds Tryd.pinned (OpenSpec.ofChange circuitCountsWrong)

/-- 'privitylaw32.CircuitFormat': WHATEVER THE INPUT: true; the input reads as it did. -/
def circuitFormatSpec : ChangeSpec := { name := "circuitFormat", fn := fun _ => fun
  | [d] => { results := [.lit (.bool true)], args := [d] }
  | _ => none }
def circuitFormatRow : OpenClaim := { program := "ytmnleabeipmhmaadoor", sum := "8a3bf0d68265c67f850a98f452654b4630812ad10c99366ba69761f459fbe2c5", func := "privity/privitylaw32.CircuitFormat", spec := "circuitFormat", inPlace := ["internal/bytealg.CountString", "internal/bytealg.IndexByteString", "internal/bytealg.IndexString", "internal/abi.NoEscape"], unfollowed := true, recurses := true, named := ["unicode/utf8.first", "unicode/utf8.acceptRanges", "internal/bytealg.MaxLen", "strconv.ErrSyntax", "strconv.ErrRange", "internal/strconv.uint64pow10", "math/bits.deBruijn32tab", "math/bits.deBruijn64tab", "privity/field.exps", "privity/circuit.forms"], apart := false, laid := [("math/bits.deBruijn32tab", laid_math_bits_deBruijn32tab), ("math/bits.deBruijn64tab", laid_math_bits_deBruijn64tab), ("internal/strconv.uint64pow10", laid_internal_strconv_uint64pow10), ("privity/field.exps", laid_privity_field_exps), ("unicode/utf8.acceptRanges", laid_unicode_utf8_acceptRanges), ("strconv.ErrRange", laid_strconv_ErrRange), ("strconv.ErrSyntax", laid_strconv_ErrSyntax), ("privity/circuit.forms", laid_privity_circuit_forms), ("unicode/utf8.first", laid_unicode_utf8_first)] }
def CircuitFormatSaid : Prop := circuitFormatRow.holds Tryd.pinned (OpenSpec.ofChange circuitFormatSpec)

/-- ITS FALSE NEIGHBOUR: 'it returns false'. Refute it at one input. -/
def circuitFormatWrong : ChangeSpec := { name := "circuitFormat", fn := fun _ => fun
  | [d] => { results := [.lit (.bool false)], args := [d] }
  | _ => none }
def CircuitFormatWrongFalsely : Prop := circuitFormatRow.holds Tryd.pinned (OpenSpec.ofChange circuitFormatWrong)

/-- 'privitylaw32.CircuitParse': WHATEVER THE INPUT: true; the input reads as it did. -/
def circuitParseSpec : ChangeSpec := { name := "circuitParse", fn := fun _ => fun
  | [d] => { results := [.lit (.bool true)], args := [d] }
  | _ => none }
def circuitParseRow : OpenClaim := { program := "ytmnleabeipmhmaadoor", sum := "8a3bf0d68265c67f850a98f452654b4630812ad10c99366ba69761f459fbe2c5", func := "privity/privitylaw32.CircuitParse", spec := "circuitParse", inPlace := ["internal/bytealg.CountString", "internal/bytealg.IndexByteString", "internal/bytealg.IndexString", "internal/abi.NoEscape"], unfollowed := true, recurses := true, named := ["unicode/utf8.first", "unicode/utf8.acceptRanges", "internal/bytealg.MaxLen", "strconv.ErrSyntax", "strconv.ErrRange", "internal/strconv.uint64pow10", "math/bits.deBruijn32tab", "math/bits.deBruijn64tab", "privity/field.exps", "privity/circuit.forms"], apart := false, laid := [("math/bits.deBruijn32tab", laid_math_bits_deBruijn32tab), ("math/bits.deBruijn64tab", laid_math_bits_deBruijn64tab), ("internal/strconv.uint64pow10", laid_internal_strconv_uint64pow10), ("privity/field.exps", laid_privity_field_exps), ("unicode/utf8.acceptRanges", laid_unicode_utf8_acceptRanges), ("strconv.ErrRange", laid_strconv_ErrRange), ("strconv.ErrSyntax", laid_strconv_ErrSyntax), ("privity/circuit.forms", laid_privity_circuit_forms), ("unicode/utf8.first", laid_unicode_utf8_first)] }
def CircuitParseSaid : Prop := circuitParseRow.holds Tryd.pinned (OpenSpec.ofChange circuitParseSpec)

/-- ITS FALSE NEIGHBOUR: 'it returns false'. Refute it at one input. -/
def circuitParseWrong : ChangeSpec := { name := "circuitParse", fn := fun _ => fun
  | [d] => { results := [.lit (.bool false)], args := [d] }
  | _ => none }
def CircuitParseWrongFalsely : Prop := circuitParseRow.holds Tryd.pinned (OpenSpec.ofChange circuitParseWrong)

/-- 'privitylaw32.CircuitPrefixFree': WHATEVER THE INPUT: true; the input reads as it did. -/
def circuitPrefixFreeSpec : ChangeSpec := { name := "circuitPrefixFree", fn := fun _ => fun
  | [d1, d2, d3] => { results := [.lit (.bool true)], args := [d1, d2, d3] }
  | _ => none }
def circuitPrefixFreeRow : OpenClaim := { program := "ytmnleabeipmhmaadoor", sum := "8a3bf0d68265c67f850a98f452654b4630812ad10c99366ba69761f459fbe2c5", func := "privity/privitylaw32.CircuitPrefixFree", spec := "circuitPrefixFree", inPlace := ["internal/bytealg.CountString", "internal/bytealg.IndexByteString", "internal/bytealg.IndexString", "internal/abi.NoEscape"], unfollowed := true, recurses := true, named := ["unicode/utf8.first", "unicode/utf8.acceptRanges", "internal/bytealg.MaxLen", "strconv.ErrSyntax", "strconv.ErrRange", "internal/strconv.uint64pow10", "math/bits.deBruijn32tab", "math/bits.deBruijn64tab", "privity/field.exps", "privity/circuit.forms"], apart := false, laid := [("math/bits.deBruijn32tab", laid_math_bits_deBruijn32tab), ("math/bits.deBruijn64tab", laid_math_bits_deBruijn64tab), ("internal/strconv.uint64pow10", laid_internal_strconv_uint64pow10), ("privity/field.exps", laid_privity_field_exps), ("unicode/utf8.acceptRanges", laid_unicode_utf8_acceptRanges), ("strconv.ErrRange", laid_strconv_ErrRange), ("strconv.ErrSyntax", laid_strconv_ErrSyntax), ("privity/circuit.forms", laid_privity_circuit_forms), ("unicode/utf8.first", laid_unicode_utf8_first)] }
def CircuitPrefixFreeSaid : Prop := circuitPrefixFreeRow.holds Tryd.pinned (OpenSpec.ofChange circuitPrefixFreeSpec)

/-- ITS FALSE NEIGHBOUR: 'it returns false'. Refute it at one input. -/
def circuitPrefixFreeWrong : ChangeSpec := { name := "circuitPrefixFree", fn := fun _ => fun
  | [d1, d2, d3] => { results := [.lit (.bool false)], args := [d1, d2, d3] }
  | _ => none }
def CircuitPrefixFreeWrongFalsely : Prop := circuitPrefixFreeRow.holds Tryd.pinned (OpenSpec.ofChange circuitPrefixFreeWrong)

/-- 'privitylaw32.CircuitAppendMul': WHATEVER THE INPUT: true; the input reads as it did. -/
def circuitAppendMulSpec : ChangeSpec := { name := "circuitAppendMul", fn := fun _ => fun
  | [d1, d2, d3] => { results := [.lit (.bool true)], args := [d1, d2, d3] }
  | _ => none }
def circuitAppendMulRow : OpenClaim := { program := "ytmnleabeipmhmaadoor", sum := "8a3bf0d68265c67f850a98f452654b4630812ad10c99366ba69761f459fbe2c5", func := "privity/privitylaw32.CircuitAppendMul", spec := "circuitAppendMul", inPlace := ["internal/bytealg.CountString", "internal/bytealg.IndexByteString", "internal/bytealg.IndexString", "internal/abi.NoEscape"], unfollowed := true, recurses := true, named := ["unicode/utf8.first", "unicode/utf8.acceptRanges", "internal/bytealg.MaxLen", "strconv.ErrSyntax", "strconv.ErrRange", "internal/strconv.uint64pow10", "math/bits.deBruijn32tab", "math/bits.deBruijn64tab", "privity/field.exps", "privity/circuit.forms"], apart := false, laid := [("math/bits.deBruijn32tab", laid_math_bits_deBruijn32tab), ("math/bits.deBruijn64tab", laid_math_bits_deBruijn64tab), ("internal/strconv.uint64pow10", laid_internal_strconv_uint64pow10), ("privity/field.exps", laid_privity_field_exps), ("unicode/utf8.acceptRanges", laid_unicode_utf8_acceptRanges), ("strconv.ErrRange", laid_strconv_ErrRange), ("strconv.ErrSyntax", laid_strconv_ErrSyntax), ("privity/circuit.forms", laid_privity_circuit_forms), ("unicode/utf8.first", laid_unicode_utf8_first)] }
def CircuitAppendMulSaid : Prop := circuitAppendMulRow.holds Tryd.pinned (OpenSpec.ofChange circuitAppendMulSpec)

/-- ITS FALSE NEIGHBOUR: 'it returns false'. Refute it at one input. -/
def circuitAppendMulWrong : ChangeSpec := { name := "circuitAppendMul", fn := fun _ => fun
  | [d1, d2, d3] => { results := [.lit (.bool false)], args := [d1, d2, d3] }
  | _ => none }
def CircuitAppendMulWrongFalsely : Prop := circuitAppendMulRow.holds Tryd.pinned (OpenSpec.ofChange circuitAppendMulWrong)

/-- 'privitylaw32.CircuitValid': WHATEVER THE INPUT: true; the input reads as it did. -/
def circuitValidSpec : ChangeSpec := { name := "circuitValid", fn := fun _ => fun
  | [d1, d2] => { results := [.lit (.bool true)], args := [d1, d2] }
  | _ => none }
def circuitValidRow : OpenClaim := { program := "ytmnleabeipmhmaadoor", sum := "8a3bf0d68265c67f850a98f452654b4630812ad10c99366ba69761f459fbe2c5", func := "privity/privitylaw32.CircuitValid", spec := "circuitValid", inPlace := ["internal/bytealg.CountString", "internal/bytealg.IndexByteString", "internal/bytealg.IndexString", "internal/abi.NoEscape"], unfollowed := true, recurses := true, named := ["unicode/utf8.first", "unicode/utf8.acceptRanges", "internal/bytealg.MaxLen", "strconv.ErrSyntax", "strconv.ErrRange", "internal/strconv.uint64pow10", "math/bits.deBruijn32tab", "math/bits.deBruijn64tab", "privity/field.exps", "privity/circuit.forms"], apart := false, laid := [("math/bits.deBruijn32tab", laid_math_bits_deBruijn32tab), ("math/bits.deBruijn64tab", laid_math_bits_deBruijn64tab), ("internal/strconv.uint64pow10", laid_internal_strconv_uint64pow10), ("privity/field.exps", laid_privity_field_exps), ("unicode/utf8.acceptRanges", laid_unicode_utf8_acceptRanges), ("strconv.ErrRange", laid_strconv_ErrRange), ("strconv.ErrSyntax", laid_strconv_ErrSyntax), ("privity/circuit.forms", laid_privity_circuit_forms), ("unicode/utf8.first", laid_unicode_utf8_first)] }
def CircuitValidSaid : Prop := circuitValidRow.holds Tryd.pinned (OpenSpec.ofChange circuitValidSpec)

/-- ITS FALSE NEIGHBOUR: 'it returns false'. Refute it at one input. -/
def circuitValidWrong : ChangeSpec := { name := "circuitValid", fn := fun _ => fun
  | [d1, d2] => { results := [.lit (.bool false)], args := [d1, d2] }
  | _ => none }
def CircuitValidWrongFalsely : Prop := circuitValidRow.holds Tryd.pinned (OpenSpec.ofChange circuitValidWrong)

/-- 'privitylaw32.CircuitFormatInjective': WHATEVER THE INPUT: true; the input reads as it did. -/
def circuitFormatInjectiveSpec : ChangeSpec := { name := "circuitFormatInjective", fn := fun _ => fun
  | [d1, d2] => { results := [.lit (.bool true)], args := [d1, d2] }
  | _ => none }
def circuitFormatInjectiveRow : OpenClaim := { program := "ytmnleabeipmhmaadoor", sum := "8a3bf0d68265c67f850a98f452654b4630812ad10c99366ba69761f459fbe2c5", func := "privity/privitylaw32.CircuitFormatInjective", spec := "circuitFormatInjective", inPlace := ["internal/bytealg.CountString", "internal/bytealg.IndexByteString", "internal/bytealg.IndexString", "internal/abi.NoEscape"], unfollowed := true, recurses := true, named := ["privity/field.exps", "privity/circuit.forms", "unicode/utf8.first", "unicode/utf8.acceptRanges", "internal/bytealg.MaxLen", "strconv.ErrSyntax", "strconv.ErrRange", "internal/strconv.uint64pow10", "math/bits.deBruijn32tab", "math/bits.deBruijn64tab"], apart := false, laid := [("math/bits.deBruijn32tab", laid_math_bits_deBruijn32tab), ("math/bits.deBruijn64tab", laid_math_bits_deBruijn64tab), ("internal/strconv.uint64pow10", laid_internal_strconv_uint64pow10), ("privity/field.exps", laid_privity_field_exps), ("unicode/utf8.acceptRanges", laid_unicode_utf8_acceptRanges), ("strconv.ErrRange", laid_strconv_ErrRange), ("strconv.ErrSyntax", laid_strconv_ErrSyntax), ("privity/circuit.forms", laid_privity_circuit_forms), ("unicode/utf8.first", laid_unicode_utf8_first)] }
def CircuitFormatInjectiveSaid : Prop := circuitFormatInjectiveRow.holds Tryd.pinned (OpenSpec.ofChange circuitFormatInjectiveSpec)

/-- ITS FALSE NEIGHBOUR: 'it returns false'. Refute it at one input. -/
def circuitFormatInjectiveWrong : ChangeSpec := { name := "circuitFormatInjective", fn := fun _ => fun
  | [d1, d2] => { results := [.lit (.bool false)], args := [d1, d2] }
  | _ => none }
def CircuitFormatInjectiveWrongFalsely : Prop := circuitFormatInjectiveRow.holds Tryd.pinned (OpenSpec.ofChange circuitFormatInjectiveWrong)

/- THE SECOND FORM. 'bulk': how many values and letters a reading holds, each counted each time it is reached (what is shared counts as often as it is met; a slice's spare places count too). A statement '..UptoSaid' is the law's where the arguments, and the package variables that the reading takes, are together of bulk at most 1048576: NARROWER than '..Said'. Prove '..Said' where nothing that the law and all that it calls make is longer than what came in: it says more and counts as full. Else prove '..UptoSaid'. A law counts once. -/
mutual
def uptoBulk {H : Type} : DataW H → Nat
  | .lit (.string bytes) => bytes.length + 1
  | .lit _ => 1
  | .nil => 1
  | .ptr d => uptoBulk d + 1
  | .slice elems spare => uptoBulkAll elems + uptoBulkAll spare + 1
  | .agg parts => uptoBulkAll parts + 1
  | .iface _ d => uptoBulk d + 1
  | .map entries => uptoBulkEntries entries + 1
  | .held _ => 1
def uptoBulkAll {H : Type} : List (DataW H) → Nat
  | [] => 0
  | d :: r => uptoBulk d + uptoBulkAll r
def uptoBulkEntries {H : Type} : List (Lit × DataW H) → Nat
  | [] => 0
  | x :: r => uptoBulkEntry x + uptoBulkEntries r
def uptoBulkEntry {H : Type} : Lit × DataW H → Nat
  | (.string bytes, d) => bytes.length + uptoBulk d + 1
  | (_, d) => uptoBulk d + 1
 end
def uptoSmall : (H : Type) → List (DataW H) → Bool := fun _ ds => decide (uptoBulkAll ds ≤ 1048576)
def OpenSpec.upto (s : _root_.Go.ChangeSpec) : _root_.Go.OpenSpec := { _root_.Go.OpenSpec.ofChange s with cond := some uptoSmall }

/-- 'privitylaw32.CircuitCounts', WHERE WHAT IT READS IS OF BULK AT MOST 1048576: true; the input reads as it did. -/
def circuitCountsUptoRow : OpenClaim := { program := "ytmnleabeipmhmaadoor", sum := "8a3bf0d68265c67f850a98f452654b4630812ad10c99366ba69761f459fbe2c5", func := "privity/privitylaw32.CircuitCounts", spec := "circuitCounts", inPlace := ["internal/bytealg.CountString", "internal/bytealg.IndexByteString", "internal/bytealg.IndexString", "internal/abi.NoEscape"], unfollowed := true, recurses := true, named := ["unicode/utf8.first", "unicode/utf8.acceptRanges", "internal/bytealg.MaxLen", "strconv.ErrSyntax", "strconv.ErrRange", "internal/strconv.uint64pow10", "math/bits.deBruijn32tab", "math/bits.deBruijn64tab", "privity/field.exps", "privity/circuit.forms"], apart := false, laid := [("math/bits.deBruijn32tab", laid_math_bits_deBruijn32tab), ("math/bits.deBruijn64tab", laid_math_bits_deBruijn64tab), ("internal/strconv.uint64pow10", laid_internal_strconv_uint64pow10), ("privity/field.exps", laid_privity_field_exps), ("unicode/utf8.acceptRanges", laid_unicode_utf8_acceptRanges), ("strconv.ErrRange", laid_strconv_ErrRange), ("strconv.ErrSyntax", laid_strconv_ErrSyntax), ("privity/circuit.forms", laid_privity_circuit_forms), ("unicode/utf8.first", laid_unicode_utf8_first)], narrowed := true }
def CircuitCountsUptoSaid : Prop := circuitCountsUptoRow.holds Tryd.pinned (OpenSpec.upto circuitCountsSpec)

/-- 'privitylaw32.CircuitFormat', WHERE WHAT IT READS IS OF BULK AT MOST 1048576: true; the input reads as it did. -/
def circuitFormatUptoRow : OpenClaim := { program := "ytmnleabeipmhmaadoor", sum := "8a3bf0d68265c67f850a98f452654b4630812ad10c99366ba69761f459fbe2c5", func := "privity/privitylaw32.CircuitFormat", spec := "circuitFormat", inPlace := ["internal/bytealg.CountString", "internal/bytealg.IndexByteString", "internal/bytealg.IndexString", "internal/abi.NoEscape"], unfollowed := true, recurses := true, named := ["unicode/utf8.first", "unicode/utf8.acceptRanges", "internal/bytealg.MaxLen", "strconv.ErrSyntax", "strconv.ErrRange", "internal/strconv.uint64pow10", "math/bits.deBruijn32tab", "math/bits.deBruijn64tab", "privity/field.exps", "privity/circuit.forms"], apart := false, laid := [("math/bits.deBruijn32tab", laid_math_bits_deBruijn32tab), ("math/bits.deBruijn64tab", laid_math_bits_deBruijn64tab), ("internal/strconv.uint64pow10", laid_internal_strconv_uint64pow10), ("privity/field.exps", laid_privity_field_exps), ("unicode/utf8.acceptRanges", laid_unicode_utf8_acceptRanges), ("strconv.ErrRange", laid_strconv_ErrRange), ("strconv.ErrSyntax", laid_strconv_ErrSyntax), ("privity/circuit.forms", laid_privity_circuit_forms), ("unicode/utf8.first", laid_unicode_utf8_first)], narrowed := true }
def CircuitFormatUptoSaid : Prop := circuitFormatUptoRow.holds Tryd.pinned (OpenSpec.upto circuitFormatSpec)

/-- 'privitylaw32.CircuitParse', WHERE WHAT IT READS IS OF BULK AT MOST 1048576: true; the input reads as it did. -/
def circuitParseUptoRow : OpenClaim := { program := "ytmnleabeipmhmaadoor", sum := "8a3bf0d68265c67f850a98f452654b4630812ad10c99366ba69761f459fbe2c5", func := "privity/privitylaw32.CircuitParse", spec := "circuitParse", inPlace := ["internal/bytealg.CountString", "internal/bytealg.IndexByteString", "internal/bytealg.IndexString", "internal/abi.NoEscape"], unfollowed := true, recurses := true, named := ["unicode/utf8.first", "unicode/utf8.acceptRanges", "internal/bytealg.MaxLen", "strconv.ErrSyntax", "strconv.ErrRange", "internal/strconv.uint64pow10", "math/bits.deBruijn32tab", "math/bits.deBruijn64tab", "privity/field.exps", "privity/circuit.forms"], apart := false, laid := [("math/bits.deBruijn32tab", laid_math_bits_deBruijn32tab), ("math/bits.deBruijn64tab", laid_math_bits_deBruijn64tab), ("internal/strconv.uint64pow10", laid_internal_strconv_uint64pow10), ("privity/field.exps", laid_privity_field_exps), ("unicode/utf8.acceptRanges", laid_unicode_utf8_acceptRanges), ("strconv.ErrRange", laid_strconv_ErrRange), ("strconv.ErrSyntax", laid_strconv_ErrSyntax), ("privity/circuit.forms", laid_privity_circuit_forms), ("unicode/utf8.first", laid_unicode_utf8_first)], narrowed := true }
def CircuitParseUptoSaid : Prop := circuitParseUptoRow.holds Tryd.pinned (OpenSpec.upto circuitParseSpec)

/-- 'privitylaw32.CircuitPrefixFree', WHERE WHAT IT READS IS OF BULK AT MOST 1048576: true; the input reads as it did. -/
def circuitPrefixFreeUptoRow : OpenClaim := { program := "ytmnleabeipmhmaadoor", sum := "8a3bf0d68265c67f850a98f452654b4630812ad10c99366ba69761f459fbe2c5", func := "privity/privitylaw32.CircuitPrefixFree", spec := "circuitPrefixFree", inPlace := ["internal/bytealg.CountString", "internal/bytealg.IndexByteString", "internal/bytealg.IndexString", "internal/abi.NoEscape"], unfollowed := true, recurses := true, named := ["unicode/utf8.first", "unicode/utf8.acceptRanges", "internal/bytealg.MaxLen", "strconv.ErrSyntax", "strconv.ErrRange", "internal/strconv.uint64pow10", "math/bits.deBruijn32tab", "math/bits.deBruijn64tab", "privity/field.exps", "privity/circuit.forms"], apart := false, laid := [("math/bits.deBruijn32tab", laid_math_bits_deBruijn32tab), ("math/bits.deBruijn64tab", laid_math_bits_deBruijn64tab), ("internal/strconv.uint64pow10", laid_internal_strconv_uint64pow10), ("privity/field.exps", laid_privity_field_exps), ("unicode/utf8.acceptRanges", laid_unicode_utf8_acceptRanges), ("strconv.ErrRange", laid_strconv_ErrRange), ("strconv.ErrSyntax", laid_strconv_ErrSyntax), ("privity/circuit.forms", laid_privity_circuit_forms), ("unicode/utf8.first", laid_unicode_utf8_first)], narrowed := true }
def CircuitPrefixFreeUptoSaid : Prop := circuitPrefixFreeUptoRow.holds Tryd.pinned (OpenSpec.upto circuitPrefixFreeSpec)

/-- 'privitylaw32.CircuitAppendMul', WHERE WHAT IT READS IS OF BULK AT MOST 1048576: true; the input reads as it did. -/
def circuitAppendMulUptoRow : OpenClaim := { program := "ytmnleabeipmhmaadoor", sum := "8a3bf0d68265c67f850a98f452654b4630812ad10c99366ba69761f459fbe2c5", func := "privity/privitylaw32.CircuitAppendMul", spec := "circuitAppendMul", inPlace := ["internal/bytealg.CountString", "internal/bytealg.IndexByteString", "internal/bytealg.IndexString", "internal/abi.NoEscape"], unfollowed := true, recurses := true, named := ["unicode/utf8.first", "unicode/utf8.acceptRanges", "internal/bytealg.MaxLen", "strconv.ErrSyntax", "strconv.ErrRange", "internal/strconv.uint64pow10", "math/bits.deBruijn32tab", "math/bits.deBruijn64tab", "privity/field.exps", "privity/circuit.forms"], apart := false, laid := [("math/bits.deBruijn32tab", laid_math_bits_deBruijn32tab), ("math/bits.deBruijn64tab", laid_math_bits_deBruijn64tab), ("internal/strconv.uint64pow10", laid_internal_strconv_uint64pow10), ("privity/field.exps", laid_privity_field_exps), ("unicode/utf8.acceptRanges", laid_unicode_utf8_acceptRanges), ("strconv.ErrRange", laid_strconv_ErrRange), ("strconv.ErrSyntax", laid_strconv_ErrSyntax), ("privity/circuit.forms", laid_privity_circuit_forms), ("unicode/utf8.first", laid_unicode_utf8_first)], narrowed := true }
def CircuitAppendMulUptoSaid : Prop := circuitAppendMulUptoRow.holds Tryd.pinned (OpenSpec.upto circuitAppendMulSpec)

/-- 'privitylaw32.CircuitValid', WHERE WHAT IT READS IS OF BULK AT MOST 1048576: true; the input reads as it did. -/
def circuitValidUptoRow : OpenClaim := { program := "ytmnleabeipmhmaadoor", sum := "8a3bf0d68265c67f850a98f452654b4630812ad10c99366ba69761f459fbe2c5", func := "privity/privitylaw32.CircuitValid", spec := "circuitValid", inPlace := ["internal/bytealg.CountString", "internal/bytealg.IndexByteString", "internal/bytealg.IndexString", "internal/abi.NoEscape"], unfollowed := true, recurses := true, named := ["unicode/utf8.first", "unicode/utf8.acceptRanges", "internal/bytealg.MaxLen", "strconv.ErrSyntax", "strconv.ErrRange", "internal/strconv.uint64pow10", "math/bits.deBruijn32tab", "math/bits.deBruijn64tab", "privity/field.exps", "privity/circuit.forms"], apart := false, laid := [("math/bits.deBruijn32tab", laid_math_bits_deBruijn32tab), ("math/bits.deBruijn64tab", laid_math_bits_deBruijn64tab), ("internal/strconv.uint64pow10", laid_internal_strconv_uint64pow10), ("privity/field.exps", laid_privity_field_exps), ("unicode/utf8.acceptRanges", laid_unicode_utf8_acceptRanges), ("strconv.ErrRange", laid_strconv_ErrRange), ("strconv.ErrSyntax", laid_strconv_ErrSyntax), ("privity/circuit.forms", laid_privity_circuit_forms), ("unicode/utf8.first", laid_unicode_utf8_first)], narrowed := true }
def CircuitValidUptoSaid : Prop := circuitValidUptoRow.holds Tryd.pinned (OpenSpec.upto circuitValidSpec)

/-- 'privitylaw32.CircuitFormatInjective', WHERE WHAT IT READS IS OF BULK AT MOST 1048576: true; the input reads as it did. -/
def circuitFormatInjectiveUptoRow : OpenClaim := { program := "ytmnleabeipmhmaadoor", sum := "8a3bf0d68265c67f850a98f452654b4630812ad10c99366ba69761f459fbe2c5", func := "privity/privitylaw32.CircuitFormatInjective", spec := "circuitFormatInjective", inPlace := ["internal/bytealg.CountString", "internal/bytealg.IndexByteString", "internal/bytealg.IndexString", "internal/abi.NoEscape"], unfollowed := true, recurses := true, named := ["privity/field.exps", "privity/circuit.forms", "unicode/utf8.first", "unicode/utf8.acceptRanges", "internal/bytealg.MaxLen", "strconv.ErrSyntax", "strconv.ErrRange", "internal/strconv.uint64pow10", "math/bits.deBruijn32tab", "math/bits.deBruijn64tab"], apart := false, laid := [("math/bits.deBruijn32tab", laid_math_bits_deBruijn32tab), ("math/bits.deBruijn64tab", laid_math_bits_deBruijn64tab), ("internal/strconv.uint64pow10", laid_internal_strconv_uint64pow10), ("privity/field.exps", laid_privity_field_exps), ("unicode/utf8.acceptRanges", laid_unicode_utf8_acceptRanges), ("strconv.ErrRange", laid_strconv_ErrRange), ("strconv.ErrSyntax", laid_strconv_ErrSyntax), ("privity/circuit.forms", laid_privity_circuit_forms), ("unicode/utf8.first", laid_unicode_utf8_first)], narrowed := true }
def CircuitFormatInjectiveUptoSaid : Prop := circuitFormatInjectiveUptoRow.holds Tryd.pinned (OpenSpec.upto circuitFormatInjectiveSpec)

end Rows
end Go.Proofs.YtmnleabeipmhmaaDoor
