/-
  NARROWER THAN 'FOR EVERY INPUT', by the rows' own cells (each row's printed sentence says how): CodecEncodeWords: laid · CodecDecodeWords: laid · CodecFormatDecimal: laid · CodecParseDecimal: laid · CodecConcatenation: laid · CodecEncodeLists: laid · CodecDecodeLists: laid · CodecPrefixFree: laid · CodecInjective: laid.
  DERIVED. THE GIVEN ROWS OF THIS SEAT. 9 by the template 'for every input the law returns true; each argument reads behind the call as it read before'; 0 by the template 'total and deterministic' (their statements: YteagfdapkffncaaDoorTotals.lean).
  GIVEN WITH THE SEED: the statements are not yours to turn. If you find one false, say at which input.
  Laid BY PROGRAM, IN A SANDBOX (cutbox-rows.mjs): the forced cells as the released guide's own fill.sh prints them over the translation 9f976304852df04b… (all of the seat's roots in one cut). By AI agents, Wed Nov 11 2026. No macro, syntax, notation, axiom, sorry.
-/
import Derived.Test.YteagfdapkffncaaDoorChecked
import GoSem.Claim
import GoSem.ClaimJoined
import GoSem.ClaimMapViews
import Derived.JoinedTies
import Derived.KernelRfl
namespace Go.Proofs.YteagfdapkffncaaDoor
/- THE CELL 'sum', in the pinned program and in every row, IS THE sha256 OF THE DUMP (.gsa) THAT YteagfdapkffncaaDoorProg.lean LOADS. Nothing in Lean hashes anything: it is a label: what it is worth is what the hold of that sum in a sandbox is worth. -/
noncomputable def Tryd.pinned : Pinned := { name := "yteagfdapkffncaadoor", sum := "9f976304852df04b95e59c4b04998d47fe8d4a4555568ea4aba35204e7cc9c7c", checked := Tryd.checked }
namespace Rows
def none {H : Type} : Left H := { results := [], args := [] }

/- WHAT THE LISTED PACKAGE-LEVEL VARIABLES READ AS WHEN THE CALL BEGINS. Each datum BY PROGRAM (the guide's laid-datum.mjs) off the statement by which the dump's own 'gosem.cut.vars' lays the variable. In a bare row this is a premise. The card (YteagfdapkffncaaDoorCards.lean) ties it to the program's text. -/
def laid_math_bits_deBruijn32tab {H : Type} : DataW H := .agg [.lit (.int .u8 0), .lit (.int .u8 1), .lit (.int .u8 28), .lit (.int .u8 2), .lit (.int .u8 29), .lit (.int .u8 14), .lit (.int .u8 24), .lit (.int .u8 3), .lit (.int .u8 30), .lit (.int .u8 22), .lit (.int .u8 20), .lit (.int .u8 15), .lit (.int .u8 25), .lit (.int .u8 17), .lit (.int .u8 4), .lit (.int .u8 8), .lit (.int .u8 31), .lit (.int .u8 27), .lit (.int .u8 13), .lit (.int .u8 23), .lit (.int .u8 21), .lit (.int .u8 19), .lit (.int .u8 16), .lit (.int .u8 7), .lit (.int .u8 26), .lit (.int .u8 12), .lit (.int .u8 18), .lit (.int .u8 6), .lit (.int .u8 11), .lit (.int .u8 5), .lit (.int .u8 10), .lit (.int .u8 9)]
def laid_math_bits_deBruijn64tab {H : Type} : DataW H := .agg [.lit (.int .u8 0), .lit (.int .u8 1), .lit (.int .u8 56), .lit (.int .u8 2), .lit (.int .u8 57), .lit (.int .u8 49), .lit (.int .u8 28), .lit (.int .u8 3), .lit (.int .u8 61), .lit (.int .u8 58), .lit (.int .u8 42), .lit (.int .u8 50), .lit (.int .u8 38), .lit (.int .u8 29), .lit (.int .u8 17), .lit (.int .u8 4), .lit (.int .u8 62), .lit (.int .u8 47), .lit (.int .u8 59), .lit (.int .u8 36), .lit (.int .u8 45), .lit (.int .u8 43), .lit (.int .u8 51), .lit (.int .u8 22), .lit (.int .u8 53), .lit (.int .u8 39), .lit (.int .u8 33), .lit (.int .u8 30), .lit (.int .u8 24), .lit (.int .u8 18), .lit (.int .u8 12), .lit (.int .u8 5), .lit (.int .u8 63), .lit (.int .u8 55), .lit (.int .u8 48), .lit (.int .u8 27), .lit (.int .u8 60), .lit (.int .u8 41), .lit (.int .u8 37), .lit (.int .u8 16), .lit (.int .u8 46), .lit (.int .u8 35), .lit (.int .u8 44), .lit (.int .u8 21), .lit (.int .u8 52), .lit (.int .u8 32), .lit (.int .u8 23), .lit (.int .u8 11), .lit (.int .u8 54), .lit (.int .u8 26), .lit (.int .u8 40), .lit (.int .u8 15), .lit (.int .u8 34), .lit (.int .u8 20), .lit (.int .u8 31), .lit (.int .u8 10), .lit (.int .u8 25), .lit (.int .u8 14), .lit (.int .u8 19), .lit (.int .u8 9), .lit (.int .u8 13), .lit (.int .u8 8), .lit (.int .u8 7), .lit (.int .u8 6)]
def laid_internal_strconv_uint64pow10 {H : Type} : DataW H := .agg [.lit (.int .u64 1), .lit (.int .u64 10), .lit (.int .u64 100), .lit (.int .u64 1000), .lit (.int .u64 10000), .lit (.int .u64 100000), .lit (.int .u64 1000000), .lit (.int .u64 10000000), .lit (.int .u64 100000000), .lit (.int .u64 1000000000), .lit (.int .u64 10000000000), .lit (.int .u64 100000000000), .lit (.int .u64 1000000000000), .lit (.int .u64 10000000000000), .lit (.int .u64 100000000000000), .lit (.int .u64 1000000000000000), .lit (.int .u64 10000000000000000), .lit (.int .u64 100000000000000000), .lit (.int .u64 1000000000000000000), .lit (.int .u64 10000000000000000000)]
def laid_strconv_ErrRange {H : Type} : DataW H := .iface "*errors.errorString" (.ptr (.agg [.lit (.string [118, 97, 108, 117, 101, 32, 111, 117, 116, 32, 111, 102, 32, 114, 97, 110, 103, 101])]))
def laid_strconv_ErrSyntax {H : Type} : DataW H := .iface "*errors.errorString" (.ptr (.agg [.lit (.string [105, 110, 118, 97, 108, 105, 100, 32, 115, 121, 110, 116, 97, 120])]))

/-- 'privitylaw03.CodecEncodeWords': WHATEVER THE INPUT: true; the input reads as it did. -/
def codecEncodeWordsSpec : ChangeSpec := { name := "codecEncodeWords", fn := fun _ => fun
  | [d] => { results := [.lit (.bool true)], args := [d] }
  | _ => none }
def codecEncodeWordsRow : OpenClaim := { program := "yteagfdapkffncaadoor", sum := "9f976304852df04b95e59c4b04998d47fe8d4a4555568ea4aba35204e7cc9c7c", func := "privity/privitylaw03.CodecEncodeWords", spec := "codecEncodeWords", inPlace := ["internal/abi.NoEscape"], unfollowed := true, recurses := true, named := ["strconv.ErrSyntax", "strconv.ErrRange", "internal/strconv.uint64pow10", "math/bits.deBruijn32tab", "math/bits.deBruijn64tab"], apart := false, laid := [("math/bits.deBruijn32tab", laid_math_bits_deBruijn32tab), ("math/bits.deBruijn64tab", laid_math_bits_deBruijn64tab), ("internal/strconv.uint64pow10", laid_internal_strconv_uint64pow10), ("strconv.ErrRange", laid_strconv_ErrRange), ("strconv.ErrSyntax", laid_strconv_ErrSyntax)] }
def CodecEncodeWordsSaid : Prop := codecEncodeWordsRow.holds Tryd.pinned (OpenSpec.ofChange codecEncodeWordsSpec)

/-- ITS FALSE NEIGHBOUR: 'it returns false'. Refute it at one input. -/
def codecEncodeWordsWrong : ChangeSpec := { name := "codecEncodeWords", fn := fun _ => fun
  | [d] => { results := [.lit (.bool false)], args := [d] }
  | _ => none }
def CodecEncodeWordsWrongFalsely : Prop := codecEncodeWordsRow.holds Tryd.pinned (OpenSpec.ofChange codecEncodeWordsWrong)

/-- 'privitylaw03.CodecDecodeWords': WHATEVER THE INPUT: true; the input reads as it did. -/
def codecDecodeWordsSpec : ChangeSpec := { name := "codecDecodeWords", fn := fun _ => fun
  | [d] => { results := [.lit (.bool true)], args := [d] }
  | _ => none }
def codecDecodeWordsRow : OpenClaim := { program := "yteagfdapkffncaadoor", sum := "9f976304852df04b95e59c4b04998d47fe8d4a4555568ea4aba35204e7cc9c7c", func := "privity/privitylaw03.CodecDecodeWords", spec := "codecDecodeWords", inPlace := ["internal/abi.NoEscape"], unfollowed := true, recurses := true, named := ["strconv.ErrSyntax", "strconv.ErrRange", "internal/strconv.uint64pow10", "math/bits.deBruijn32tab", "math/bits.deBruijn64tab"], apart := false, laid := [("math/bits.deBruijn32tab", laid_math_bits_deBruijn32tab), ("math/bits.deBruijn64tab", laid_math_bits_deBruijn64tab), ("internal/strconv.uint64pow10", laid_internal_strconv_uint64pow10), ("strconv.ErrRange", laid_strconv_ErrRange), ("strconv.ErrSyntax", laid_strconv_ErrSyntax)] }
def CodecDecodeWordsSaid : Prop := codecDecodeWordsRow.holds Tryd.pinned (OpenSpec.ofChange codecDecodeWordsSpec)

/-- ITS FALSE NEIGHBOUR: 'it returns false'. Refute it at one input. -/
def codecDecodeWordsWrong : ChangeSpec := { name := "codecDecodeWords", fn := fun _ => fun
  | [d] => { results := [.lit (.bool false)], args := [d] }
  | _ => none }
def CodecDecodeWordsWrongFalsely : Prop := codecDecodeWordsRow.holds Tryd.pinned (OpenSpec.ofChange codecDecodeWordsWrong)

/-- 'privitylaw03.CodecFormatDecimal': WHATEVER THE INPUT: true; the input reads as it did. -/
def codecFormatDecimalSpec : ChangeSpec := { name := "codecFormatDecimal", fn := fun _ => fun
  | [d1, d2] => { results := [.lit (.bool true)], args := [d1, d2] }
  | _ => none }
def codecFormatDecimalRow : OpenClaim := { program := "yteagfdapkffncaadoor", sum := "9f976304852df04b95e59c4b04998d47fe8d4a4555568ea4aba35204e7cc9c7c", func := "privity/privitylaw03.CodecFormatDecimal", spec := "codecFormatDecimal", inPlace := ["internal/abi.NoEscape"], unfollowed := true, recurses := true, named := ["internal/strconv.uint64pow10", "math/bits.deBruijn32tab", "math/bits.deBruijn64tab", "strconv.ErrSyntax", "strconv.ErrRange"], apart := false, laid := [("math/bits.deBruijn32tab", laid_math_bits_deBruijn32tab), ("math/bits.deBruijn64tab", laid_math_bits_deBruijn64tab), ("internal/strconv.uint64pow10", laid_internal_strconv_uint64pow10), ("strconv.ErrRange", laid_strconv_ErrRange), ("strconv.ErrSyntax", laid_strconv_ErrSyntax)] }
def CodecFormatDecimalSaid : Prop := codecFormatDecimalRow.holds Tryd.pinned (OpenSpec.ofChange codecFormatDecimalSpec)

/-- ITS FALSE NEIGHBOUR: 'it returns false'. Refute it at one input. -/
def codecFormatDecimalWrong : ChangeSpec := { name := "codecFormatDecimal", fn := fun _ => fun
  | [d1, d2] => { results := [.lit (.bool false)], args := [d1, d2] }
  | _ => none }
def CodecFormatDecimalWrongFalsely : Prop := codecFormatDecimalRow.holds Tryd.pinned (OpenSpec.ofChange codecFormatDecimalWrong)

/-- 'privitylaw03.CodecParseDecimal': WHATEVER THE INPUT: true; the input reads as it did. -/
def codecParseDecimalSpec : ChangeSpec := { name := "codecParseDecimal", fn := fun _ => fun
  | [d] => { results := [.lit (.bool true)], args := [d] }
  | _ => none }
def codecParseDecimalRow : OpenClaim := { program := "yteagfdapkffncaadoor", sum := "9f976304852df04b95e59c4b04998d47fe8d4a4555568ea4aba35204e7cc9c7c", func := "privity/privitylaw03.CodecParseDecimal", spec := "codecParseDecimal", inPlace := ["internal/abi.NoEscape"], unfollowed := true, recurses := true, named := ["strconv.ErrSyntax", "strconv.ErrRange", "internal/strconv.uint64pow10", "math/bits.deBruijn32tab", "math/bits.deBruijn64tab"], apart := false, laid := [("math/bits.deBruijn32tab", laid_math_bits_deBruijn32tab), ("math/bits.deBruijn64tab", laid_math_bits_deBruijn64tab), ("internal/strconv.uint64pow10", laid_internal_strconv_uint64pow10), ("strconv.ErrRange", laid_strconv_ErrRange), ("strconv.ErrSyntax", laid_strconv_ErrSyntax)] }
def CodecParseDecimalSaid : Prop := codecParseDecimalRow.holds Tryd.pinned (OpenSpec.ofChange codecParseDecimalSpec)

/-- ITS FALSE NEIGHBOUR: 'it returns false'. Refute it at one input. -/
def codecParseDecimalWrong : ChangeSpec := { name := "codecParseDecimal", fn := fun _ => fun
  | [d] => { results := [.lit (.bool false)], args := [d] }
  | _ => none }
def CodecParseDecimalWrongFalsely : Prop := codecParseDecimalRow.holds Tryd.pinned (OpenSpec.ofChange codecParseDecimalWrong)

/-- 'privitylaw03.CodecConcatenation': WHATEVER THE INPUT: true; the input reads as it did. -/
def codecConcatenationSpec : ChangeSpec := { name := "codecConcatenation", fn := fun _ => fun
  | [d1, d2] => { results := [.lit (.bool true)], args := [d1, d2] }
  | _ => none }
def codecConcatenationRow : OpenClaim := { program := "yteagfdapkffncaadoor", sum := "9f976304852df04b95e59c4b04998d47fe8d4a4555568ea4aba35204e7cc9c7c", func := "privity/privitylaw03.CodecConcatenation", spec := "codecConcatenation", inPlace := ["internal/abi.NoEscape"], unfollowed := true, recurses := true, named := ["strconv.ErrSyntax", "strconv.ErrRange", "internal/strconv.uint64pow10", "math/bits.deBruijn32tab", "math/bits.deBruijn64tab"], apart := false, laid := [("math/bits.deBruijn32tab", laid_math_bits_deBruijn32tab), ("math/bits.deBruijn64tab", laid_math_bits_deBruijn64tab), ("internal/strconv.uint64pow10", laid_internal_strconv_uint64pow10), ("strconv.ErrRange", laid_strconv_ErrRange), ("strconv.ErrSyntax", laid_strconv_ErrSyntax)] }
def CodecConcatenationSaid : Prop := codecConcatenationRow.holds Tryd.pinned (OpenSpec.ofChange codecConcatenationSpec)

/-- ITS FALSE NEIGHBOUR: 'it returns false'. Refute it at one input. -/
def codecConcatenationWrong : ChangeSpec := { name := "codecConcatenation", fn := fun _ => fun
  | [d1, d2] => { results := [.lit (.bool false)], args := [d1, d2] }
  | _ => none }
def CodecConcatenationWrongFalsely : Prop := codecConcatenationRow.holds Tryd.pinned (OpenSpec.ofChange codecConcatenationWrong)

/-- 'privitylaw03.CodecEncodeLists': WHATEVER THE INPUT: true; the input reads as it did. -/
def codecEncodeListsSpec : ChangeSpec := { name := "codecEncodeLists", fn := fun _ => fun
  | [d] => { results := [.lit (.bool true)], args := [d] }
  | _ => none }
def codecEncodeListsRow : OpenClaim := { program := "yteagfdapkffncaadoor", sum := "9f976304852df04b95e59c4b04998d47fe8d4a4555568ea4aba35204e7cc9c7c", func := "privity/privitylaw03.CodecEncodeLists", spec := "codecEncodeLists", inPlace := ["internal/abi.NoEscape"], unfollowed := true, recurses := true, named := ["strconv.ErrSyntax", "strconv.ErrRange", "internal/strconv.uint64pow10", "math/bits.deBruijn32tab", "math/bits.deBruijn64tab"], apart := false, laid := [("math/bits.deBruijn32tab", laid_math_bits_deBruijn32tab), ("math/bits.deBruijn64tab", laid_math_bits_deBruijn64tab), ("internal/strconv.uint64pow10", laid_internal_strconv_uint64pow10), ("strconv.ErrRange", laid_strconv_ErrRange), ("strconv.ErrSyntax", laid_strconv_ErrSyntax)] }
def CodecEncodeListsSaid : Prop := codecEncodeListsRow.holds Tryd.pinned (OpenSpec.ofChange codecEncodeListsSpec)

/-- ITS FALSE NEIGHBOUR: 'it returns false'. Refute it at one input. -/
def codecEncodeListsWrong : ChangeSpec := { name := "codecEncodeLists", fn := fun _ => fun
  | [d] => { results := [.lit (.bool false)], args := [d] }
  | _ => none }
def CodecEncodeListsWrongFalsely : Prop := codecEncodeListsRow.holds Tryd.pinned (OpenSpec.ofChange codecEncodeListsWrong)

/-- 'privitylaw03.CodecDecodeLists': WHATEVER THE INPUT: true; the input reads as it did. -/
def codecDecodeListsSpec : ChangeSpec := { name := "codecDecodeLists", fn := fun _ => fun
  | [d] => { results := [.lit (.bool true)], args := [d] }
  | _ => none }
def codecDecodeListsRow : OpenClaim := { program := "yteagfdapkffncaadoor", sum := "9f976304852df04b95e59c4b04998d47fe8d4a4555568ea4aba35204e7cc9c7c", func := "privity/privitylaw03.CodecDecodeLists", spec := "codecDecodeLists", inPlace := ["internal/abi.NoEscape"], unfollowed := true, recurses := true, named := ["strconv.ErrSyntax", "strconv.ErrRange", "internal/strconv.uint64pow10", "math/bits.deBruijn32tab", "math/bits.deBruijn64tab"], apart := false, laid := [("math/bits.deBruijn32tab", laid_math_bits_deBruijn32tab), ("math/bits.deBruijn64tab", laid_math_bits_deBruijn64tab), ("internal/strconv.uint64pow10", laid_internal_strconv_uint64pow10), ("strconv.ErrRange", laid_strconv_ErrRange), ("strconv.ErrSyntax", laid_strconv_ErrSyntax)] }
def CodecDecodeListsSaid : Prop := codecDecodeListsRow.holds Tryd.pinned (OpenSpec.ofChange codecDecodeListsSpec)

/-- ITS FALSE NEIGHBOUR: 'it returns false'. Refute it at one input. -/
def codecDecodeListsWrong : ChangeSpec := { name := "codecDecodeLists", fn := fun _ => fun
  | [d] => { results := [.lit (.bool false)], args := [d] }
  | _ => none }
def CodecDecodeListsWrongFalsely : Prop := codecDecodeListsRow.holds Tryd.pinned (OpenSpec.ofChange codecDecodeListsWrong)

/-- 'privitylaw03.CodecPrefixFree': WHATEVER THE INPUT: true; the input reads as it did. -/
def codecPrefixFreeSpec : ChangeSpec := { name := "codecPrefixFree", fn := fun _ => fun
  | [d1, d2, d3] => { results := [.lit (.bool true)], args := [d1, d2, d3] }
  | _ => none }
def codecPrefixFreeRow : OpenClaim := { program := "yteagfdapkffncaadoor", sum := "9f976304852df04b95e59c4b04998d47fe8d4a4555568ea4aba35204e7cc9c7c", func := "privity/privitylaw03.CodecPrefixFree", spec := "codecPrefixFree", inPlace := ["internal/abi.NoEscape"], unfollowed := true, recurses := true, named := ["strconv.ErrSyntax", "strconv.ErrRange", "internal/strconv.uint64pow10", "math/bits.deBruijn32tab", "math/bits.deBruijn64tab"], apart := false, laid := [("math/bits.deBruijn32tab", laid_math_bits_deBruijn32tab), ("math/bits.deBruijn64tab", laid_math_bits_deBruijn64tab), ("internal/strconv.uint64pow10", laid_internal_strconv_uint64pow10), ("strconv.ErrRange", laid_strconv_ErrRange), ("strconv.ErrSyntax", laid_strconv_ErrSyntax)] }
def CodecPrefixFreeSaid : Prop := codecPrefixFreeRow.holds Tryd.pinned (OpenSpec.ofChange codecPrefixFreeSpec)

/-- ITS FALSE NEIGHBOUR: 'it returns false'. Refute it at one input. -/
def codecPrefixFreeWrong : ChangeSpec := { name := "codecPrefixFree", fn := fun _ => fun
  | [d1, d2, d3] => { results := [.lit (.bool false)], args := [d1, d2, d3] }
  | _ => none }
def CodecPrefixFreeWrongFalsely : Prop := codecPrefixFreeRow.holds Tryd.pinned (OpenSpec.ofChange codecPrefixFreeWrong)

/-- 'privitylaw03.CodecInjective': WHATEVER THE INPUT: true; the input reads as it did. -/
def codecInjectiveSpec : ChangeSpec := { name := "codecInjective", fn := fun _ => fun
  | [d1, d2] => { results := [.lit (.bool true)], args := [d1, d2] }
  | _ => none }
def codecInjectiveRow : OpenClaim := { program := "yteagfdapkffncaadoor", sum := "9f976304852df04b95e59c4b04998d47fe8d4a4555568ea4aba35204e7cc9c7c", func := "privity/privitylaw03.CodecInjective", spec := "codecInjective", inPlace := ["internal/abi.NoEscape"], unfollowed := true, recurses := true, named := ["strconv.ErrSyntax", "strconv.ErrRange", "internal/strconv.uint64pow10", "math/bits.deBruijn32tab", "math/bits.deBruijn64tab"], apart := false, laid := [("math/bits.deBruijn32tab", laid_math_bits_deBruijn32tab), ("math/bits.deBruijn64tab", laid_math_bits_deBruijn64tab), ("internal/strconv.uint64pow10", laid_internal_strconv_uint64pow10), ("strconv.ErrRange", laid_strconv_ErrRange), ("strconv.ErrSyntax", laid_strconv_ErrSyntax)] }
def CodecInjectiveSaid : Prop := codecInjectiveRow.holds Tryd.pinned (OpenSpec.ofChange codecInjectiveSpec)

/-- ITS FALSE NEIGHBOUR: 'it returns false'. Refute it at one input. -/
def codecInjectiveWrong : ChangeSpec := { name := "codecInjective", fn := fun _ => fun
  | [d1, d2] => { results := [.lit (.bool false)], args := [d1, d2] }
  | _ => none }
def CodecInjectiveWrongFalsely : Prop := codecInjectiveRow.holds Tryd.pinned (OpenSpec.ofChange codecInjectiveWrong)

/- THE SECOND FORM. 'bulk': how many values and letters a reading holds, each counted each time it is reached (what is shared counts as often as it is met; a slice's spare places count too). A statement '..UptoSaid' is the law's where the arguments, and the package variables that the reading takes, are together of bulk at most 1048576: NARROWER than '..Said'. Prove '..Said' where nothing that the law and all that it calls make is longer than what came in: it says more and counts as full. Else prove '..UptoSaid'. A law counts once. -/
mutual
def uptoBulk {H : Type} : DataW H → Nat
  | .lit (.string bytes) => bytes.length + 1
  | .lit _ => 1
  | .nil => 1
  | .ptr d => uptoBulk d + 1
  | .slice elems spare => uptoBulkAll elems + uptoBulkAll spare + 1
  | .agg parts => uptoBulkAll parts + 1
  | .iface _ d => uptoBulk d + 1
  | .map entries => uptoBulkEntries entries + 1
  | .held _ => 1
def uptoBulkAll {H : Type} : List (DataW H) → Nat
  | [] => 0
  | d :: r => uptoBulk d + uptoBulkAll r
def uptoBulkEntries {H : Type} : List (Lit × DataW H) → Nat
  | [] => 0
  | x :: r => uptoBulkEntry x + uptoBulkEntries r
def uptoBulkEntry {H : Type} : Lit × DataW H → Nat
  | (.string bytes, d) => bytes.length + uptoBulk d + 1
  | (_, d) => uptoBulk d + 1
 end
def uptoSmall : (H : Type) → List (DataW H) → Bool := fun _ ds => decide (uptoBulkAll ds ≤ 1048576)
def OpenSpec.upto (s : _root_.Go.ChangeSpec) : _root_.Go.OpenSpec := { _root_.Go.OpenSpec.ofChange s with cond := some uptoSmall }

/-- 'privitylaw03.CodecEncodeWords', WHERE WHAT IT READS IS OF BULK AT MOST 1048576: true; the input reads as it did. -/
def codecEncodeWordsUptoRow : OpenClaim := { program := "yteagfdapkffncaadoor", sum := "9f976304852df04b95e59c4b04998d47fe8d4a4555568ea4aba35204e7cc9c7c", func := "privity/privitylaw03.CodecEncodeWords", spec := "codecEncodeWords", inPlace := ["internal/abi.NoEscape"], unfollowed := true, recurses := true, named := ["strconv.ErrSyntax", "strconv.ErrRange", "internal/strconv.uint64pow10", "math/bits.deBruijn32tab", "math/bits.deBruijn64tab"], apart := false, laid := [("math/bits.deBruijn32tab", laid_math_bits_deBruijn32tab), ("math/bits.deBruijn64tab", laid_math_bits_deBruijn64tab), ("internal/strconv.uint64pow10", laid_internal_strconv_uint64pow10), ("strconv.ErrRange", laid_strconv_ErrRange), ("strconv.ErrSyntax", laid_strconv_ErrSyntax)], narrowed := true }
def CodecEncodeWordsUptoSaid : Prop := codecEncodeWordsUptoRow.holds Tryd.pinned (OpenSpec.upto codecEncodeWordsSpec)

/-- 'privitylaw03.CodecDecodeWords', WHERE WHAT IT READS IS OF BULK AT MOST 1048576: true; the input reads as it did. -/
def codecDecodeWordsUptoRow : OpenClaim := { program := "yteagfdapkffncaadoor", sum := "9f976304852df04b95e59c4b04998d47fe8d4a4555568ea4aba35204e7cc9c7c", func := "privity/privitylaw03.CodecDecodeWords", spec := "codecDecodeWords", inPlace := ["internal/abi.NoEscape"], unfollowed := true, recurses := true, named := ["strconv.ErrSyntax", "strconv.ErrRange", "internal/strconv.uint64pow10", "math/bits.deBruijn32tab", "math/bits.deBruijn64tab"], apart := false, laid := [("math/bits.deBruijn32tab", laid_math_bits_deBruijn32tab), ("math/bits.deBruijn64tab", laid_math_bits_deBruijn64tab), ("internal/strconv.uint64pow10", laid_internal_strconv_uint64pow10), ("strconv.ErrRange", laid_strconv_ErrRange), ("strconv.ErrSyntax", laid_strconv_ErrSyntax)], narrowed := true }
def CodecDecodeWordsUptoSaid : Prop := codecDecodeWordsUptoRow.holds Tryd.pinned (OpenSpec.upto codecDecodeWordsSpec)

/-- 'privitylaw03.CodecFormatDecimal', WHERE WHAT IT READS IS OF BULK AT MOST 1048576: true; the input reads as it did. -/
def codecFormatDecimalUptoRow : OpenClaim := { program := "yteagfdapkffncaadoor", sum := "9f976304852df04b95e59c4b04998d47fe8d4a4555568ea4aba35204e7cc9c7c", func := "privity/privitylaw03.CodecFormatDecimal", spec := "codecFormatDecimal", inPlace := ["internal/abi.NoEscape"], unfollowed := true, recurses := true, named := ["internal/strconv.uint64pow10", "math/bits.deBruijn32tab", "math/bits.deBruijn64tab", "strconv.ErrSyntax", "strconv.ErrRange"], apart := false, laid := [("math/bits.deBruijn32tab", laid_math_bits_deBruijn32tab), ("math/bits.deBruijn64tab", laid_math_bits_deBruijn64tab), ("internal/strconv.uint64pow10", laid_internal_strconv_uint64pow10), ("strconv.ErrRange", laid_strconv_ErrRange), ("strconv.ErrSyntax", laid_strconv_ErrSyntax)], narrowed := true }
def CodecFormatDecimalUptoSaid : Prop := codecFormatDecimalUptoRow.holds Tryd.pinned (OpenSpec.upto codecFormatDecimalSpec)

/-- 'privitylaw03.CodecParseDecimal', WHERE WHAT IT READS IS OF BULK AT MOST 1048576: true; the input reads as it did. -/
def codecParseDecimalUptoRow : OpenClaim := { program := "yteagfdapkffncaadoor", sum := "9f976304852df04b95e59c4b04998d47fe8d4a4555568ea4aba35204e7cc9c7c", func := "privity/privitylaw03.CodecParseDecimal", spec := "codecParseDecimal", inPlace := ["internal/abi.NoEscape"], unfollowed := true, recurses := true, named := ["strconv.ErrSyntax", "strconv.ErrRange", "internal/strconv.uint64pow10", "math/bits.deBruijn32tab", "math/bits.deBruijn64tab"], apart := false, laid := [("math/bits.deBruijn32tab", laid_math_bits_deBruijn32tab), ("math/bits.deBruijn64tab", laid_math_bits_deBruijn64tab), ("internal/strconv.uint64pow10", laid_internal_strconv_uint64pow10), ("strconv.ErrRange", laid_strconv_ErrRange), ("strconv.ErrSyntax", laid_strconv_ErrSyntax)], narrowed := true }
def CodecParseDecimalUptoSaid : Prop := codecParseDecimalUptoRow.holds Tryd.pinned (OpenSpec.upto codecParseDecimalSpec)

/-- 'privitylaw03.CodecConcatenation', WHERE WHAT IT READS IS OF BULK AT MOST 1048576: true; the input reads as it did. -/
def codecConcatenationUptoRow : OpenClaim := { program := "yteagfdapkffncaadoor", sum := "9f976304852df04b95e59c4b04998d47fe8d4a4555568ea4aba35204e7cc9c7c", func := "privity/privitylaw03.CodecConcatenation", spec := "codecConcatenation", inPlace := ["internal/abi.NoEscape"], unfollowed := true, recurses := true, named := ["strconv.ErrSyntax", "strconv.ErrRange", "internal/strconv.uint64pow10", "math/bits.deBruijn32tab", "math/bits.deBruijn64tab"], apart := false, laid := [("math/bits.deBruijn32tab", laid_math_bits_deBruijn32tab), ("math/bits.deBruijn64tab", laid_math_bits_deBruijn64tab), ("internal/strconv.uint64pow10", laid_internal_strconv_uint64pow10), ("strconv.ErrRange", laid_strconv_ErrRange), ("strconv.ErrSyntax", laid_strconv_ErrSyntax)], narrowed := true }
def CodecConcatenationUptoSaid : Prop := codecConcatenationUptoRow.holds Tryd.pinned (OpenSpec.upto codecConcatenationSpec)

/-- 'privitylaw03.CodecEncodeLists', WHERE WHAT IT READS IS OF BULK AT MOST 1048576: true; the input reads as it did. -/
def codecEncodeListsUptoRow : OpenClaim := { program := "yteagfdapkffncaadoor", sum := "9f976304852df04b95e59c4b04998d47fe8d4a4555568ea4aba35204e7cc9c7c", func := "privity/privitylaw03.CodecEncodeLists", spec := "codecEncodeLists", inPlace := ["internal/abi.NoEscape"], unfollowed := true, recurses := true, named := ["strconv.ErrSyntax", "strconv.ErrRange", "internal/strconv.uint64pow10", "math/bits.deBruijn32tab", "math/bits.deBruijn64tab"], apart := false, laid := [("math/bits.deBruijn32tab", laid_math_bits_deBruijn32tab), ("math/bits.deBruijn64tab", laid_math_bits_deBruijn64tab), ("internal/strconv.uint64pow10", laid_internal_strconv_uint64pow10), ("strconv.ErrRange", laid_strconv_ErrRange), ("strconv.ErrSyntax", laid_strconv_ErrSyntax)], narrowed := true }
def CodecEncodeListsUptoSaid : Prop := codecEncodeListsUptoRow.holds Tryd.pinned (OpenSpec.upto codecEncodeListsSpec)

/-- 'privitylaw03.CodecDecodeLists', WHERE WHAT IT READS IS OF BULK AT MOST 1048576: true; the input reads as it did. -/
def codecDecodeListsUptoRow : OpenClaim := { program := "yteagfdapkffncaadoor", sum := "9f976304852df04b95e59c4b04998d47fe8d4a4555568ea4aba35204e7cc9c7c", func := "privity/privitylaw03.CodecDecodeLists", spec := "codecDecodeLists", inPlace := ["internal/abi.NoEscape"], unfollowed := true, recurses := true, named := ["strconv.ErrSyntax", "strconv.ErrRange", "internal/strconv.uint64pow10", "math/bits.deBruijn32tab", "math/bits.deBruijn64tab"], apart := false, laid := [("math/bits.deBruijn32tab", laid_math_bits_deBruijn32tab), ("math/bits.deBruijn64tab", laid_math_bits_deBruijn64tab), ("internal/strconv.uint64pow10", laid_internal_strconv_uint64pow10), ("strconv.ErrRange", laid_strconv_ErrRange), ("strconv.ErrSyntax", laid_strconv_ErrSyntax)], narrowed := true }
def CodecDecodeListsUptoSaid : Prop := codecDecodeListsUptoRow.holds Tryd.pinned (OpenSpec.upto codecDecodeListsSpec)

/-- 'privitylaw03.CodecPrefixFree', WHERE WHAT IT READS IS OF BULK AT MOST 1048576: true; the input reads as it did. -/
def codecPrefixFreeUptoRow : OpenClaim := { program := "yteagfdapkffncaadoor", sum := "9f976304852df04b95e59c4b04998d47fe8d4a4555568ea4aba35204e7cc9c7c", func := "privity/privitylaw03.CodecPrefixFree", spec := "codecPrefixFree", inPlace := ["internal/abi.NoEscape"], unfollowed := true, recurses := true, named := ["strconv.ErrSyntax", "strconv.ErrRange", "internal/strconv.uint64pow10", "math/bits.deBruijn32tab", "math/bits.deBruijn64tab"], apart := false, laid := [("math/bits.deBruijn32tab", laid_math_bits_deBruijn32tab), ("math/bits.deBruijn64tab", laid_math_bits_deBruijn64tab), ("internal/strconv.uint64pow10", laid_internal_strconv_uint64pow10), ("strconv.ErrRange", laid_strconv_ErrRange), ("strconv.ErrSyntax", laid_strconv_ErrSyntax)], narrowed := true }
def CodecPrefixFreeUptoSaid : Prop := codecPrefixFreeUptoRow.holds Tryd.pinned (OpenSpec.upto codecPrefixFreeSpec)

/-- 'privitylaw03.CodecInjective', WHERE WHAT IT READS IS OF BULK AT MOST 1048576: true; the input reads as it did. -/
def codecInjectiveUptoRow : OpenClaim := { program := "yteagfdapkffncaadoor", sum := "9f976304852df04b95e59c4b04998d47fe8d4a4555568ea4aba35204e7cc9c7c", func := "privity/privitylaw03.CodecInjective", spec := "codecInjective", inPlace := ["internal/abi.NoEscape"], unfollowed := true, recurses := true, named := ["strconv.ErrSyntax", "strconv.ErrRange", "internal/strconv.uint64pow10", "math/bits.deBruijn32tab", "math/bits.deBruijn64tab"], apart := false, laid := [("math/bits.deBruijn32tab", laid_math_bits_deBruijn32tab), ("math/bits.deBruijn64tab", laid_math_bits_deBruijn64tab), ("internal/strconv.uint64pow10", laid_internal_strconv_uint64pow10), ("strconv.ErrRange", laid_strconv_ErrRange), ("strconv.ErrSyntax", laid_strconv_ErrSyntax)], narrowed := true }
def CodecInjectiveUptoSaid : Prop := codecInjectiveUptoRow.holds Tryd.pinned (OpenSpec.upto codecInjectiveSpec)

end Rows
end Go.Proofs.YteagfdapkffncaaDoor
