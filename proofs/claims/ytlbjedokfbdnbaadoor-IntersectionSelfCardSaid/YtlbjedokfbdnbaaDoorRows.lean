/-
  NARROWER THAN 'FOR EVERY INPUT', by the rows' own cells (each row's printed sentence says how): IntersectionIntersect: laid · IntersectionOrderIrrelevant: laid · IntersectionSymmetric: laid · IntersectionConcatenation: laid · IntersectionSelf: laid.
  DERIVED. THE GIVEN ROWS OF THIS SEAT. 5 by the template 'for every input the law returns true; each argument reads behind the call as it read before'; 0 by the template 'total and deterministic' (their statements: YtlbjedokfbdnbaaDoorTotals.lean).
  GIVEN WITH THE SEED: the statements are not yours to turn. If you find one false, say at which input.
  Laid BY PROGRAM, IN A SANDBOX (cutbox-rows.mjs): the forced cells as the released guide's own fill.sh prints them over the translation a8bd0ca0f93a4db3… (all of the seat's roots in one cut). By AI agents, Wed Nov 11 2026. No macro, syntax, notation, axiom, sorry.
-/
import Derived.Test.YtlbjedokfbdnbaaDoorChecked
import GoSem.Claim
import GoSem.ClaimJoined
import GoSem.ClaimMapViews
import Derived.JoinedTies
import Derived.KernelRfl
namespace Go.Proofs.YtlbjedokfbdnbaaDoor
/- THE CELL 'sum', in the pinned program and in every row, IS THE sha256 OF THE DUMP (.gsa) THAT YtlbjedokfbdnbaaDoorProg.lean LOADS. Nothing in Lean hashes anything: it is a label: what it is worth is what the hold of that sum in a sandbox is worth. -/
noncomputable def Tryd.pinned : Pinned := { name := "ytlbjedokfbdnbaadoor", sum := "a8bd0ca0f93a4db361061256d7aadba4402974857d13fc89f3a3b19c6f99f427", checked := Tryd.checked }
namespace Rows
def none {H : Type} : Left H := { results := [], args := [] }

/- WHAT THE LISTED PACKAGE-LEVEL VARIABLES READ AS WHEN THE CALL BEGINS. Each datum BY PROGRAM (the guide's laid-datum.mjs) off the statement by which the dump's own 'gosem.cut.vars' lays the variable. In a bare row this is a premise. The card (YtlbjedokfbdnbaaDoorCards.lean) ties it to the program's text. -/
def laid_math_bits_deBruijn32tab {H : Type} : DataW H := .agg [.lit (.int .u8 0), .lit (.int .u8 1), .lit (.int .u8 28), .lit (.int .u8 2), .lit (.int .u8 29), .lit (.int .u8 14), .lit (.int .u8 24), .lit (.int .u8 3), .lit (.int .u8 30), .lit (.int .u8 22), .lit (.int .u8 20), .lit (.int .u8 15), .lit (.int .u8 25), .lit (.int .u8 17), .lit (.int .u8 4), .lit (.int .u8 8), .lit (.int .u8 31), .lit (.int .u8 27), .lit (.int .u8 13), .lit (.int .u8 23), .lit (.int .u8 21), .lit (.int .u8 19), .lit (.int .u8 16), .lit (.int .u8 7), .lit (.int .u8 26), .lit (.int .u8 12), .lit (.int .u8 18), .lit (.int .u8 6), .lit (.int .u8 11), .lit (.int .u8 5), .lit (.int .u8 10), .lit (.int .u8 9)]
def laid_math_bits_deBruijn64tab {H : Type} : DataW H := .agg [.lit (.int .u8 0), .lit (.int .u8 1), .lit (.int .u8 56), .lit (.int .u8 2), .lit (.int .u8 57), .lit (.int .u8 49), .lit (.int .u8 28), .lit (.int .u8 3), .lit (.int .u8 61), .lit (.int .u8 58), .lit (.int .u8 42), .lit (.int .u8 50), .lit (.int .u8 38), .lit (.int .u8 29), .lit (.int .u8 17), .lit (.int .u8 4), .lit (.int .u8 62), .lit (.int .u8 47), .lit (.int .u8 59), .lit (.int .u8 36), .lit (.int .u8 45), .lit (.int .u8 43), .lit (.int .u8 51), .lit (.int .u8 22), .lit (.int .u8 53), .lit (.int .u8 39), .lit (.int .u8 33), .lit (.int .u8 30), .lit (.int .u8 24), .lit (.int .u8 18), .lit (.int .u8 12), .lit (.int .u8 5), .lit (.int .u8 63), .lit (.int .u8 55), .lit (.int .u8 48), .lit (.int .u8 27), .lit (.int .u8 60), .lit (.int .u8 41), .lit (.int .u8 37), .lit (.int .u8 16), .lit (.int .u8 46), .lit (.int .u8 35), .lit (.int .u8 44), .lit (.int .u8 21), .lit (.int .u8 52), .lit (.int .u8 32), .lit (.int .u8 23), .lit (.int .u8 11), .lit (.int .u8 54), .lit (.int .u8 26), .lit (.int .u8 40), .lit (.int .u8 15), .lit (.int .u8 34), .lit (.int .u8 20), .lit (.int .u8 31), .lit (.int .u8 10), .lit (.int .u8 25), .lit (.int .u8 14), .lit (.int .u8 19), .lit (.int .u8 9), .lit (.int .u8 13), .lit (.int .u8 8), .lit (.int .u8 7), .lit (.int .u8 6)]
def laid_internal_strconv_uint64pow10 {H : Type} : DataW H := .agg [.lit (.int .u64 1), .lit (.int .u64 10), .lit (.int .u64 100), .lit (.int .u64 1000), .lit (.int .u64 10000), .lit (.int .u64 100000), .lit (.int .u64 1000000), .lit (.int .u64 10000000), .lit (.int .u64 100000000), .lit (.int .u64 1000000000), .lit (.int .u64 10000000000), .lit (.int .u64 100000000000), .lit (.int .u64 1000000000000), .lit (.int .u64 10000000000000), .lit (.int .u64 100000000000000), .lit (.int .u64 1000000000000000), .lit (.int .u64 10000000000000000), .lit (.int .u64 100000000000000000), .lit (.int .u64 1000000000000000000), .lit (.int .u64 10000000000000000000)]

/-- 'privitylaw52.IntersectionIntersect': WHATEVER THE INPUT: true; the input reads as it did. -/
def intersectionIntersectSpec : ChangeSpec := { name := "intersectionIntersect", fn := fun _ => fun
  | [d1, d2] => { results := [.lit (.bool true)], args := [d1, d2] }
  | _ => none }
def intersectionIntersectRow : OpenClaim := { program := "ytlbjedokfbdnbaadoor", sum := "a8bd0ca0f93a4db361061256d7aadba4402974857d13fc89f3a3b19c6f99f427", func := "privity/privitylaw52.IntersectionIntersect", spec := "intersectionIntersect", inPlace := ["internal/abi.NoEscape"], unfollowed := true, recurses := true, named := ["internal/strconv.uint64pow10", "math/bits.deBruijn32tab", "math/bits.deBruijn64tab"], apart := false, laid := [("math/bits.deBruijn32tab", laid_math_bits_deBruijn32tab), ("math/bits.deBruijn64tab", laid_math_bits_deBruijn64tab), ("internal/strconv.uint64pow10", laid_internal_strconv_uint64pow10)] }
def IntersectionIntersectSaid : Prop := intersectionIntersectRow.holds Tryd.pinned (OpenSpec.ofChange intersectionIntersectSpec)

/-- ITS FALSE NEIGHBOUR: 'it returns false'. Refute it at one input. -/
def intersectionIntersectWrong : ChangeSpec := { name := "intersectionIntersect", fn := fun _ => fun
  | [d1, d2] => { results := [.lit (.bool false)], args := [d1, d2] }
  | _ => none }
def IntersectionIntersectWrongFalsely : Prop := intersectionIntersectRow.holds Tryd.pinned (OpenSpec.ofChange intersectionIntersectWrong)

/-- 'privitylaw52.IntersectionOrderIrrelevant': WHATEVER THE INPUT: true; the input reads as it did. -/
def intersectionOrderIrrelevantSpec : ChangeSpec := { name := "intersectionOrderIrrelevant", fn := fun _ => fun
  | [d1, d2] => { results := [.lit (.bool true)], args := [d1, d2] }
  | _ => none }
def intersectionOrderIrrelevantRow : OpenClaim := { program := "ytlbjedokfbdnbaadoor", sum := "a8bd0ca0f93a4db361061256d7aadba4402974857d13fc89f3a3b19c6f99f427", func := "privity/privitylaw52.IntersectionOrderIrrelevant", spec := "intersectionOrderIrrelevant", inPlace := ["internal/abi.NoEscape"], unfollowed := true, recurses := true, named := ["internal/strconv.uint64pow10", "math/bits.deBruijn32tab", "math/bits.deBruijn64tab"], apart := false, laid := [("math/bits.deBruijn32tab", laid_math_bits_deBruijn32tab), ("math/bits.deBruijn64tab", laid_math_bits_deBruijn64tab), ("internal/strconv.uint64pow10", laid_internal_strconv_uint64pow10)] }
def IntersectionOrderIrrelevantSaid : Prop := intersectionOrderIrrelevantRow.holds Tryd.pinned (OpenSpec.ofChange intersectionOrderIrrelevantSpec)

/-- ITS FALSE NEIGHBOUR: 'it returns false'. Refute it at one input. -/
def intersectionOrderIrrelevantWrong : ChangeSpec := { name := "intersectionOrderIrrelevant", fn := fun _ => fun
  | [d1, d2] => { results := [.lit (.bool false)], args := [d1, d2] }
  | _ => none }
def IntersectionOrderIrrelevantWrongFalsely : Prop := intersectionOrderIrrelevantRow.holds Tryd.pinned (OpenSpec.ofChange intersectionOrderIrrelevantWrong)

/-- 'privitylaw52.IntersectionSymmetric': WHATEVER THE INPUT: true; the input reads as it did. -/
def intersectionSymmetricSpec : ChangeSpec := { name := "intersectionSymmetric", fn := fun _ => fun
  | [d1, d2] => { results := [.lit (.bool true)], args := [d1, d2] }
  | _ => none }
def intersectionSymmetricRow : OpenClaim := { program := "ytlbjedokfbdnbaadoor", sum := "a8bd0ca0f93a4db361061256d7aadba4402974857d13fc89f3a3b19c6f99f427", func := "privity/privitylaw52.IntersectionSymmetric", spec := "intersectionSymmetric", inPlace := ["internal/abi.NoEscape"], unfollowed := true, recurses := true, named := ["internal/strconv.uint64pow10", "math/bits.deBruijn32tab", "math/bits.deBruijn64tab"], apart := false, laid := [("math/bits.deBruijn32tab", laid_math_bits_deBruijn32tab), ("math/bits.deBruijn64tab", laid_math_bits_deBruijn64tab), ("internal/strconv.uint64pow10", laid_internal_strconv_uint64pow10)] }
def IntersectionSymmetricSaid : Prop := intersectionSymmetricRow.holds Tryd.pinned (OpenSpec.ofChange intersectionSymmetricSpec)

/-- ITS FALSE NEIGHBOUR: 'it returns false'. Refute it at one input. -/
def intersectionSymmetricWrong : ChangeSpec := { name := "intersectionSymmetric", fn := fun _ => fun
  | [d1, d2] => { results := [.lit (.bool false)], args := [d1, d2] }
  | _ => none }
def IntersectionSymmetricWrongFalsely : Prop := intersectionSymmetricRow.holds Tryd.pinned (OpenSpec.ofChange intersectionSymmetricWrong)

/-- 'privitylaw52.IntersectionConcatenation': WHATEVER THE INPUT: true; the input reads as it did. -/
def intersectionConcatenationSpec : ChangeSpec := { name := "intersectionConcatenation", fn := fun _ => fun
  | [d1, d2, d3] => { results := [.lit (.bool true)], args := [d1, d2, d3] }
  | _ => none }
def intersectionConcatenationRow : OpenClaim := { program := "ytlbjedokfbdnbaadoor", sum := "a8bd0ca0f93a4db361061256d7aadba4402974857d13fc89f3a3b19c6f99f427", func := "privity/privitylaw52.IntersectionConcatenation", spec := "intersectionConcatenation", inPlace := ["internal/abi.NoEscape"], unfollowed := true, recurses := true, named := ["internal/strconv.uint64pow10", "math/bits.deBruijn32tab", "math/bits.deBruijn64tab"], apart := false, laid := [("math/bits.deBruijn32tab", laid_math_bits_deBruijn32tab), ("math/bits.deBruijn64tab", laid_math_bits_deBruijn64tab), ("internal/strconv.uint64pow10", laid_internal_strconv_uint64pow10)] }
def IntersectionConcatenationSaid : Prop := intersectionConcatenationRow.holds Tryd.pinned (OpenSpec.ofChange intersectionConcatenationSpec)

/-- ITS FALSE NEIGHBOUR: 'it returns false'. Refute it at one input. -/
def intersectionConcatenationWrong : ChangeSpec := { name := "intersectionConcatenation", fn := fun _ => fun
  | [d1, d2, d3] => { results := [.lit (.bool false)], args := [d1, d2, d3] }
  | _ => none }
def IntersectionConcatenationWrongFalsely : Prop := intersectionConcatenationRow.holds Tryd.pinned (OpenSpec.ofChange intersectionConcatenationWrong)

/-- 'privitylaw52.IntersectionSelf': WHATEVER THE INPUT: true; the input reads as it did. -/
def intersectionSelfSpec : ChangeSpec := { name := "intersectionSelf", fn := fun _ => fun
  | [d1, d2] => { results := [.lit (.bool true)], args := [d1, d2] }
  | _ => none }
def intersectionSelfRow : OpenClaim := { program := "ytlbjedokfbdnbaadoor", sum := "a8bd0ca0f93a4db361061256d7aadba4402974857d13fc89f3a3b19c6f99f427", func := "privity/privitylaw52.IntersectionSelf", spec := "intersectionSelf", inPlace := ["internal/abi.NoEscape"], unfollowed := true, recurses := true, named := ["internal/strconv.uint64pow10", "math/bits.deBruijn32tab", "math/bits.deBruijn64tab"], apart := false, laid := [("math/bits.deBruijn32tab", laid_math_bits_deBruijn32tab), ("math/bits.deBruijn64tab", laid_math_bits_deBruijn64tab), ("internal/strconv.uint64pow10", laid_internal_strconv_uint64pow10)] }
def IntersectionSelfSaid : Prop := intersectionSelfRow.holds Tryd.pinned (OpenSpec.ofChange intersectionSelfSpec)

/-- ITS FALSE NEIGHBOUR: 'it returns false'. Refute it at one input. -/
def intersectionSelfWrong : ChangeSpec := { name := "intersectionSelf", fn := fun _ => fun
  | [d1, d2] => { results := [.lit (.bool false)], args := [d1, d2] }
  | _ => none }
def IntersectionSelfWrongFalsely : Prop := intersectionSelfRow.holds Tryd.pinned (OpenSpec.ofChange intersectionSelfWrong)

/- THE SECOND FORM. 'bulk': how many values and letters a reading holds, each counted each time it is reached (what is shared counts as often as it is met; a slice's spare places count too). A statement '..UptoSaid' is the law's where the arguments, and the package variables that the reading takes, are together of bulk at most 1048576: NARROWER than '..Said'. Prove '..Said' where nothing that the law and all that it calls make is longer than what came in: it says more and counts as full. Else prove '..UptoSaid'. A law counts once. -/
mutual
def uptoBulk {H : Type} : DataW H → Nat
  | .lit (.string bytes) => bytes.length + 1
  | .lit _ => 1
  | .nil => 1
  | .ptr d => uptoBulk d + 1
  | .slice elems spare => uptoBulkAll elems + uptoBulkAll spare + 1
  | .agg parts => uptoBulkAll parts + 1
  | .iface _ d => uptoBulk d + 1
  | .map entries => uptoBulkEntries entries + 1
  | .held _ => 1
def uptoBulkAll {H : Type} : List (DataW H) → Nat
  | [] => 0
  | d :: r => uptoBulk d + uptoBulkAll r
def uptoBulkEntries {H : Type} : List (Lit × DataW H) → Nat
  | [] => 0
  | x :: r => uptoBulkEntry x + uptoBulkEntries r
def uptoBulkEntry {H : Type} : Lit × DataW H → Nat
  | (.string bytes, d) => bytes.length + uptoBulk d + 1
  | (_, d) => uptoBulk d + 1
 end
def uptoSmall : (H : Type) → List (DataW H) → Bool := fun _ ds => decide (uptoBulkAll ds ≤ 1048576)
def OpenSpec.upto (s : _root_.Go.ChangeSpec) : _root_.Go.OpenSpec := { _root_.Go.OpenSpec.ofChange s with cond := some uptoSmall }

/-- 'privitylaw52.IntersectionIntersect', WHERE WHAT IT READS IS OF BULK AT MOST 1048576: true; the input reads as it did. -/
def intersectionIntersectUptoRow : OpenClaim := { program := "ytlbjedokfbdnbaadoor", sum := "a8bd0ca0f93a4db361061256d7aadba4402974857d13fc89f3a3b19c6f99f427", func := "privity/privitylaw52.IntersectionIntersect", spec := "intersectionIntersect", inPlace := ["internal/abi.NoEscape"], unfollowed := true, recurses := true, named := ["internal/strconv.uint64pow10", "math/bits.deBruijn32tab", "math/bits.deBruijn64tab"], apart := false, laid := [("math/bits.deBruijn32tab", laid_math_bits_deBruijn32tab), ("math/bits.deBruijn64tab", laid_math_bits_deBruijn64tab), ("internal/strconv.uint64pow10", laid_internal_strconv_uint64pow10)], narrowed := true }
def IntersectionIntersectUptoSaid : Prop := intersectionIntersectUptoRow.holds Tryd.pinned (OpenSpec.upto intersectionIntersectSpec)

/-- 'privitylaw52.IntersectionOrderIrrelevant', WHERE WHAT IT READS IS OF BULK AT MOST 1048576: true; the input reads as it did. -/
def intersectionOrderIrrelevantUptoRow : OpenClaim := { program := "ytlbjedokfbdnbaadoor", sum := "a8bd0ca0f93a4db361061256d7aadba4402974857d13fc89f3a3b19c6f99f427", func := "privity/privitylaw52.IntersectionOrderIrrelevant", spec := "intersectionOrderIrrelevant", inPlace := ["internal/abi.NoEscape"], unfollowed := true, recurses := true, named := ["internal/strconv.uint64pow10", "math/bits.deBruijn32tab", "math/bits.deBruijn64tab"], apart := false, laid := [("math/bits.deBruijn32tab", laid_math_bits_deBruijn32tab), ("math/bits.deBruijn64tab", laid_math_bits_deBruijn64tab), ("internal/strconv.uint64pow10", laid_internal_strconv_uint64pow10)], narrowed := true }
def IntersectionOrderIrrelevantUptoSaid : Prop := intersectionOrderIrrelevantUptoRow.holds Tryd.pinned (OpenSpec.upto intersectionOrderIrrelevantSpec)

/-- 'privitylaw52.IntersectionSymmetric', WHERE WHAT IT READS IS OF BULK AT MOST 1048576: true; the input reads as it did. -/
def intersectionSymmetricUptoRow : OpenClaim := { program := "ytlbjedokfbdnbaadoor", sum := "a8bd0ca0f93a4db361061256d7aadba4402974857d13fc89f3a3b19c6f99f427", func := "privity/privitylaw52.IntersectionSymmetric", spec := "intersectionSymmetric", inPlace := ["internal/abi.NoEscape"], unfollowed := true, recurses := true, named := ["internal/strconv.uint64pow10", "math/bits.deBruijn32tab", "math/bits.deBruijn64tab"], apart := false, laid := [("math/bits.deBruijn32tab", laid_math_bits_deBruijn32tab), ("math/bits.deBruijn64tab", laid_math_bits_deBruijn64tab), ("internal/strconv.uint64pow10", laid_internal_strconv_uint64pow10)], narrowed := true }
def IntersectionSymmetricUptoSaid : Prop := intersectionSymmetricUptoRow.holds Tryd.pinned (OpenSpec.upto intersectionSymmetricSpec)

/-- 'privitylaw52.IntersectionConcatenation', WHERE WHAT IT READS IS OF BULK AT MOST 1048576: true; the input reads as it did. -/
def intersectionConcatenationUptoRow : OpenClaim := { program := "ytlbjedokfbdnbaadoor", sum := "a8bd0ca0f93a4db361061256d7aadba4402974857d13fc89f3a3b19c6f99f427", func := "privity/privitylaw52.IntersectionConcatenation", spec := "intersectionConcatenation", inPlace := ["internal/abi.NoEscape"], unfollowed := true, recurses := true, named := ["internal/strconv.uint64pow10", "math/bits.deBruijn32tab", "math/bits.deBruijn64tab"], apart := false, laid := [("math/bits.deBruijn32tab", laid_math_bits_deBruijn32tab), ("math/bits.deBruijn64tab", laid_math_bits_deBruijn64tab), ("internal/strconv.uint64pow10", laid_internal_strconv_uint64pow10)], narrowed := true }
def IntersectionConcatenationUptoSaid : Prop := intersectionConcatenationUptoRow.holds Tryd.pinned (OpenSpec.upto intersectionConcatenationSpec)

/-- 'privitylaw52.IntersectionSelf', WHERE WHAT IT READS IS OF BULK AT MOST 1048576: true; the input reads as it did. -/
def intersectionSelfUptoRow : OpenClaim := { program := "ytlbjedokfbdnbaadoor", sum := "a8bd0ca0f93a4db361061256d7aadba4402974857d13fc89f3a3b19c6f99f427", func := "privity/privitylaw52.IntersectionSelf", spec := "intersectionSelf", inPlace := ["internal/abi.NoEscape"], unfollowed := true, recurses := true, named := ["internal/strconv.uint64pow10", "math/bits.deBruijn32tab", "math/bits.deBruijn64tab"], apart := false, laid := [("math/bits.deBruijn32tab", laid_math_bits_deBruijn32tab), ("math/bits.deBruijn64tab", laid_math_bits_deBruijn64tab), ("internal/strconv.uint64pow10", laid_internal_strconv_uint64pow10)], narrowed := true }
def IntersectionSelfUptoSaid : Prop := intersectionSelfUptoRow.holds Tryd.pinned (OpenSpec.upto intersectionSelfSpec)

end Rows
end Go.Proofs.YtlbjedokfbdnbaaDoor
