/-
  No cell of these rows narrows 'for every input' (looked for: loops, veiled, ifaces, maps, wideKeys, modest, calm, conditions, laid).
  DERIVED. THE GIVEN ROWS OF THIS SEAT. 7 by the template 'for every input the law returns true; each argument reads behind the call as it read before'; 0 by the template 'total and deterministic' (their statements: YtojbfgaipkllbaaTotals.lean).
  GIVEN WITH THE SEED: the statements are not yours to turn. If you find one false, say at which input.
  Laid BY PROGRAM, IN A SANDBOX (cutbox-rows.mjs): the forced cells as the released guide's own fill.sh prints them over the translation cc69eed43edd141c… (all of the seat's roots in one cut). By AI agents, Wed Nov 11 2026. No macro, syntax, notation, axiom, sorry.
-/
import Derived.Test.YtojbfgaipkllbaaChecked
import GoSem.Claim
import GoSem.ClaimJoined
import GoSem.ClaimMapViews
import Derived.JoinedTies
import Derived.KernelRfl
namespace Go.Proofs.Ytojbfgaipkllbaa
/- THE CELL 'sum', in the pinned program and in every row, IS THE sha256 OF THE DUMP (.gsa) THAT YtojbfgaipkllbaaProg.lean LOADS. Nothing in Lean hashes anything: it is a label: what it is worth is what the hold of that sum in a sandbox is worth. -/
noncomputable def Try.pinned : Pinned := { name := "ytojbfgaipkllbaa", sum := "cc69eed43edd141c520198b5d353828ee68d68ef2f9f76b1180fdf271b681c60", checked := Try.checked }
namespace Rows
def none {H : Type} : Left H := { results := [], args := [] }

/-- 'privitylaw15.ViewEncodeMatchesReference': WHATEVER THE INPUT: true; the input reads as it did. -/
def viewEncodeMatchesReferenceSpec : ChangeSpec := { name := "viewEncodeMatchesReference", fn := fun _ => fun
  | [d1, d2] => { results := [.lit (.bool true)], args := [d1, d2] }
  | _ => none }
def viewEncodeMatchesReferenceRow : OpenClaim := { program := "ytojbfgaipkllbaa", sum := "cc69eed43edd141c520198b5d353828ee68d68ef2f9f76b1180fdf271b681c60", func := "privity/privitylaw15.ViewEncodeMatchesReference", spec := "viewEncodeMatchesReference", inPlace := ["internal/abi.NoEscape"], unfollowed := true, recurses := true, apart := false }
def ViewEncodeMatchesReferenceSaid : Prop := viewEncodeMatchesReferenceRow.holds Try.pinned (OpenSpec.ofChange viewEncodeMatchesReferenceSpec)

/-- ITS FALSE NEIGHBOUR: 'it returns false'. Refute it at one input. -/
def viewEncodeMatchesReferenceWrong : ChangeSpec := { name := "viewEncodeMatchesReference", fn := fun _ => fun
  | [d1, d2] => { results := [.lit (.bool false)], args := [d1, d2] }
  | _ => none }
def ViewEncodeMatchesReferenceWrongFalsely : Prop := viewEncodeMatchesReferenceRow.holds Try.pinned (OpenSpec.ofChange viewEncodeMatchesReferenceWrong)

/-- 'privitylaw15.ViewFirstDifferenceMatchesReference': WHATEVER THE INPUT: true; the input reads as it did. -/
def viewFirstDifferenceMatchesReferenceSpec : ChangeSpec := { name := "viewFirstDifferenceMatchesReference", fn := fun _ => fun
  | [d1, d2] => { results := [.lit (.bool true)], args := [d1, d2] }
  | _ => none }
def viewFirstDifferenceMatchesReferenceRow : OpenClaim := { program := "ytojbfgaipkllbaa", sum := "cc69eed43edd141c520198b5d353828ee68d68ef2f9f76b1180fdf271b681c60", func := "privity/privitylaw15.ViewFirstDifferenceMatchesReference", spec := "viewFirstDifferenceMatchesReference", inPlace := ["internal/abi.NoEscape"], unfollowed := true, recurses := true, apart := false }
def ViewFirstDifferenceMatchesReferenceSaid : Prop := viewFirstDifferenceMatchesReferenceRow.holds Try.pinned (OpenSpec.ofChange viewFirstDifferenceMatchesReferenceSpec)

/-- ITS FALSE NEIGHBOUR: 'it returns false'. Refute it at one input. -/
def viewFirstDifferenceMatchesReferenceWrong : ChangeSpec := { name := "viewFirstDifferenceMatchesReference", fn := fun _ => fun
  | [d1, d2] => { results := [.lit (.bool false)], args := [d1, d2] }
  | _ => none }
def ViewFirstDifferenceMatchesReferenceWrongFalsely : Prop := viewFirstDifferenceMatchesReferenceRow.holds Try.pinned (OpenSpec.ofChange viewFirstDifferenceMatchesReferenceWrong)

/-- 'privitylaw15.ViewEncodingIsInjective': WHATEVER THE INPUT: true; the input reads as it did. -/
def viewEncodingIsInjectiveSpec : ChangeSpec := { name := "viewEncodingIsInjective", fn := fun _ => fun
  | [d1, d2] => { results := [.lit (.bool true)], args := [d1, d2] }
  | _ => none }
def viewEncodingIsInjectiveRow : OpenClaim := { program := "ytojbfgaipkllbaa", sum := "cc69eed43edd141c520198b5d353828ee68d68ef2f9f76b1180fdf271b681c60", func := "privity/privitylaw15.ViewEncodingIsInjective", spec := "viewEncodingIsInjective", inPlace := ["internal/abi.NoEscape"], unfollowed := true, recurses := true, apart := false }
def ViewEncodingIsInjectiveSaid : Prop := viewEncodingIsInjectiveRow.holds Try.pinned (OpenSpec.ofChange viewEncodingIsInjectiveSpec)

/-- ITS FALSE NEIGHBOUR: 'it returns false'. Refute it at one input. -/
def viewEncodingIsInjectiveWrong : ChangeSpec := { name := "viewEncodingIsInjective", fn := fun _ => fun
  | [d1, d2] => { results := [.lit (.bool false)], args := [d1, d2] }
  | _ => none }
def ViewEncodingIsInjectiveWrongFalsely : Prop := viewEncodingIsInjectiveRow.holds Try.pinned (OpenSpec.ofChange viewEncodingIsInjectiveWrong)

/-- 'privitylaw15.ViewEncodingIsPrefixFree': WHATEVER THE INPUT: true; the input reads as it did. -/
def viewEncodingIsPrefixFreeSpec : ChangeSpec := { name := "viewEncodingIsPrefixFree", fn := fun _ => fun
  | [d1, d2] => { results := [.lit (.bool true)], args := [d1, d2] }
  | _ => none }
def viewEncodingIsPrefixFreeRow : OpenClaim := { program := "ytojbfgaipkllbaa", sum := "cc69eed43edd141c520198b5d353828ee68d68ef2f9f76b1180fdf271b681c60", func := "privity/privitylaw15.ViewEncodingIsPrefixFree", spec := "viewEncodingIsPrefixFree", inPlace := ["internal/abi.NoEscape"], unfollowed := true, recurses := true, apart := false }
def ViewEncodingIsPrefixFreeSaid : Prop := viewEncodingIsPrefixFreeRow.holds Try.pinned (OpenSpec.ofChange viewEncodingIsPrefixFreeSpec)

/-- ITS FALSE NEIGHBOUR: 'it returns false'. Refute it at one input. -/
def viewEncodingIsPrefixFreeWrong : ChangeSpec := { name := "viewEncodingIsPrefixFree", fn := fun _ => fun
  | [d1, d2] => { results := [.lit (.bool false)], args := [d1, d2] }
  | _ => none }
def ViewEncodingIsPrefixFreeWrongFalsely : Prop := viewEncodingIsPrefixFreeRow.holds Try.pinned (OpenSpec.ofChange viewEncodingIsPrefixFreeWrong)

/-- 'privitylaw15.ViewCoalitionEncodingIsInjective': WHATEVER THE INPUT: true; the input reads as it did. -/
def viewCoalitionEncodingIsInjectiveSpec : ChangeSpec := { name := "viewCoalitionEncodingIsInjective", fn := fun _ => fun
  | [d1, d2] => { results := [.lit (.bool true)], args := [d1, d2] }
  | _ => none }
def viewCoalitionEncodingIsInjectiveRow : OpenClaim := { program := "ytojbfgaipkllbaa", sum := "cc69eed43edd141c520198b5d353828ee68d68ef2f9f76b1180fdf271b681c60", func := "privity/privitylaw15.ViewCoalitionEncodingIsInjective", spec := "viewCoalitionEncodingIsInjective", inPlace := ["internal/abi.NoEscape"], unfollowed := true, recurses := true, apart := false }
def ViewCoalitionEncodingIsInjectiveSaid : Prop := viewCoalitionEncodingIsInjectiveRow.holds Try.pinned (OpenSpec.ofChange viewCoalitionEncodingIsInjectiveSpec)

/-- ITS FALSE NEIGHBOUR: 'it returns false'. Refute it at one input. -/
def viewCoalitionEncodingIsInjectiveWrong : ChangeSpec := { name := "viewCoalitionEncodingIsInjective", fn := fun _ => fun
  | [d1, d2] => { results := [.lit (.bool false)], args := [d1, d2] }
  | _ => none }
def ViewCoalitionEncodingIsInjectiveWrongFalsely : Prop := viewCoalitionEncodingIsInjectiveRow.holds Try.pinned (OpenSpec.ofChange viewCoalitionEncodingIsInjectiveWrong)

/-- 'privitylaw15.ViewAppendedEvent': WHATEVER THE INPUT: true; the input reads as it did. -/
def viewAppendedEventSpec : ChangeSpec := { name := "viewAppendedEvent", fn := fun _ => fun
  | [d1, d2] => { results := [.lit (.bool true)], args := [d1, d2] }
  | _ => none }
def viewAppendedEventRow : OpenClaim := { program := "ytojbfgaipkllbaa", sum := "cc69eed43edd141c520198b5d353828ee68d68ef2f9f76b1180fdf271b681c60", func := "privity/privitylaw15.ViewAppendedEvent", spec := "viewAppendedEvent", inPlace := ["internal/abi.NoEscape"], unfollowed := true, recurses := true, apart := false }
def ViewAppendedEventSaid : Prop := viewAppendedEventRow.holds Try.pinned (OpenSpec.ofChange viewAppendedEventSpec)

/-- ITS FALSE NEIGHBOUR: 'it returns false'. Refute it at one input. -/
def viewAppendedEventWrong : ChangeSpec := { name := "viewAppendedEvent", fn := fun _ => fun
  | [d1, d2] => { results := [.lit (.bool false)], args := [d1, d2] }
  | _ => none }
def ViewAppendedEventWrongFalsely : Prop := viewAppendedEventRow.holds Try.pinned (OpenSpec.ofChange viewAppendedEventWrong)

/-- 'privitylaw15.ViewSubcoalitionIndistinguishable': WHATEVER THE INPUT: true; the input reads as it did. -/
def viewSubcoalitionIndistinguishableSpec : ChangeSpec := { name := "viewSubcoalitionIndistinguishable", fn := fun _ => fun
  | [d1, d2, d3] => { results := [.lit (.bool true)], args := [d1, d2, d3] }
  | _ => none }
def viewSubcoalitionIndistinguishableRow : OpenClaim := { program := "ytojbfgaipkllbaa", sum := "cc69eed43edd141c520198b5d353828ee68d68ef2f9f76b1180fdf271b681c60", func := "privity/privitylaw15.ViewSubcoalitionIndistinguishable", spec := "viewSubcoalitionIndistinguishable", inPlace := ["internal/abi.NoEscape"], unfollowed := true, recurses := true, apart := false }
def ViewSubcoalitionIndistinguishableSaid : Prop := viewSubcoalitionIndistinguishableRow.holds Try.pinned (OpenSpec.ofChange viewSubcoalitionIndistinguishableSpec)

/-- ITS FALSE NEIGHBOUR: 'it returns false'. Refute it at one input. -/
def viewSubcoalitionIndistinguishableWrong : ChangeSpec := { name := "viewSubcoalitionIndistinguishable", fn := fun _ => fun
  | [d1, d2, d3] => { results := [.lit (.bool false)], args := [d1, d2, d3] }
  | _ => none }
def ViewSubcoalitionIndistinguishableWrongFalsely : Prop := viewSubcoalitionIndistinguishableRow.holds Try.pinned (OpenSpec.ofChange viewSubcoalitionIndistinguishableWrong)

/- THE SECOND FORM. 'bulk': how many values and letters a reading holds, each counted each time it is reached (what is shared counts as often as it is met; a slice's spare places count too). A statement '..UptoSaid' is the law's where the arguments, and the package variables that the reading takes, are together of bulk at most 1048576: NARROWER than '..Said'. Prove '..Said' where nothing that the law and all that it calls make is longer than what came in: it says more and counts as full. Else prove '..UptoSaid'. A law counts once. -/
mutual
def uptoBulk {H : Type} : DataW H → Nat
  | .lit (.string bytes) => bytes.length + 1
  | .lit _ => 1
  | .nil => 1
  | .ptr d => uptoBulk d + 1
  | .slice elems spare => uptoBulkAll elems + uptoBulkAll spare + 1
  | .agg parts => uptoBulkAll parts + 1
  | .iface _ d => uptoBulk d + 1
  | .map entries => uptoBulkEntries entries + 1
  | .held _ => 1
def uptoBulkAll {H : Type} : List (DataW H) → Nat
  | [] => 0
  | d :: r => uptoBulk d + uptoBulkAll r
def uptoBulkEntries {H : Type} : List (Lit × DataW H) → Nat
  | [] => 0
  | x :: r => uptoBulkEntry x + uptoBulkEntries r
def uptoBulkEntry {H : Type} : Lit × DataW H → Nat
  | (.string bytes, d) => bytes.length + uptoBulk d + 1
  | (_, d) => uptoBulk d + 1
 end
def uptoSmall : (H : Type) → List (DataW H) → Bool := fun _ ds => decide (uptoBulkAll ds ≤ 1048576)
def OpenSpec.upto (s : _root_.Go.ChangeSpec) : _root_.Go.OpenSpec := { _root_.Go.OpenSpec.ofChange s with cond := some uptoSmall }

/-- 'privitylaw15.ViewEncodeMatchesReference', WHERE WHAT IT READS IS OF BULK AT MOST 1048576: true; the input reads as it did. -/
def viewEncodeMatchesReferenceUptoRow : OpenClaim := { program := "ytojbfgaipkllbaa", sum := "cc69eed43edd141c520198b5d353828ee68d68ef2f9f76b1180fdf271b681c60", func := "privity/privitylaw15.ViewEncodeMatchesReference", spec := "viewEncodeMatchesReference", inPlace := ["internal/abi.NoEscape"], unfollowed := true, recurses := true, apart := false, narrowed := true }
def ViewEncodeMatchesReferenceUptoSaid : Prop := viewEncodeMatchesReferenceUptoRow.holds Try.pinned (OpenSpec.upto viewEncodeMatchesReferenceSpec)

/-- 'privitylaw15.ViewFirstDifferenceMatchesReference', WHERE WHAT IT READS IS OF BULK AT MOST 1048576: true; the input reads as it did. -/
def viewFirstDifferenceMatchesReferenceUptoRow : OpenClaim := { program := "ytojbfgaipkllbaa", sum := "cc69eed43edd141c520198b5d353828ee68d68ef2f9f76b1180fdf271b681c60", func := "privity/privitylaw15.ViewFirstDifferenceMatchesReference", spec := "viewFirstDifferenceMatchesReference", inPlace := ["internal/abi.NoEscape"], unfollowed := true, recurses := true, apart := false, narrowed := true }
def ViewFirstDifferenceMatchesReferenceUptoSaid : Prop := viewFirstDifferenceMatchesReferenceUptoRow.holds Try.pinned (OpenSpec.upto viewFirstDifferenceMatchesReferenceSpec)

/-- 'privitylaw15.ViewEncodingIsInjective', WHERE WHAT IT READS IS OF BULK AT MOST 1048576: true; the input reads as it did. -/
def viewEncodingIsInjectiveUptoRow : OpenClaim := { program := "ytojbfgaipkllbaa", sum := "cc69eed43edd141c520198b5d353828ee68d68ef2f9f76b1180fdf271b681c60", func := "privity/privitylaw15.ViewEncodingIsInjective", spec := "viewEncodingIsInjective", inPlace := ["internal/abi.NoEscape"], unfollowed := true, recurses := true, apart := false, narrowed := true }
def ViewEncodingIsInjectiveUptoSaid : Prop := viewEncodingIsInjectiveUptoRow.holds Try.pinned (OpenSpec.upto viewEncodingIsInjectiveSpec)

/-- 'privitylaw15.ViewEncodingIsPrefixFree', WHERE WHAT IT READS IS OF BULK AT MOST 1048576: true; the input reads as it did. -/
def viewEncodingIsPrefixFreeUptoRow : OpenClaim := { program := "ytojbfgaipkllbaa", sum := "cc69eed43edd141c520198b5d353828ee68d68ef2f9f76b1180fdf271b681c60", func := "privity/privitylaw15.ViewEncodingIsPrefixFree", spec := "viewEncodingIsPrefixFree", inPlace := ["internal/abi.NoEscape"], unfollowed := true, recurses := true, apart := false, narrowed := true }
def ViewEncodingIsPrefixFreeUptoSaid : Prop := viewEncodingIsPrefixFreeUptoRow.holds Try.pinned (OpenSpec.upto viewEncodingIsPrefixFreeSpec)

/-- 'privitylaw15.ViewCoalitionEncodingIsInjective', WHERE WHAT IT READS IS OF BULK AT MOST 1048576: true; the input reads as it did. -/
def viewCoalitionEncodingIsInjectiveUptoRow : OpenClaim := { program := "ytojbfgaipkllbaa", sum := "cc69eed43edd141c520198b5d353828ee68d68ef2f9f76b1180fdf271b681c60", func := "privity/privitylaw15.ViewCoalitionEncodingIsInjective", spec := "viewCoalitionEncodingIsInjective", inPlace := ["internal/abi.NoEscape"], unfollowed := true, recurses := true, apart := false, narrowed := true }
def ViewCoalitionEncodingIsInjectiveUptoSaid : Prop := viewCoalitionEncodingIsInjectiveUptoRow.holds Try.pinned (OpenSpec.upto viewCoalitionEncodingIsInjectiveSpec)

/-- 'privitylaw15.ViewAppendedEvent', WHERE WHAT IT READS IS OF BULK AT MOST 1048576: true; the input reads as it did. -/
def viewAppendedEventUptoRow : OpenClaim := { program := "ytojbfgaipkllbaa", sum := "cc69eed43edd141c520198b5d353828ee68d68ef2f9f76b1180fdf271b681c60", func := "privity/privitylaw15.ViewAppendedEvent", spec := "viewAppendedEvent", inPlace := ["internal/abi.NoEscape"], unfollowed := true, recurses := true, apart := false, narrowed := true }
def ViewAppendedEventUptoSaid : Prop := viewAppendedEventUptoRow.holds Try.pinned (OpenSpec.upto viewAppendedEventSpec)

/-- 'privitylaw15.ViewSubcoalitionIndistinguishable', WHERE WHAT IT READS IS OF BULK AT MOST 1048576: true; the input reads as it did. -/
def viewSubcoalitionIndistinguishableUptoRow : OpenClaim := { program := "ytojbfgaipkllbaa", sum := "cc69eed43edd141c520198b5d353828ee68d68ef2f9f76b1180fdf271b681c60", func := "privity/privitylaw15.ViewSubcoalitionIndistinguishable", spec := "viewSubcoalitionIndistinguishable", inPlace := ["internal/abi.NoEscape"], unfollowed := true, recurses := true, apart := false, narrowed := true }
def ViewSubcoalitionIndistinguishableUptoSaid : Prop := viewSubcoalitionIndistinguishableUptoRow.holds Try.pinned (OpenSpec.upto viewSubcoalitionIndistinguishableSpec)

end Rows
end Go.Proofs.Ytojbfgaipkllbaa
