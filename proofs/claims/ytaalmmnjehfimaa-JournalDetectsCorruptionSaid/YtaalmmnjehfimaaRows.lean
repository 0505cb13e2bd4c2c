/-
  No cell of these rows narrows 'for every input' (looked for: loops, veiled, ifaces, maps, wideKeys, modest, calm, conditions, laid).
  DERIVED. THE GIVEN ROWS OF THIS SEAT. 6 by the template 'for every input the law returns true; each argument reads behind the call as it read before'; 0 by the template 'total and deterministic' (their statements: YtaalmmnjehfimaaTotals.lean).
  GIVEN WITH THE SEED: the statements are not yours to turn. If you find one false, say at which input.
  Laid BY PROGRAM, IN A SANDBOX (cutbox-rows.mjs): the forced cells as the released guide's own fill.sh prints them over the translation cfac5a93fc740332… (all of the seat's roots in one cut). By AI agents, Wed Nov 11 2026. No macro, syntax, notation, axiom, sorry.
-/
import Derived.Test.YtaalmmnjehfimaaChecked
import GoSem.Claim
import GoSem.ClaimJoined
import GoSem.ClaimMapViews
import Derived.JoinedTies
import Derived.KernelRfl
namespace Go.Proofs.Ytaalmmnjehfimaa
/- THE CELL 'sum', in the pinned program and in every row, IS THE sha256 OF THE DUMP (.gsa) THAT YtaalmmnjehfimaaProg.lean LOADS. Nothing in Lean hashes anything: it is a label: what it is worth is what the hold of that sum in a sandbox is worth. -/
noncomputable def Try.pinned : Pinned := { name := "ytaalmmnjehfimaa", sum := "cfac5a93fc740332da801320db85c0b4df4df6349fd6d4a6ddf29609ab3783ea", checked := Try.checked }
namespace Rows
def none {H : Type} : Left H := { results := [], args := [] }

/-- 'privitylaw48.JournalRoundTrip': WHATEVER THE INPUT: true; the input reads as it did. -/
def journalRoundTripSpec : ChangeSpec := { name := "journalRoundTrip", fn := fun _ => fun
  | [d] => { results := [.lit (.bool true)], args := [d] }
  | _ => none }
def journalRoundTripRow : OpenClaim := { program := "ytaalmmnjehfimaa", sum := "cfac5a93fc740332da801320db85c0b4df4df6349fd6d4a6ddf29609ab3783ea", func := "privity/privitylaw48.JournalRoundTrip", spec := "journalRoundTrip", inPlace := ["internal/abi.NoEscape"], unfollowed := true, recurses := true, apart := false }
def JournalRoundTripSaid : Prop := journalRoundTripRow.holds Try.pinned (OpenSpec.ofChange journalRoundTripSpec)

/-- ITS FALSE NEIGHBOUR: 'it returns false'. Refute it at one input. -/
def journalRoundTripWrong : ChangeSpec := { name := "journalRoundTrip", fn := fun _ => fun
  | [d] => { results := [.lit (.bool false)], args := [d] }
  | _ => none }
def JournalRoundTripWrongFalsely : Prop := journalRoundTripRow.holds Try.pinned (OpenSpec.ofChange journalRoundTripWrong)

/-- 'privitylaw48.JournalDecodeMatchesReference': WHATEVER THE INPUT: true; the input reads as it did. -/
def journalDecodeMatchesReferenceSpec : ChangeSpec := { name := "journalDecodeMatchesReference", fn := fun _ => fun
  | [d] => { results := [.lit (.bool true)], args := [d] }
  | _ => none }
def journalDecodeMatchesReferenceRow : OpenClaim := { program := "ytaalmmnjehfimaa", sum := "cfac5a93fc740332da801320db85c0b4df4df6349fd6d4a6ddf29609ab3783ea", func := "privity/privitylaw48.JournalDecodeMatchesReference", spec := "journalDecodeMatchesReference", inPlace := ["internal/abi.NoEscape"], unfollowed := true, recurses := true, apart := false }
def JournalDecodeMatchesReferenceSaid : Prop := journalDecodeMatchesReferenceRow.holds Try.pinned (OpenSpec.ofChange journalDecodeMatchesReferenceSpec)

/-- ITS FALSE NEIGHBOUR: 'it returns false'. Refute it at one input. -/
def journalDecodeMatchesReferenceWrong : ChangeSpec := { name := "journalDecodeMatchesReference", fn := fun _ => fun
  | [d] => { results := [.lit (.bool false)], args := [d] }
  | _ => none }
def JournalDecodeMatchesReferenceWrongFalsely : Prop := journalDecodeMatchesReferenceRow.holds Try.pinned (OpenSpec.ofChange journalDecodeMatchesReferenceWrong)

/-- 'privitylaw48.JournalTruncation': WHATEVER THE INPUT: true; the input reads as it did. -/
def journalTruncationSpec : ChangeSpec := { name := "journalTruncation", fn := fun _ => fun
  | [d1, d2] => { results := [.lit (.bool true)], args := [d1, d2] }
  | _ => none }
def journalTruncationRow : OpenClaim := { program := "ytaalmmnjehfimaa", sum := "cfac5a93fc740332da801320db85c0b4df4df6349fd6d4a6ddf29609ab3783ea", func := "privity/privitylaw48.JournalTruncation", spec := "journalTruncation", inPlace := ["internal/abi.NoEscape"], unfollowed := true, recurses := true, apart := false }
def JournalTruncationSaid : Prop := journalTruncationRow.holds Try.pinned (OpenSpec.ofChange journalTruncationSpec)

/-- ITS FALSE NEIGHBOUR: 'it returns false'. Refute it at one input. -/
def journalTruncationWrong : ChangeSpec := { name := "journalTruncation", fn := fun _ => fun
  | [d1, d2] => { results := [.lit (.bool false)], args := [d1, d2] }
  | _ => none }
def JournalTruncationWrongFalsely : Prop := journalTruncationRow.holds Try.pinned (OpenSpec.ofChange journalTruncationWrong)

/-- 'privitylaw48.JournalDetectsCorruption': WHATEVER THE INPUT: true; the input reads as it did. -/
def journalDetectsCorruptionSpec : ChangeSpec := { name := "journalDetectsCorruption", fn := fun _ => fun
  | [d1, d2, d3] => { results := [.lit (.bool true)], args := [d1, d2, d3] }
  | _ => none }
def journalDetectsCorruptionRow : OpenClaim := { program := "ytaalmmnjehfimaa", sum := "cfac5a93fc740332da801320db85c0b4df4df6349fd6d4a6ddf29609ab3783ea", func := "privity/privitylaw48.JournalDetectsCorruption", spec := "journalDetectsCorruption", inPlace := ["internal/abi.NoEscape"], unfollowed := true, recurses := true, apart := false }
def JournalDetectsCorruptionSaid : Prop := journalDetectsCorruptionRow.holds Try.pinned (OpenSpec.ofChange journalDetectsCorruptionSpec)

/-- ITS FALSE NEIGHBOUR: 'it returns false'. Refute it at one input. -/
def journalDetectsCorruptionWrong : ChangeSpec := { name := "journalDetectsCorruption", fn := fun _ => fun
  | [d1, d2, d3] => { results := [.lit (.bool false)], args := [d1, d2, d3] }
  | _ => none }
def JournalDetectsCorruptionWrongFalsely : Prop := journalDetectsCorruptionRow.holds Try.pinned (OpenSpec.ofChange journalDetectsCorruptionWrong)

/-- 'privitylaw48.JournalRecovery': WHATEVER THE INPUT: true; the input reads as it did. -/
def journalRecoverySpec : ChangeSpec := { name := "journalRecovery", fn := fun _ => fun
  | [d1, d2, d3] => { results := [.lit (.bool true)], args := [d1, d2, d3] }
  | _ => none }
def journalRecoveryRow : OpenClaim := { program := "ytaalmmnjehfimaa", sum := "cfac5a93fc740332da801320db85c0b4df4df6349fd6d4a6ddf29609ab3783ea", func := "privity/privitylaw48.JournalRecovery", spec := "journalRecovery", inPlace := ["internal/abi.NoEscape"], unfollowed := true, recurses := true, apart := false }
def JournalRecoverySaid : Prop := journalRecoveryRow.holds Try.pinned (OpenSpec.ofChange journalRecoverySpec)

/-- ITS FALSE NEIGHBOUR: 'it returns false'. Refute it at one input. -/
def journalRecoveryWrong : ChangeSpec := { name := "journalRecovery", fn := fun _ => fun
  | [d1, d2, d3] => { results := [.lit (.bool false)], args := [d1, d2, d3] }
  | _ => none }
def JournalRecoveryWrongFalsely : Prop := journalRecoveryRow.holds Try.pinned (OpenSpec.ofChange journalRecoveryWrong)

/-- 'privitylaw48.JournalEncodingIsInjective': WHATEVER THE INPUT: true; the input reads as it did. -/
def journalEncodingIsInjectiveSpec : ChangeSpec := { name := "journalEncodingIsInjective", fn := fun _ => fun
  | [d1, d2] => { results := [.lit (.bool true)], args := [d1, d2] }
  | _ => none }
def journalEncodingIsInjectiveRow : OpenClaim := { program := "ytaalmmnjehfimaa", sum := "cfac5a93fc740332da801320db85c0b4df4df6349fd6d4a6ddf29609ab3783ea", func := "privity/privitylaw48.JournalEncodingIsInjective", spec := "journalEncodingIsInjective", inPlace := ["internal/abi.NoEscape"], unfollowed := true, recurses := true, apart := false }
def JournalEncodingIsInjectiveSaid : Prop := journalEncodingIsInjectiveRow.holds Try.pinned (OpenSpec.ofChange journalEncodingIsInjectiveSpec)

/-- ITS FALSE NEIGHBOUR: 'it returns false'. Refute it at one input. -/
def journalEncodingIsInjectiveWrong : ChangeSpec := { name := "journalEncodingIsInjective", fn := fun _ => fun
  | [d1, d2] => { results := [.lit (.bool false)], args := [d1, d2] }
  | _ => none }
def JournalEncodingIsInjectiveWrongFalsely : Prop := journalEncodingIsInjectiveRow.holds Try.pinned (OpenSpec.ofChange journalEncodingIsInjectiveWrong)

/- THE SECOND FORM. 'bulk': how many values and letters a reading holds, each counted each time it is reached (what is shared counts as often as it is met; a slice's spare places count too). A statement '..UptoSaid' is the law's where the arguments, and the package variables that the reading takes, are together of bulk at most 1048576: NARROWER than '..Said'. Prove '..Said' where nothing that the law and all that it calls make is longer than what came in: it says more and counts as full. Else prove '..UptoSaid'. A law counts once. -/
mutual
def uptoBulk {H : Type} : DataW H → Nat
  | .lit (.string bytes) => bytes.length + 1
  | .lit _ => 1
  | .nil => 1
  | .ptr d => uptoBulk d + 1
  | .slice elems spare => uptoBulkAll elems + uptoBulkAll spare + 1
  | .agg parts => uptoBulkAll parts + 1
  | .iface _ d => uptoBulk d + 1
  | .map entries => uptoBulkEntries entries + 1
  | .held _ => 1
def uptoBulkAll {H : Type} : List (DataW H) → Nat
  | [] => 0
  | d :: r => uptoBulk d + uptoBulkAll r
def uptoBulkEntries {H : Type} : List (Lit × DataW H) → Nat
  | [] => 0
  | x :: r => uptoBulkEntry x + uptoBulkEntries r
def uptoBulkEntry {H : Type} : Lit × DataW H → Nat
  | (.string bytes, d) => bytes.length + uptoBulk d + 1
  | (_, d) => uptoBulk d + 1
 end
def uptoSmall : (H : Type) → List (DataW H) → Bool := fun _ ds => decide (uptoBulkAll ds ≤ 1048576)
def OpenSpec.upto (s : _root_.Go.ChangeSpec) : _root_.Go.OpenSpec := { _root_.Go.OpenSpec.ofChange s with cond := some uptoSmall }

/-- 'privitylaw48.JournalRoundTrip', WHERE WHAT IT READS IS OF BULK AT MOST 1048576: true; the input reads as it did. -/
def journalRoundTripUptoRow : OpenClaim := { program := "ytaalmmnjehfimaa", sum := "cfac5a93fc740332da801320db85c0b4df4df6349fd6d4a6ddf29609ab3783ea", func := "privity/privitylaw48.JournalRoundTrip", spec := "journalRoundTrip", inPlace := ["internal/abi.NoEscape"], unfollowed := true, recurses := true, apart := false, narrowed := true }
def JournalRoundTripUptoSaid : Prop := journalRoundTripUptoRow.holds Try.pinned (OpenSpec.upto journalRoundTripSpec)

/-- 'privitylaw48.JournalDecodeMatchesReference', WHERE WHAT IT READS IS OF BULK AT MOST 1048576: true; the input reads as it did. -/
def journalDecodeMatchesReferenceUptoRow : OpenClaim := { program := "ytaalmmnjehfimaa", sum := "cfac5a93fc740332da801320db85c0b4df4df6349fd6d4a6ddf29609ab3783ea", func := "privity/privitylaw48.JournalDecodeMatchesReference", spec := "journalDecodeMatchesReference", inPlace := ["internal/abi.NoEscape"], unfollowed := true, recurses := true, apart := false, narrowed := true }
def JournalDecodeMatchesReferenceUptoSaid : Prop := journalDecodeMatchesReferenceUptoRow.holds Try.pinned (OpenSpec.upto journalDecodeMatchesReferenceSpec)

/-- 'privitylaw48.JournalTruncation', WHERE WHAT IT READS IS OF BULK AT MOST 1048576: true; the input reads as it did. -/
def journalTruncationUptoRow : OpenClaim := { program := "ytaalmmnjehfimaa", sum := "cfac5a93fc740332da801320db85c0b4df4df6349fd6d4a6ddf29609ab3783ea", func := "privity/privitylaw48.JournalTruncation", spec := "journalTruncation", inPlace := ["internal/abi.NoEscape"], unfollowed := true, recurses := true, apart := false, narrowed := true }
def JournalTruncationUptoSaid : Prop := journalTruncationUptoRow.holds Try.pinned (OpenSpec.upto journalTruncationSpec)

/-- 'privitylaw48.JournalDetectsCorruption', WHERE WHAT IT READS IS OF BULK AT MOST 1048576: true; the input reads as it did. -/
def journalDetectsCorruptionUptoRow : OpenClaim := { program := "ytaalmmnjehfimaa", sum := "cfac5a93fc740332da801320db85c0b4df4df6349fd6d4a6ddf29609ab3783ea", func := "privity/privitylaw48.JournalDetectsCorruption", spec := "journalDetectsCorruption", inPlace := ["internal/abi.NoEscape"], unfollowed := true, recurses := true, apart := false, narrowed := true }
def JournalDetectsCorruptionUptoSaid : Prop := journalDetectsCorruptionUptoRow.holds Try.pinned (OpenSpec.upto journalDetectsCorruptionSpec)

/-- 'privitylaw48.JournalRecovery', WHERE WHAT IT READS IS OF BULK AT MOST 1048576: true; the input reads as it did. -/
def journalRecoveryUptoRow : OpenClaim := { program := "ytaalmmnjehfimaa", sum := "cfac5a93fc740332da801320db85c0b4df4df6349fd6d4a6ddf29609ab3783ea", func := "privity/privitylaw48.JournalRecovery", spec := "journalRecovery", inPlace := ["internal/abi.NoEscape"], unfollowed := true, recurses := true, apart := false, narrowed := true }
def JournalRecoveryUptoSaid : Prop := journalRecoveryUptoRow.holds Try.pinned (OpenSpec.upto journalRecoverySpec)

/-- 'privitylaw48.JournalEncodingIsInjective', WHERE WHAT IT READS IS OF BULK AT MOST 1048576: true; the input reads as it did. -/
def journalEncodingIsInjectiveUptoRow : OpenClaim := { program := "ytaalmmnjehfimaa", sum := "cfac5a93fc740332da801320db85c0b4df4df6349fd6d4a6ddf29609ab3783ea", func := "privity/privitylaw48.JournalEncodingIsInjective", spec := "journalEncodingIsInjective", inPlace := ["internal/abi.NoEscape"], unfollowed := true, recurses := true, apart := false, narrowed := true }
def JournalEncodingIsInjectiveUptoSaid : Prop := journalEncodingIsInjectiveUptoRow.holds Try.pinned (OpenSpec.upto journalEncodingIsInjectiveSpec)

end Rows
end Go.Proofs.Ytaalmmnjehfimaa
