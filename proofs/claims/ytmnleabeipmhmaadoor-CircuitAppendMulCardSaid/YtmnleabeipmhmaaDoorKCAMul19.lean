/- What is proved here: a part of the proof of CircuitAppendMul: Gat. No conditions beside those that each theorem states. -/
import Derived.Test.YtmnleabeipmhmaaDoorKCAMul6
section
set_option linter.unusedVariables false
namespace Go.Proofs.YtmnleabeipmhmaaDoor.P
open Go.RowKit Go.Proofs.YtmnleabeipmhmaaDoorW.PrintWords
def gate (b : Bool) (n : Nat) : Bool := if h : n = 0 then b else gate b (n - 1)
termination_by n
theorem gate_eq (b : Bool) (n : Nat) : gate b n = b := by
  induction n with
  | zero => rw [gate]; simp
  | succ n ih => rw [gate]; simpa using ih
end Go.Proofs.YtmnleabeipmhmaaDoor.P
end
