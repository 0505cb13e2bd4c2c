/- What is proved: a truth value behind a recursion that is not unfolded by the way. -/
import Derived.Test.YteagfdapkffncaaDoorPx0
set_option linter.unusedVariables false
namespace Go.Proofs.YteagfdapkffncaaDoor.P
open Go.RowKit Go.Proofs.YteagfdapkffncaaDoorW.PrintWords

def gate (b : Bool) (n : Nat) : Bool := if h : n = 0 then b else gate b (n - 1)
termination_by n
theorem gate_eq (b : Bool) (n : Nat) : gate b n = b := by
  induction n with
  | zero => rw [gate]; simp
  | succ n ih => rw [gate]; simpa using ih
end Go.Proofs.YteagfdapkffncaaDoor.P
