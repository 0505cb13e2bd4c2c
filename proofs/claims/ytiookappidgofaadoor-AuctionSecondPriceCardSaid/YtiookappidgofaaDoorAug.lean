/- What is proved: the contract of auction.Program in the form that the printed functions take it in. -/
import Derived.Test.YtiookappidgofaaDoorPx0
import Derived.Test.YtiookappidgofaaDoorAup
set_option linter.unusedVariables false
namespace Go.Proofs.YtiookappidgofaaDoor.P
open Go.RowKit Go.Proofs.YtiookappidgofaaDoorW.PrintWords

/-- A truth value behind a recursion that is not unfolded by the way. -/
def gate (b : Bool) (n : Nat) : Bool := if h : n = 0 then b else gate b (n - 1)
termination_by n
theorem gate_eq (b : Bool) (n : Nat) : gate b n = b := by
  induction n with
  | zero => rw [gate]; simp
  | succ n ih => rw [gate]; simpa using ih
def fits (n k : Int) : Bool := decide (4 ≤ n) && decide (n ≤ 13) && decide (1 ≤ k) && decide (k ≤ 16)
def auction_Program.f (n k : Int) : Option (ByteArray × Int) := if gate (fits n k) 1 = true then some (⟨(Auc.progL n.toNat k.toNat).toArray⟩, 0) else some (⟨#[]⟩, 2)
theorem auction_Program.calls (n k : Int) (r1 : ByteArray) (r2 : Int) (w : World) (h : auction_Program.f n k = some (r1, r2)) :
    Calls Tryd.prog 12 #[.int .i64 n, .int .i64 k] w fun e w' => e = .returned (.tuple #[.string r1, .int .i64 r2]) ∧ Below w.heap.size w w' := by
  unfold auction_Program.f at h
  rw [gate_eq] at h
  split at h
  · next hl =>
    simp only [fits, Bool.and_eq_true, decide_eq_true_eq] at hl
    simp only [Option.some.injEq, Prod.mk.injEq] at h
    obtain ⟨rfl, rfl⟩ := h
    obtain ⟨n, rfl⟩ := Int.eq_ofNat_of_zero_le (a := n) (by omega)
    obtain ⟨k, rfl⟩ := Int.eq_ofNat_of_zero_le (a := k) (by omega)
    exact Auc.Program_ok n k (by omega) (by omega) (by omega) (by omega) w
  · next hl =>
    simp only [fits, Bool.and_eq_true, decide_eq_true_eq] at hl
    simp only [Option.some.injEq, Prod.mk.injEq] at h
    obtain ⟨rfl, rfl⟩ := h
    refine (Auc.Program_no n k (by omega) w).mono ?_
    rintro e w' ⟨rfl, rfl⟩
    exact ⟨rfl, Below.refl _ _⟩
end Go.Proofs.YtiookappidgofaaDoor.P
