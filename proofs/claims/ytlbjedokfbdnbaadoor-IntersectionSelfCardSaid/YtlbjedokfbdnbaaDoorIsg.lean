/- What is proved: the contract of intersection.Program in the form that the printed functions take it in. -/
import Derived.Test.YtlbjedokfbdnbaaDoorPx0
import Derived.Test.YtlbjedokfbdnbaaDoorIsp
set_option linter.unusedVariables false
namespace Go.Proofs.YtlbjedokfbdnbaaDoor.P
open Go.RowKit Go.Proofs.YtlbjedokfbdnbaaDoorW.PrintWords

/-- A truth value behind a recursion that is not unfolded by the way. -/
def gate (b : Bool) (n : Nat) : Bool := if h : n = 0 then b else gate b (n - 1)
termination_by n
theorem gate_eq (b : Bool) (n : Nat) : gate b n = b := by
  induction n with
  | zero => rw [gate]; simp
  | succ n ih => rw [gate]; simpa using ih
def fits (a b k : Int) : Bool := decide (1 ≤ a) && decide (a ≤ 16) && decide (1 ≤ b) && decide (b ≤ 16) && decide (1 ≤ k) && decide (k ≤ 16)
def intersection_Program.f (a b k : Int) : Option (ByteArray × Int) := if gate (fits a b k) 1 = true then some (⟨(Isc.progL a.toNat b.toNat k.toNat).toArray⟩, 0) else if a < 1 then some (⟨#[]⟩, 2) else none
theorem intersection_Program.calls (a b k : Int) (r1 : ByteArray) (r2 : Int) (w : World) (h : intersection_Program.f a b k = some (r1, r2)) :
    Calls Tryd.prog 13 #[.int .i64 a, .int .i64 b, .int .i64 k] w fun e w' => e = .returned (.tuple #[.string r1, .int .i64 r2]) ∧ Below w.heap.size w w' := by
  unfold intersection_Program.f at h
  rw [gate_eq] at h
  split at h
  · next hl =>
    simp only [fits, Bool.and_eq_true, decide_eq_true_eq] at hl
    simp only [Option.some.injEq, Prod.mk.injEq] at h
    obtain ⟨rfl, rfl⟩ := h
    obtain ⟨a, rfl⟩ := Int.eq_ofNat_of_zero_le (a := a) (by omega)
    obtain ⟨b, rfl⟩ := Int.eq_ofNat_of_zero_le (a := b) (by omega)
    obtain ⟨k, rfl⟩ := Int.eq_ofNat_of_zero_le (a := k) (by omega)
    exact Isc.Program_ok a b k (by omega) (by omega) (by omega) (by omega) (by omega) (by omega) w
  · split at h
    · next hl =>
      simp only [Option.some.injEq, Prod.mk.injEq] at h
      obtain ⟨rfl, rfl⟩ := h
      refine (Isc.Program_no a b k hl w).mono ?_
      rintro e w' ⟨rfl, rfl⟩
      exact ⟨rfl, Below.refl _ _⟩
    · cases h
end Go.Proofs.YtlbjedokfbdnbaaDoor.P
