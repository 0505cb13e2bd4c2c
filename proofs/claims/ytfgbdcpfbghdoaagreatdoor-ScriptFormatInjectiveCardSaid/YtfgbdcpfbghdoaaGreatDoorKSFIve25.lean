/- What is proved here: a part of the proof of ScriptFormatInjective: Sre. No conditions beside those that each theorem states. -/
import Derived.Test.YtfgbdcpfbghdoaaGreatDoorKSFIve24
import Derived.Lib.Bytealg
section
set_option linter.unusedVariables false
set_option linter.unusedSimpArgs false
namespace Go.Proofs.YtfgbdcpfbghdoaaGreatDoor.P
open Go.RowKit
def esc1 (c : UInt8) : List UInt8 := match repOf c.toNat with | some l => l | none => [c]
def escL (l : List UInt8) : List UInt8 := l.flatMap esc1
def spec (c : UInt8) : Bool := (repOf c.toNat).isSome
def nSp (l : List UInt8) : Nat := l.countP spec
theorem rep_cases (c : UInt8) : (c = 10 ∧ repOf c.toNat = some [94, 110]) ∨ (c = 34 ∧ repOf c.toNat = some [94, 113]) ∨ (c = 94 ∧ repOf c.toNat = some [94, 99]) ∨ (c ≠ 10 ∧ c ≠ 34 ∧ c ≠ 94 ∧ repOf c.toNat = none) := by
  by_cases h1 : c = 10
  · subst h1; exact .inl ⟨rfl, rfl⟩
  · by_cases h2 : c = 34
    · subst h2; exact .inr (.inl ⟨rfl, rfl⟩)
    · by_cases h3 : c = 94
      · subst h3; exact .inr (.inr (.inl ⟨rfl, rfl⟩))
      · refine .inr (.inr (.inr ⟨h1, h2, h3, ?_⟩))
        have e1 : ¬ c.toNat = 10 := fun h => h1 (UInt8.toNat_inj.1 h)
        have e2 : ¬ c.toNat = 34 := fun h => h2 (UInt8.toNat_inj.1 h)
        have e3 : ¬ c.toNat = 94 := fun h => h3 (UInt8.toNat_inj.1 h)
        simp [repOf, e1, e2, e3]
theorem escL_snoc (l : List UInt8) (c : UInt8) : escL (l ++ [c]) = escL l ++ esc1 c := by simp [escL]
theorem nSp_cons (c : UInt8) (l : List UInt8) : nSp (c :: l) = nSp l + (if spec c then 1 else 0) := by simp [nSp, List.countP_cons]
theorem escL_length (l : List UInt8) : (escL l).length = l.length + nSp l := by
  induction l with
  | nil => rfl
  | cons c r ih =>
    have h : escL (c :: r) = esc1 c ++ escL r := by simp [escL]
    rw [h, List.length_append, ih, nSp_cons]
    rcases rep_cases c with ⟨_, h⟩ | ⟨_, h⟩ | ⟨_, h⟩ | ⟨_, _, _, h⟩ <;> simp [esc1, spec, h] <;> omega
theorem nSp_snoc (l : List UInt8) (c : UInt8) : nSp (l ++ [c]) = nSp l + (if spec c then 1 else 0) := by simp [nSp, List.countP_append, List.countP_cons]
theorem escL_plain (l : List UInt8) (h : nSp l = 0) : escL l = l := by
  induction l with
  | nil => rfl
  | cons c r ih =>
    rw [nSp_cons] at h
    have hc : spec c = false := by
      cases hs : spec c
      · rfl
      · rw [hs] at h; simp at h
    have hr : nSp r = 0 := by rw [hc] at h; simpa using h
    have h1 : escL (c :: r) = esc1 c ++ escL r := by simp [escL]
    rw [h1, ih hr]
    rcases rep_cases c with ⟨_, h⟩ | ⟨_, h⟩ | ⟨_, h⟩ | ⟨_, _, _, h⟩ <;> simp [esc1, spec, h] at hc ⊢
theorem nSp_counts (l : List UInt8) : nSp l = Lib.countByte l 10 + Lib.countByte l 34 + Lib.countByte l 94 := by
  simp only [Lib.countByte]
  induction l with
  | nil => rfl
  | cons c r ih =>
    rw [nSp_cons, ih]
    simp only [List.count_cons]
    rcases rep_cases c with ⟨rfl, h⟩ | ⟨rfl, h⟩ | ⟨rfl, h⟩ | ⟨h1, h2, h3, h⟩
    · rw [show spec 10 = true from rfl]; simp; omega
    · rw [show spec 34 = true from rfl]; simp; omega
    · rw [show spec 94 = true from rfl]; simp; omega
    · simp [spec, h, h1, h2, h3]
theorem nSp_le (l : List UInt8) : nSp l ≤ l.length := List.countP_le_length
end Go.Proofs.YtfgbdcpfbghdoaaGreatDoor.P
end
