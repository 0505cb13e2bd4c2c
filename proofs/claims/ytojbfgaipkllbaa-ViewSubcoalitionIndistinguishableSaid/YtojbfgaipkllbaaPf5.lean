/- What is proved: in plain Lean: SameAll, and the joined encodings of the parties from 1 on. -/
import Derived.Test.YtojbfgaipkllbaaAwk
import Derived.Test.YtojbfgaipkllbaaPx22
set_option linter.unusedVariables false
set_option linter.unusedSimpArgs false
namespace Go.Proofs.Ytojbfgaipkllbaa.P
open Go.RowKit Go.Proofs.YtojbfgaipkllbaaW.PrintWords Go.Proofs.YtojbfgaipkllbaaW.PrintLast Go.Proofs.YtojbfgaipkllbaaW.PrintMore

/-- The parties from 1 on. -/
def ones (n : Nat) : List Int := (List.range n).map fun i => ((i + 1 : Nat) : Int)
theorem ones_succ (n : Nat) : ones (n + 1) = ones n ++ [((n + 1 : Nat) : Int)] := by simp [ones, List.range_succ]
theorem ones_length (n : Nat) : (ones n).length = n := by simp [ones]
theorem CB_ones (vs : List (List Ve)) : CB (ones vs.length) vs = vs.flatMap EB := by
  have : ∀ n, n ≤ vs.length → CB (ones n) vs = (vs.take n).flatMap EB := by
    intro n
    induction n with
    | zero => intro _; rfl
    | succ n ih =>
      intro h
      rw [ones_succ, List.take_succ_eq_append_getElem h, List.flatMap_append, ← ih (by omega)]
      unfold CB
      rw [List.flatMap_append]
      congr 1
      simp only [List.flatMap_cons, List.flatMap_nil, List.append_nil, pick]
      rw [if_pos ⟨by omega, by omega⟩]
      simp [show n < vs.length from h]
  have h := this vs.length (Nat.le_refl _)
  rwa [List.take_length] at h

theorem sameAll_go (a b : List (List Ve)) (hl : a.length = b.length) (hm : a.length ≤ 1000) (ha : ∀ v ∈ a, GoodV v) (hb : ∀ v ∈ b, GoodV v) (d : Nat) : ∀ i : Nat, a.length - i = d → i ≤ a.length →
    ∃ r, (r = true ↔ a.drop i = b.drop i) ∧ Ev (fun k => privityref15_SameAll.l0 k a b (i : Int)) r := by
  induction d with
  | zero =>
    intro i hd hi
    refine ⟨true, ?_, Ev.step (fun k => by simp only [privityref15_SameAll.l0]; rw [if_neg (by omega)]) (Ev.now _)⟩
    rw [List.drop_of_length_le (by omega), List.drop_of_length_le (by omega)]
    simp
  | succ d ih =>
    intro i hd hi
    have h1 : i < a.length := by omega
    have h2 : i < b.length := by omega
    have hs := same_ev a[i] b[i] (ha _ (List.getElem_mem h1)).fits (hb _ (List.getElem_mem h2)).1
    rw [List.drop_eq_getElem_cons h1, List.drop_eq_getElem_cons h2]
    by_cases he : a[i] = b[i]
    · obtain ⟨r, hr, hev⟩ := ih (i + 1) (by omega) (by omega)
      refine ⟨r, by rw [hr, he]; exact ⟨fun h => by rw [h], fun h => (List.cons.inj h).2⟩, ?_⟩
      refine Ev.step (fun k => by simp only [privityref15_SameAll.l0]; rw [if_pos (by omega), if_pos (by omega), if_pos (by omega), rdL4 _ _ h1, rdL4 _ _ h2]) ?_
      refine Ev.bind hs ?_
      rw [decide_eq_true ((fd_neg _ _).2 he), wrap_nat h1 (by omega)]
      simp only [if_true]
      exact hev
    · refine ⟨false, ⟨fun h => (by cases h), fun h => absurd (List.cons.inj h).1 he⟩, ?_⟩
      refine Ev.step (fun k => by simp only [privityref15_SameAll.l0]; rw [if_pos (by omega), if_pos (by omega), if_pos (by omega), rdL4 _ _ h1, rdL4 _ _ h2]) ?_
      refine Ev.bind hs ?_
      rw [decide_eq_false (fun h => he ((fd_neg _ _).1 h))]
      simp only [Bool.false_eq_true, if_false]
      exact Ev.now _
theorem sameAll_ev (a b : List (List Ve)) (hl : a.length = b.length) (hm : a.length ≤ 1000) (ha : ∀ v ∈ a, GoodV v) (hb : ∀ v ∈ b, GoodV v) : ∃ r, (r = true ↔ a = b) ∧ Ev (fun k => privityref15_SameAll.f k a b) r := by
  obtain ⟨r, h1, h2⟩ := sameAll_go a b hl hm ha hb a.length 0 (by omega) (by omega)
  refine ⟨r, by simpa using h1, ?_⟩
  unfold privityref15_SameAll.f
  simp only [show (a.length : Int) = (b.length : Int) from by omega, if_true]
  exact h2

theorem small10 {vs : List (List Ve)} (hf : ∀ v ∈ vs, few v 10 10 = true) : Small 131 vs := fun v h => lw_few (hf v h)

end Go.Proofs.Ytojbfgaipkllbaa.P
