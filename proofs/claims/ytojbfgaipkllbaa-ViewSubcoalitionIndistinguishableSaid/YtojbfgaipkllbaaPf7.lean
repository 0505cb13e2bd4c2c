/- What is proved: in plain Lean: what a coalition can't tell apart no part of it can. -/
import Derived.Test.YtojbfgaipkllbaaPf5
import Derived.Test.YtojbfgaipkllbaaPx25
set_option linter.unusedVariables false
set_option linter.unusedSimpArgs false
namespace Go.Proofs.Ytojbfgaipkllbaa.P
open Go.RowKit Go.Proofs.YtojbfgaipkllbaaW.PrintWords Go.Proofs.YtojbfgaipkllbaaW.PrintLast Go.Proofs.YtojbfgaipkllbaaW.PrintMore

theorem sc_l0 (a b : List (List Ve)) (who : List Int) (hw : who.length ≤ 10) (h4 : a.length ≤ 4) (hl : a.length = b.length) (ha : ∀ v ∈ a, GoodV v) (hb : ∀ v ∈ b, GoodV v) (d : Nat) : ∀ i : Nat, a.length - i = d → i ≤ a.length →
    (∀ j (h : j < a.length), j < i → few a[j] 10 10 = true) → (∀ j (h : j < b.length), j < i → few b[j] 10 10 = true) → Ev (fun k => privitylaw15_ViewSubcoalitionIndistinguishable.l0 k a b who (ones i) (i : Int)) true := by
  induction d with
  | zero =>
    intro i hd hi fa fb
    obtain rfl : i = a.length := by omega
    have fa' : ∀ v ∈ a, few v 10 10 = true := fun v hm => by obtain ⟨j, hj, rfl⟩ := List.getElem_of_mem hm; exact fa j hj hj
    have fb' : ∀ v ∈ b, few v 10 10 = true := fun v hm => by obtain ⟨j, hj, rfl⟩ := List.getElem_of_mem hm; exact fb j hj (by omega)
    refine Ev.step (fun k => by simp only [privitylaw15_ViewSubcoalitionIndistinguishable.l0]; rw [if_neg (by omega)]) ?_
    refine Ev.bind (co_ev _ a 131 (by decide) (by decide) (by rw [ones_length]; omega) (by omega) (small10 fa')) ?_
    refine Ev.bind (co_ev _ b 131 (by decide) (by decide) (by rw [ones_length]; omega) (by omega) (small10 fb')) ?_
    rw [toList_mk, toList_mk, CB_ones a, show ones a.length = ones b.length from by rw [hl], CB_ones b]
    by_cases h : a.flatMap EB = b.flatMap EB
    · simp only [h, if_true]
      have hab := join_inj a b (p := 10) (q := 10) (by decide) (by decide) hl (fun v hv => ⟨fa' v hv, (ha v hv).2.2⟩) (fun v hv => ⟨fb' v hv, (hb v hv).2.2⟩) h
      refine Ev.bind (co_ev who a 131 (by decide) (by decide) (by omega) (by omega) (small10 fa')) ?_
      refine Ev.bind (co_ev who b 131 (by decide) (by decide) (by omega) (by omega) (small10 fb')) ?_
      rw [hab]
      simp only [beq_self_eq_true]
      exact Ev.now _
    · simp only [h, if_false]
      exact Ev.now _
  | succ d ih =>
    intro i hd hi fa fb
    have h1 : i < a.length := by omega
    have h2 : i < b.length := by omega
    refine Ev.step (fun k => by simp only [privitylaw15_ViewSubcoalitionIndistinguishable.l0]; rw [if_pos (by omega), if_pos (by omega), rdL4 _ _ h1]) ?_
    refine Ev.bind (few_ev _ (ha _ (List.getElem_mem h1)).1 10 10) ?_
    by_cases g1 : few a[i] 10 10 = true
    · simp only [g1, if_true]
      simp only [show (i : Int) < (b.length : Int) from by omega, if_true, rdL4 _ _ h2]
      refine Ev.bind (few_ev _ (hb _ (List.getElem_mem h2)).1 10 10) ?_
      by_cases g2 : few b[i] 10 10 = true
      · simp only [g2, if_true, show (ones i).length < 17592186044416 from by rw [ones_length]; omega]
        rw [wrap_nat h1 (by omega), ← ones_succ]
        refine ih (i + 1) (by omega) (by omega) (fun j hj hji => ?_) (fun j hj hji => ?_)
        · rcases Nat.lt_or_ge j i with h | h
          · exact fa j hj h
          · obtain rfl : j = i := by omega
            exact g1
        · rcases Nat.lt_or_ge j i with h | h
          · exact fb j hj h
          · obtain rfl : j = i := by omega
            exact g2
      · simp only [g2]
        exact Ev.now _
    · simp only [g1]
      exact Ev.now _
theorem subcoalition (a b : List (List Ve)) (who : List Int) (ha : ∀ v ∈ a, GoodV v) (hb : ∀ v ∈ b, GoodV v) : Ev (fun k => privitylaw15_ViewSubcoalitionIndistinguishable.f k a b who) true := by
  unfold privitylaw15_ViewSubcoalitionIndistinguishable.f
  refine Ev.bind awake_ev ?_
  simp only [if_true]
  have hj1 : Ev (fun k => privitylaw15_ViewSubcoalitionIndistinguishable.j0 k a b who true) true := Ev.step (fun k => by simp only [privitylaw15_ViewSubcoalitionIndistinguishable.j0, if_true]) (Ev.now _)
  by_cases h1 : (a.length : Int) > 4
  · simp only [h1, if_true]; exact hj1
  · simp only [h1, if_false]
    by_cases h2 : (a.length : Int) = (b.length : Int)
    · simp only [h2, if_true]
      by_cases h3 : (who.length : Int) > 10
      · simp only [h3, decide_true]; exact hj1
      · simp only [h3, decide_false]
        refine Ev.step (fun k => by simp only [privitylaw15_ViewSubcoalitionIndistinguishable.j0, Bool.false_eq_true, if_false] <;> rfl) ?_
        exact sc_l0 a b who (by omega) (by omega) (by omega) ha hb a.length 0 (by omega) (by omega) (fun j _ h => by omega) (fun j _ h => by omega)
    · simp only [h2, if_false]; exact hj1

end Go.Proofs.Ytojbfgaipkllbaa.P
