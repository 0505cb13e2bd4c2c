/- What is proved: in plain Lean: two views have one encoding exactly if they are equal. -/
import Derived.Test.YtojbfgaipkllbaaPe
import Derived.Test.YtojbfgaipkllbaaPx19
set_option linter.unusedVariables false
set_option linter.unusedSimpArgs false
namespace Go.Proofs.Ytojbfgaipkllbaa.P
open Go.RowKit Go.Proofs.YtojbfgaipkllbaaW.PrintWords Go.Proofs.YtojbfgaipkllbaaW.PrintLast Go.Proofs.YtojbfgaipkllbaaW.PrintMore

theorem injective (a b : List Ve) (ha : GoodV a) (hb : GoodV b) : Ev (fun k => privitylaw15_ViewEncodingIsInjective.f k a b) true := by
  unfold privitylaw15_ViewEncodingIsInjective.f
  refine Ev.bind awake_ev ?_
  simp only [if_true]
  refine Ev.bind (few_ev a ha.1 30 20) ?_
  have hj1 : Ev (fun k => privitylaw15_ViewEncodingIsInjective.j0 k a b true) true := Ev.step (fun k => by simp only [privitylaw15_ViewEncodingIsInjective.j0, if_true]) (Ev.now _)
  by_cases h1 : few a 30 20 = true
  · simp only [h1, if_true]
    refine Ev.bind (few_ev b hb.1 30 20) ?_
    by_cases h2 : few b 30 20 = true
    · simp only [h2, Bool.not_true]
      refine Ev.step (fun k => by simp only [privitylaw15_ViewEncodingIsInjective.j0, Bool.false_eq_true, if_false, encode_f _ (few_small h1 (by decide)), encode_f _ (few_small h2 (by decide)), Option.bind_some] <;> rfl) ?_
      refine Ev.bind (fd_ev a b ha.fits hb.1) ?_
      simp only [toList_mk]
      have : ((EB a == EB b) == (fd a b == -1)) = true := by
        rw [beq_iff_eq, Bool.eq_iff_iff, beq_iff_eq, beq_iff_eq, fd_eq]
        exact ⟨fun h => EB_inj h1 h2 (by decide) (by decide) ha.2.2 hb.2.2 h, fun h => by rw [h]⟩
      rw [this]
      exact Ev.now _
    · simp only [h2, Bool.not_false]
      exact hj1
  · simp only [h1]
    exact hj1

end Go.Proofs.Ytojbfgaipkllbaa.P
