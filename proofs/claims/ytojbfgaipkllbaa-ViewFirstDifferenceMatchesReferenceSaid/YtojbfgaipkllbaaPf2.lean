/- What is proved: in plain Lean: FirstDifference answers as the reference does, and is symmetric. -/
import Derived.Test.YtojbfgaipkllbaaPe
import Derived.Test.YtojbfgaipkllbaaPx18
set_option linter.unusedVariables false
set_option linter.unusedSimpArgs false
namespace Go.Proofs.Ytojbfgaipkllbaa.P
open Go.RowKit Go.Proofs.YtojbfgaipkllbaaW.PrintWords Go.Proofs.YtojbfgaipkllbaaW.PrintLast Go.Proofs.YtojbfgaipkllbaaW.PrintMore

theorem firstDifference (a b : List Ve) (ha : GoodV a) (hb : GoodV b) : Ev (fun k => privitylaw15_ViewFirstDifferenceMatchesReference.f k a b) true := by
  unfold privitylaw15_ViewFirstDifferenceMatchesReference.f
  refine Ev.bind awake_ev ?_
  simp only [if_true]
  refine Ev.bind (few_ev a ha.1 30 20) ?_
  have hj : ∀ x, Ev (fun k => privitylaw15_ViewFirstDifferenceMatchesReference.j0 k a b x) true := by
    intro x
    cases x with
    | true => exact Ev.step (fun k => by simp only [privitylaw15_ViewFirstDifferenceMatchesReference.j0, if_true]) (Ev.now _)
    | false =>
      refine Ev.step (fun k => by simp only [privitylaw15_ViewFirstDifferenceMatchesReference.j0, Bool.false_eq_true, if_false] <;> rfl) ?_
      refine Ev.bind (fd_ev a b ha.fits hb.1) ?_
      refine Ev.bind (rfd_ev a b ha.fits hb.1) ?_
      simp only [if_true]
      refine Ev.bind (fd_ev b a hb.fits ha.1) ?_
      refine Ev.bind (rfd_ev a b ha.fits hb.1) ?_
      simp only [fd_comm b a, beq_self_eq_true]
      exact Ev.now _
  by_cases h1 : few a 30 20 = true
  · simp only [h1, if_true]
    exact Ev.bind (few_ev b hb.1 30 20) (hj _)
  · simp only [h1]
    exact hj _

end Go.Proofs.Ytojbfgaipkllbaa.P
