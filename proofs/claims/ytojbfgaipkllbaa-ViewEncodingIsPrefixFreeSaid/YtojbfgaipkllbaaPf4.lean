/- What is proved: in plain Lean: no view's encoding begins another's. -/
import Derived.Test.YtojbfgaipkllbaaPe
import Derived.Test.YtojbfgaipkllbaaPx21
set_option linter.unusedVariables false
set_option linter.unusedSimpArgs false
namespace Go.Proofs.Ytojbfgaipkllbaa.P
open Go.RowKit Go.Proofs.YtojbfgaipkllbaaW.PrintWords Go.Proofs.YtojbfgaipkllbaaW.PrintLast Go.Proofs.YtojbfgaipkllbaaW.PrintMore

theorem prefixFree (a b : List Ve) (ha : GoodV a) (hb : GoodV b) : Ev (fun k => privitylaw15_ViewEncodingIsPrefixFree.f k a b) true := by
  unfold privitylaw15_ViewEncodingIsPrefixFree.f
  refine Ev.bind awake_ev ?_
  simp only [if_true]
  refine Ev.bind (few_ev a ha.1 30 20) ?_
  have hj1 : Ev (fun k => privitylaw15_ViewEncodingIsPrefixFree.j0 k a b true) true := Ev.step (fun k => by simp only [privitylaw15_ViewEncodingIsPrefixFree.j0, if_true]) (Ev.now _)
  by_cases h1 : few a 30 20 = true
  · simp only [h1, if_true]
    refine Ev.bind (few_ev b hb.1 30 20) ?_
    by_cases h2 : few b 30 20 = true
    · simp only [h2, Bool.not_true]
      refine Ev.step (fun k => by simp only [privitylaw15_ViewEncodingIsPrefixFree.j0, Bool.false_eq_true, if_false, encode_f _ (few_small h1 (by decide)), encode_f _ (few_small h2 (by decide)), Option.bind_some] <;> rfl) ?_
      have sz : ∀ l : List Ve, (ByteArray.mk (EB l).toArray).size = (EB l).length := fun l => by show (EB l).toArray.size = _; simp
      simp only [sz]
      by_cases h3 : ((EB a).length : Int) > ((EB b).length : Int)
      · simp only [h3, if_true]; exact Ev.now _
      · have h4 : (0 : Int) ≤ ((EB a).length : Int) := by omega
        have h5 : ((EB a).length : Int) ≤ ((EB b).length : Int) := by omega
        simp only [h3, if_false, h4, if_true, h5]
        have he : (ByteArray.extract (ByteArray.mk (EB b).toArray) 0 ((EB a).length : Int).toNat).toList = (EB b).take (EB a).length := by
          rw [toList_eq]; simp
        rw [he, toList_mk]
        by_cases h6 : (EB b).take (EB a).length = EB a
        · simp only [h6, if_true]
          have hab := EB_begin h1 h2 (by decide) (by decide) ha.2.2 hb.2.2 h6
          refine Ev.bind (same_ev a b ha.fits hb.1) ?_
          rw [decide_eq_true ((fd_neg a b).2 hab)]
          exact Ev.now _
        · simp only [h6, if_false]; exact Ev.now _
    · simp only [h2, Bool.not_false]
      exact hj1
  · simp only [h1]
    exact hj1

end Go.Proofs.Ytojbfgaipkllbaa.P
