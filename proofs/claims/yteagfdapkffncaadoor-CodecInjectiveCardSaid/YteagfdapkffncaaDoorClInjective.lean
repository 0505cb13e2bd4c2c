/- What is proved: in plain Lean: the law CodecInjective of the chapter on codecs holds of what its functions answer. -/
import Derived.Test.YteagfdapkffncaaDoorCla
import Derived.Test.YteagfdapkffncaaDoorPx26
set_option linter.unusedVariables false
set_option linter.unusedSimpArgs false
namespace Go.Proofs.YteagfdapkffncaaDoor.P
open Go.RowKit Go.Proofs.YteagfdapkffncaaDoorW.PrintWords Go.Proofs.YteagfdapkffncaaDoorW.PrintLast Go.Proofs.YteagfdapkffncaaDoorW.PrintMore
open Lib (decDigits)

theorem injectiveLaw (x y : List (List Int)) (hx : Arg x) (hy : Arg y) : Ev (fun k => privitylaw03_CodecInjective.f k x y) true := by
  have dull : Ev (fun k => privitylaw03_CodecInjective.j0 k x y true) true := Ev.step (fun k => by simp only [privitylaw03_CodecInjective.j0]; rfl) awake_only
  unfold privitylaw03_CodecInjective.f
  refine Ev.bind (hx.few 200 (by decide)) ?_
  by_cases h1 : (flat x).length ≤ 200
  · rw [decide_eq_true h1]
    simp only [if_true]
    refine Ev.bind (hy.few 200 (by decide)) ?_
    by_cases h2 : (flat y).length ≤ 200
    · rw [decide_eq_true h2]
      refine Ev.step (f := fun k => (privitylaw03_awake.f k).bind fun t270 => (if t270 = true then ((codec_EncodeLists.f k x).bind fun t271 => ((codec_EncodeLists.f k y).bind fun t272 => ((privityref03_SameLists.f k x y).bind fun t273 => (some ((t271.toList == t272.toList) == t273))))) else (some false))) (fun k => by simp only [privitylaw03_CodecInjective.j0, Bool.not_true, Bool.false_eq_true, if_false]) ?_
      refine Ev.bind awake_ev ?_
      simp only [if_true]
      refine Ev.bind (encLists_ev x (by omega)) ?_
      refine Ev.bind (encLists_ev y (by omega)) ?_
      refine Ev.bind (sameLists_ev x y hx.len hx.rows) ?_
      rw [ba_toList, ba_toList]
      have e : ((Enc.enc (wordsL x) == Enc.enc (wordsL y)) == decide (x = y)) = true := by
        by_cases h : x = y
        · subst h; simp
        · have h3 : Enc.enc (wordsL x) ≠ Enc.enc (wordsL y) := fun e => h (enc_inj x y (by omega) (by omega) hx.u hy.u e)
          rw [beq_eq_false_iff_ne.2 h3, decide_eq_false h]; rfl
      rw [e]
      exact Ev.now _
    · rw [decide_eq_false h2]
      exact dull
  · rw [decide_eq_false h1]
    simp only [Bool.false_eq_true, if_false]
    exact dull

end Go.Proofs.YteagfdapkffncaaDoor.P
