/- What is proved: in plain Lean: the law CodecEncodeLists of the chapter on codecs holds of what its functions answer. -/
import Derived.Test.YteagfdapkffncaaDoorCla
import Derived.Test.YteagfdapkffncaaDoorPx22
set_option linter.unusedVariables false
set_option linter.unusedSimpArgs false
namespace Go.Proofs.YteagfdapkffncaaDoor.P
open Go.RowKit Go.Proofs.YteagfdapkffncaaDoorW.PrintWords Go.Proofs.YteagfdapkffncaaDoorW.PrintLast Go.Proofs.YteagfdapkffncaaDoorW.PrintMore
open Lib (decDigits)

theorem encodeListsLaw (l : List (List Int)) (hA : Arg l) : Ev (fun k => privitylaw03_CodecEncodeLists.f k l) true := by
  unfold privitylaw03_CodecEncodeLists.f
  refine Ev.bind (hA.few 300 (by decide)) ?_
  by_cases h : (flat l).length ≤ 300
  · rw [decide_eq_true h]
    simp only [if_true]
    refine Ev.bind (encLists_ev l (by omega)) ?_
    rw [decLists_f _ (by rw [enc_words_length]; omega), decodeS_enc l (by omega) hA.u]
    simp only [Option.bind_some]
    refine Ev.bind awake_ev ?_
    simp only [if_true]
    refine Ev.bind (refEncLists_ev l (by omega)) ?_
    simp only [if_true]
    refine Ev.bind (sameLists_ev l l hA.len hA.rows) ?_
    rw [decide_eq_true rfl]
    exact Ev.now _
  · rw [decide_eq_false h]
    simp only [Bool.false_eq_true, if_false]
    exact awake_only

end Go.Proofs.YteagfdapkffncaaDoor.P
