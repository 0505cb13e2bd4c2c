/- What is proved: in plain Lean: the law CodecEncodeWords of the chapter on codecs holds of what its functions answer. -/
import Derived.Test.YteagfdapkffncaaDoorCla
import Derived.Test.YteagfdapkffncaaDoorPx12
set_option linter.unusedVariables false
set_option linter.unusedSimpArgs false
namespace Go.Proofs.YteagfdapkffncaaDoor.P
open Go.RowKit Go.Proofs.YteagfdapkffncaaDoorW.PrintWords Go.Proofs.YteagfdapkffncaaDoorW.PrintLast Go.Proofs.YteagfdapkffncaaDoorW.PrintMore
open Lib (decDigits)

theorem encodeWordsLaw (l : List Int) (hw : ∀ x ∈ l, (Lit.int .u64 x).wf = true) : Ev (fun k => privitylaw03_CodecEncodeWords.f k l) true := by
  by_cases h : l.length ≤ 300
  · refine Ev.congr (f := fun k => (codec_EncodeWords.f l).bind fun t148 => ((codec_DecodeWords.f k t148).bind fun bt149 => ((privitylaw03_awake.f k).bind fun t153 => (if t153 = true then ((privityref03_EncodeWords.f k l).bind fun t154 => (if t148.toList = t154.toList then (if bt149.2 = 0 then ((privityref03_Same.f k l bt149.1).bind fun t155 => (some t155)) else (some false)) else (some false))) else (some false))))) (fun k => by simp only [privitylaw03_CodecEncodeWords.f]; rw [if_neg (by omega)]) ?_
    rw [encW_f l (by omega)]
    simp only [Option.bind_some]
    refine Ev.bind (decW_enc l (fun x hx => u64_of_wf (hw x hx)) (by omega)) ?_
    refine Ev.bind awake_ev ?_
    simp only [if_true]
    refine Ev.bind (refWords l (by omega)) ?_
    simp only [if_true]
    refine Ev.bind (same_ev l l (by omega)) ?_
    rw [decide_eq_true rfl]
    exact Ev.now _
  · exact Ev.congr (fun k => by simp only [privitylaw03_CodecEncodeWords.f]; rw [if_pos (by omega)]) awake_only

end Go.Proofs.YteagfdapkffncaaDoor.P
