/- What is proved: in plain Lean: the law CodecParseDecimal of the chapter on codecs holds of what its functions answer. -/
import Derived.Test.YteagfdapkffncaaDoorCla
import Derived.Test.YteagfdapkffncaaDoorPx17
set_option linter.unusedVariables false
set_option linter.unusedSimpArgs false
namespace Go.Proofs.YteagfdapkffncaaDoor.P
open Go.RowKit Go.Proofs.YteagfdapkffncaaDoorW.PrintWords Go.Proofs.YteagfdapkffncaaDoorW.PrintLast Go.Proofs.YteagfdapkffncaaDoorW.PrintMore
open Lib (decDigits)

theorem parseLaw (s : ByteArray) : Ev (fun k => privitylaw03_CodecParseDecimal.f k s) true := by
  obtain ⟨b, rfl⟩ := as_list s
  by_cases h : b.length ≤ 100
  · refine Ev.congr (f := fun k => (codec_ParseDecimal.f ⟨b.toArray⟩).bind fun bt181 => ((privityref03_ParseDecimal.f k ⟨b.toArray⟩).bind fun bt183 => ((privitylaw03_awake.f k).bind fun t185 => (if t185 = true then (if bt181.1 = bt183.1 then (if bt181.2 = bt183.2 then (if bt181.2 = 0 then ((codec_FormatDecimal.f bt181.1).bind fun t186 => (some (t186.toList == (⟨b.toArray⟩ : ByteArray).toList))) else (some true)) else (some false)) else (some false)) else (some false))))) (fun k => by simp only [privitylaw03_CodecParseDecimal.f]; rw [if_neg (by rw [sz]; omega)]) ?_
    rw [parse_f b (by omega)]
    simp only [Option.bind_some]
    refine Ev.bind (refParse b (by omega)) ?_
    refine Ev.bind awake_ev ?_
    simp only [if_true]
    by_cases h0 : (parseD b).2 = 0
    · obtain ⟨h1, h2⟩ := parse_exact b h0
      rw [if_pos h0, fmt_f _ h1]
      simp only [Option.bind_some, ba_toList]
      rw [h2, beq_self_eq_true]
      exact Ev.now _
    · rw [if_neg h0]; exact Ev.now _
  · exact Ev.congr (fun k => by simp only [privitylaw03_CodecParseDecimal.f]; rw [if_pos (by rw [sz]; omega)]) awake_only

end Go.Proofs.YteagfdapkffncaaDoor.P
