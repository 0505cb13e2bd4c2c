/- What is proved: in plain Lean: the law CodecDecodeWords of the chapter on codecs holds of what its functions answer. -/
import Derived.Test.YteagfdapkffncaaDoorCla
import Derived.Test.YteagfdapkffncaaDoorPx13
set_option linter.unusedVariables false
set_option linter.unusedSimpArgs false
namespace Go.Proofs.YteagfdapkffncaaDoor.P
open Go.RowKit Go.Proofs.YteagfdapkffncaaDoorW.PrintWords Go.Proofs.YteagfdapkffncaaDoorW.PrintLast Go.Proofs.YteagfdapkffncaaDoorW.PrintMore
open Lib (decDigits)

theorem decodeWordsLaw (s : ByteArray) : Ev (fun k => privitylaw03_CodecDecodeWords.f k s) true := by
  obtain ⟨b, rfl⟩ := as_list s
  by_cases h : b.length ≤ 2000
  · refine Ev.congr (f := fun k => (codec_DecodeWords.f k ⟨b.toArray⟩).bind fun bt157 => ((privityref03_DecodeWords.f k ⟨b.toArray⟩).bind fun bt161 => ((privitylaw03_awake.f k).bind fun t165 => (if t165 = true then (if bt157.2 = bt161.2 then ((privityref03_Same.f k bt157.1 bt161.1).bind fun t166 => (if t166 = true then (if bt157.2 = 0 then ((codec_EncodeWords.f bt157.1).bind fun t167 => (some (t167.toList == (⟨b.toArray⟩ : ByteArray).toList))) else (some true)) else (some false))) else (some false)) else (some false))))) (fun k => by simp only [privitylaw03_CodecDecodeWords.f]; rw [if_neg (by rw [sz]; omega)]) ?_
    by_cases h8 : b.length % 8 = 0
    · refine Ev.bind (decWords (b.length / 8) b (by omega) (by omega)) ?_
      refine Ev.bind (refDecWords (b.length / 8) b (by omega) (by omega)) ?_
      refine Ev.bind awake_ev ?_
      simp only [if_true]
      refine Ev.bind (same_ev _ _ (by rw [dec_length]; omega)) ?_
      rw [decide_eq_true rfl, if_pos rfl, encW_f _ (by rw [dec_length]; omega)]
      simp only [Option.bind_some, ba_toList]
      rw [enc_dec _ _ (by omega), List.take_of_length_le (by omega), beq_self_eq_true]
      exact Ev.now _
    · refine Ev.bind (Ev.congr (fun k => decW_bad k b h8) (Ev.now _)) ?_
      refine Ev.bind (Ev.congr (fun k => refDecW_bad k b h8) (Ev.now _)) ?_
      refine Ev.bind awake_ev ?_
      simp only [if_true]
      refine Ev.bind (same_ev [] [] (by decide)) ?_
      rw [decide_eq_true rfl, if_pos rfl]
      exact Ev.now _
  · exact Ev.congr (fun k => by simp only [privitylaw03_CodecDecodeWords.f]; rw [if_pos (by rw [sz]; omega)]) awake_only

end Go.Proofs.YteagfdapkffncaaDoor.P
