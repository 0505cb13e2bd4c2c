/- What is proved: in plain Lean: the law CodecDecodeLists of the chapter on codecs holds of what its functions answer. -/
import Derived.Test.YteagfdapkffncaaDoorCla
import Derived.Test.YteagfdapkffncaaDoorPx24
set_option linter.unusedVariables false
set_option linter.unusedSimpArgs false
namespace Go.Proofs.YteagfdapkffncaaDoor.P
open Go.RowKit Go.Proofs.YteagfdapkffncaaDoorW.PrintWords Go.Proofs.YteagfdapkffncaaDoorW.PrintLast Go.Proofs.YteagfdapkffncaaDoorW.PrintMore
open Lib (decDigits)

theorem decodeListsLaw (s : ByteArray) : Ev (fun k => privitylaw03_CodecDecodeLists.f k s) true := by
  obtain ⟨b, rfl⟩ := as_list s
  by_cases h : b.length ≤ 2000
  · refine Ev.congr (f := fun k => (codec_DecodeLists.f ⟨b.toArray⟩).bind fun bt243 => ((privityref03_DecodeLists.f ⟨b.toArray⟩).bind fun bt247 => ((privitylaw03_awake.f k).bind fun t251 => (if t251 = true then (if bt243.2 = bt247.2 then ((privityref03_SameLists.f k bt243.1 bt247.1).bind fun t252 => (if t252 = true then (if bt243.2 = 0 then ((codec_EncodeLists.f k bt243.1).bind fun t253 => (some (t253.toList == (⟨b.toArray⟩ : ByteArray).toList))) else (some true)) else (some false))) else (some false)) else (some false))))) (fun k => by simp only [privitylaw03_CodecDecodeLists.f]; rw [if_neg (by rw [sz]; omega)]) ?_
    rw [decLists_f b (by omega), refDecLists_f b (by omega)]
    simp only [Option.bind_some]
    refine Ev.bind awake_ev ?_
    simp only [if_true]
    by_cases h0 : (decodeS b).2 = 0
    · obtain ⟨r, e, hr⟩ : ∃ r e, decodeS b = (r, e) := ⟨_, _, rfl⟩
      rw [hr] at h0 ⊢
      simp only at h0
      subst h0
      obtain ⟨he, hlen, hu⟩ := decodeS_told b r hr
      have hf : (flat r).length ≤ 300 := by omega
      have hfl := flat_len r
      refine Ev.bind (sameLists_ev r r (by omega) (fun q hq => by have := flat_mem r q hq; omega)) ?_
      rw [decide_eq_true rfl]
      simp only [if_true]
      refine Ev.bind (encLists_ev r (by omega)) ?_
      rw [ba_toList, ba_toList, he, beq_self_eq_true]
      exact Ev.now _
    · rw [decodeS_err b h0]
      refine Ev.bind (sameLists_ev [] [] (by decide) (by decide)) ?_
      rw [decide_eq_true rfl]
      exact Ev.now _
  · exact Ev.congr (fun k => by simp only [privitylaw03_CodecDecodeLists.f]; rw [if_pos (by rw [sz]; omega)]) awake_only

end Go.Proofs.YteagfdapkffncaaDoor.P
