/- What is proved: in plain Lean: the law CodecConcatenation of the chapter on codecs holds of what its functions answer. -/
import Derived.Test.YteagfdapkffncaaDoorCla
import Derived.Test.YteagfdapkffncaaDoorPx18
set_option linter.unusedVariables false
set_option linter.unusedSimpArgs false
namespace Go.Proofs.YteagfdapkffncaaDoor.P
open Go.RowKit Go.Proofs.YteagfdapkffncaaDoorW.PrintWords Go.Proofs.YteagfdapkffncaaDoorW.PrintLast Go.Proofs.YteagfdapkffncaaDoorW.PrintMore
open Lib (decDigits)

theorem concatLaw (x y : List Int) (hx : ∀ a ∈ x, (Lit.int .u64 a).wf = true) (hy : ∀ a ∈ y, (Lit.int .u64 a).wf = true) : Ev (fun k => privitylaw03_CodecConcatenation.f k x y) true := by
  have dull : Ev (fun k => privitylaw03_CodecConcatenation.j0 k x y true) true := Ev.step (fun k => by simp only [privitylaw03_CodecConcatenation.j0]; rfl) awake_only
  by_cases h1 : x.length ≤ 200
  · by_cases h2 : y.length ≤ 200
    · refine Ev.congr (f := fun k => privitylaw03_CodecConcatenation.j0 k x y false) (fun k => by simp only [privitylaw03_CodecConcatenation.f]; rw [if_neg (by omega), decide_eq_false (by omega)]) ?_
      have hxy : (x ++ y).length ≤ 400 := by rw [List.length_append]; omega
      have lx := Enc.enc_length x
      have ly := Enc.enc_length y
      have hss : (⟨(Enc.enc x).toArray⟩ : ByteArray).size + (⟨(Enc.enc y).toArray⟩ : ByteArray).size ≤ 9223372036854775807 := by rw [sz, sz]; omega
      refine Ev.step (f := fun k => (codec_DecodeWords.f k ⟨(Enc.enc (x ++ y)).toArray⟩).bind fun bt199 => ((privitylaw03_awake.f k).bind fun t203 => (if t203 = true then (if bt199.2 = 0 then ((privityref03_Same.f k bt199.1 (x ++ y)).bind fun t207 => (some t207)) else (some false)) else (some false)))) (fun k => by
        simp only [privitylaw03_CodecConcatenation.j0, Bool.false_eq_true, if_false, Option.bind_some, List.nil_append]
        rw [if_pos (by simp only [List.length_nil]; omega), if_pos (by omega), encW_f x (by omega), encW_f y (by omega), encW_f (x ++ y) (by omega)]
        simp only [Option.bind_some]
        simp only [hss, if_true, app_eq, ← Enc.enc_append]) ?_
      refine Ev.bind (decW_enc (x ++ y) (fun a ha => (List.mem_append.1 ha).elim (fun q => u64_of_wf (hx a q)) (fun q => u64_of_wf (hy a q))) (by omega)) ?_
      refine Ev.bind awake_ev ?_
      simp only [if_true]
      refine Ev.bind (same_ev _ _ (by omega)) ?_
      rw [decide_eq_true rfl]
      exact Ev.now _
    · exact Ev.congr (fun k => by simp only [privitylaw03_CodecConcatenation.f]; rw [if_neg (by omega), decide_eq_true (by omega)]) dull
  · exact Ev.congr (fun k => by simp only [privitylaw03_CodecConcatenation.f]; rw [if_pos (by omega)]) dull

end Go.Proofs.YteagfdapkffncaaDoor.P
