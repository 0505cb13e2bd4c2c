/- What is proved: in plain Lean: the law CodecFormatDecimal of the chapter on codecs holds of what its functions answer. -/
import Derived.Test.YteagfdapkffncaaDoorCla
import Derived.Test.YteagfdapkffncaaDoorPx15
set_option linter.unusedVariables false
set_option linter.unusedSimpArgs false
namespace Go.Proofs.YteagfdapkffncaaDoor.P
open Go.RowKit Go.Proofs.YteagfdapkffncaaDoorW.PrintWords Go.Proofs.YteagfdapkffncaaDoorW.PrintLast Go.Proofs.YteagfdapkffncaaDoorW.PrintMore
open Lib (decDigits)

theorem formatLaw (n m : Int) (hn : (Lit.int .u64 n).wf = true) (hm : (Lit.int .u64 m).wf = true) : Ev (fun k => privitylaw03_CodecFormatDecimal.f k n m) true := by
  obtain ⟨n0, n1⟩ := u64_of_wf hn
  obtain ⟨m0, m1⟩ := u64_of_wf hm
  obtain ⟨a, rfl⟩ : ∃ a : Nat, n = (a : Int) := ⟨n.toNat, by omega⟩
  obtain ⟨c, rfl⟩ : ∃ c : Nat, m = (c : Int) := ⟨m.toNat, by omega⟩
  have ha : a < 18446744073709551616 := by omega
  have hc : c < 18446744073709551616 := by omega
  have hl := dd_length a ha
  unfold privitylaw03_CodecFormatDecimal.f
  rw [fmt_f a ha, fmt_f c hc]
  simp only [Option.bind_some]
  rw [parse_f _ (by omega), parse_dd a ha]
  simp only [Option.bind_some]
  refine Ev.bind awake_ev ?_
  simp only [if_true]
  refine Ev.bind (refFormat a ha) ?_
  simp only [if_true, ba_toList]
  have e : ((decDigits c == decDigits a) == ((c : Int) == (a : Int))) = true := by
    by_cases h : c = a
    · subst h; simp
    · have h1 : decDigits c ≠ decDigits a := fun e => h (dd_inj _ _ e)
      have h2 : (c : Int) ≠ (a : Int) := by omega
      rw [beq_eq_false_iff_ne.2 h1, beq_eq_false_iff_ne.2 h2]; rfl
  rw [e]
  exact Ev.now _

end Go.Proofs.YteagfdapkffncaaDoor.P
