/- What is proved: in plain Lean: what is known of an argument of type View. -/
import Derived.Test.YtojbfgaipkllbaaPd
import Derived.Test.YtojbfgaipkllbaaAwk
set_option linter.unusedVariables false
set_option linter.unusedSimpArgs false
namespace Go.Proofs.Ytojbfgaipkllbaa.P
open Go.RowKit Go.Proofs.YtojbfgaipkllbaaW.PrintWords Go.Proofs.YtojbfgaipkllbaaW.PrintLast Go.Proofs.YtojbfgaipkllbaaW.PrintMore

/-- What an argument of type View is known to be. -/
def GoodV (v : List Ve) : Prop := v.length ≤ 9223372036854775807 ∧ (∀ e ∈ v, e.f2.length ≤ 9223372036854775807) ∧ ∀ e ∈ v, Ok1 e
theorem GoodV.fits {v : List Ve} (h : GoodV v) : Fits v := ⟨h.1, h.2.1⟩

theorem few_small {v : List Ve} {a b : Nat} (h : few v a b = true) (hb : 1 + a * (b + 3) < 17592186044416) : (lw (v.map evw)).length < 17592186044416 := Nat.lt_of_le_of_lt (lw_few h) hb
theorem rdL4 (vs : List (List Ve)) (i : Nat) (h : i < vs.length) : rd_L4 vs (i : Int) = vs[i] := by simp [rd_L4, h]

end Go.Proofs.Ytojbfgaipkllbaa.P
