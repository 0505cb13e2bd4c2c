/- What is proved: in plain Lean: Encode and EncodeCoalition answer as the reference does. -/
import Derived.Test.YtojbfgaipkllbaaPe
import Derived.Test.YtojbfgaipkllbaaPx14
set_option linter.unusedVariables false
set_option linter.unusedSimpArgs false
namespace Go.Proofs.Ytojbfgaipkllbaa.P
open Go.RowKit Go.Proofs.YtojbfgaipkllbaaW.PrintWords Go.Proofs.YtojbfgaipkllbaaW.PrintLast Go.Proofs.YtojbfgaipkllbaaW.PrintMore

section enc
variable (bad : List Int) (vs : List (List Ve)) (hb : bad.length ≤ 20) (hv : vs.length ≤ 6)
include hb hv
theorem em_l1 (hf : ∀ v ∈ vs, few v 20 20 = true) (d : Nat) : ∀ i : Nat, vs.length - i = d → i ≤ vs.length → Ev (fun k => privitylaw15_ViewEncodeMatchesReference.l1 k bad vs (i : Int)) true := by
  have hs : Small 461 vs := fun v h => lw_few (hf v h)
  induction d with
  | zero =>
    intro i hd hi
    refine Ev.step (fun k => by simp only [privitylaw15_ViewEncodeMatchesReference.l1]; rw [if_neg (by omega)]) ?_
    refine Ev.bind (co_ev bad vs 461 (by decide) (by decide) (by omega) (by omega) hs) ?_
    refine Ev.bind (rco_ev bad vs 461 (by decide) (by decide) (by omega) (by omega) hs) ?_
    simp only [beq_self_eq_true]
    exact Ev.now _
  | succ d ih =>
    intro i hd hi
    have hlt : i < vs.length := by omega
    have hsm := few_small (hf _ (List.getElem_mem hlt)) (by decide)
    refine Ev.step (fun k => by simp only [privitylaw15_ViewEncodeMatchesReference.l1]; rw [if_pos (by omega), if_pos (by omega), rdL4 _ _ hlt, encode_f _ hsm]) ?_
    simp only [Option.bind_some]
    refine Ev.bind (refEncode _ hsm) ?_
    simp only [if_true]
    rw [wrap_nat hlt (by omega)]
    exact ih (i + 1) (by omega) (by omega)
theorem em_l0 (hg : ∀ v ∈ vs, GoodV v) (d : Nat) : ∀ i : Nat, vs.length - i = d → i ≤ vs.length → (∀ j (h : j < vs.length), j < i → few vs[j] 20 20 = true) → Ev (fun k => privitylaw15_ViewEncodeMatchesReference.l0 k bad vs (i : Int)) true := by
  induction d with
  | zero =>
    intro i hd hi hf
    refine Ev.step (fun k => by simp only [privitylaw15_ViewEncodeMatchesReference.l0]; rw [if_neg (by omega)]) ?_
    refine em_l1 bad vs hb hv (fun v hm => ?_) vs.length 0 (by omega) (by omega)
    obtain ⟨j, hj, rfl⟩ := List.getElem_of_mem hm
    exact hf j hj (by omega)
  | succ d ih =>
    intro i hd hi hf
    have hlt : i < vs.length := by omega
    refine Ev.step (fun k => by simp only [privitylaw15_ViewEncodeMatchesReference.l0]; rw [if_pos (by omega), if_pos (by omega), rdL4 _ _ hlt]) ?_
    refine Ev.bind (few_ev _ (hg _ (List.getElem_mem hlt)).1 20 20) ?_
    by_cases hfew : few vs[i] 20 20 = true
    · simp only [hfew, if_true]
      rw [wrap_nat hlt (by omega)]
      refine ih (i + 1) (by omega) (by omega) (fun j hj hji => ?_)
      rcases Nat.lt_or_ge j i with h | h
      · exact hf j hj h
      · obtain rfl : j = i := by omega
        exact hfew
    · simp only [hfew]
      exact Ev.now _
end enc
theorem encodeMatches (bad : List Int) (vs : List (List Ve)) (hg : ∀ v ∈ vs, GoodV v) : Ev (fun k => privitylaw15_ViewEncodeMatchesReference.f k bad vs) true := by
  unfold privitylaw15_ViewEncodeMatchesReference.f
  refine Ev.bind awake_ev ?_
  simp only [if_true]
  by_cases h1 : (bad.length : Int) > 20
  · simp only [h1, if_true]
    exact Ev.step (fun k => by simp only [privitylaw15_ViewEncodeMatchesReference.j0, if_true]) (Ev.now _)
  · simp only [h1, if_false]
    by_cases h2 : (vs.length : Int) > 6
    · simp only [h2, decide_true]
      exact Ev.step (fun k => by simp only [privitylaw15_ViewEncodeMatchesReference.j0, if_true]) (Ev.now _)
    · simp only [h2, decide_false]
      refine Ev.step (fun k => by simp only [privitylaw15_ViewEncodeMatchesReference.j0, Bool.false_eq_true, if_false] <;> rfl) ?_
      exact em_l0 bad vs (by omega) (by omega) hg vs.length 0 (by omega) (by omega) (fun j hj h => by omega)

end Go.Proofs.Ytojbfgaipkllbaa.P
