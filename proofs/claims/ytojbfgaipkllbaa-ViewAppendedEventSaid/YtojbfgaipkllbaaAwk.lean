/- What is proved: the fixed results that every law on views checks first hold; so the law's first call answers true. -/
import Derived.Test.YtojbfgaipkllbaaPc
import Derived.Test.YtojbfgaipkllbaaPx8
set_option linter.unusedVariables false
set_option linter.unusedSimpArgs false
namespace Go.Proofs.Ytojbfgaipkllbaa.P
open Go.RowKit Go.Proofs.YtojbfgaipkllbaaW.PrintWords Go.Proofs.YtojbfgaipkllbaaW.PrintLast Go.Proofs.YtojbfgaipkllbaaW.PrintMore

theorem awake_ev : Ev (fun k => privitylaw15_awake.f k) true := by
  have e1 : view_Encode.f [] = some ⟨(Enc.enc [0]).toArray⟩ := encode_f _ (by decide)
  have e2 : view_Encode.f [(⟨0, 2, [5]⟩ : Ve)] = some ⟨(Enc.enc [1, 3, 0, 2, 5]).toArray⟩ := encode_f _ (by decide)
  have w1 := words_f [0] (by decide)
  have w2 := words_f [1, 3, 0, 2, 5] (by decide)
  have w3 := words_f [0, 1, 3, 0, 2, 5] (by decide)
  have fits : Fits [(⟨0, 2, [5]⟩ : Ve)] := ⟨by decide, fun e he => by simp at he; subst he; decide⟩
  have f1 := fd_ev [(⟨0, 2, [5]⟩ : Ve)] [] fits (by decide)
  have f2 := fd_ev [(⟨0, 2, [5]⟩ : Ve)] [(⟨0, 2, [5]⟩ : Ve)] fits (by decide)
  rw [show fd [(⟨0, 2, [5]⟩ : Ve)] [] = 0 from by decide] at f1
  rw [show fd [(⟨0, 2, [5]⟩ : Ve)] [(⟨0, 2, [5]⟩ : Ve)] = -1 from by decide] at f2
  have c1 := co_ev [2, 1, 3] [[(⟨0, 2, [5]⟩ : Ve)], []] 10 (by decide) (by decide) (by decide) (by decide) (fun v hv => by
    simp only [List.mem_cons, List.not_mem_nil, or_false] at hv
    rcases hv with rfl | rfl <;> decide)
  rw [show CB [2, 1, 3] [[(⟨0, 2, [5]⟩ : Ve)], []] = Enc.enc [0, 1, 3, 0, 2, 5] from rfl] at c1
  unfold privitylaw15_awake.f
  simp only [Option.bind_some, e1, e2, w1, w2, w3, if_true]
  refine Ev.bind f1 ?_
  simp only [if_true]
  refine Ev.bind f2 ?_
  simp only [if_true]
  refine Ev.bind c1 ?_
  simp only [beq_self_eq_true]
  exact Ev.now _

theorem privitylaw15_awake.calls (k : Nat) (r : Bool) (w : World) (h : privitylaw15_awake.f k = some r) :
    Calls Try.prog 10 #[] w fun e w' => e = .returned (.bool r) ∧ Below w.heap.size w w' := by
  obtain ⟨K, hK⟩ := awake_ev
  have h1 := hK (max K k) (Nat.le_max_left _ _)
  have h2 := at_rounds (g := fun k => privitylaw15_awake.f k) (fun k => privitylaw15_awake.mono k) (Nat.le_max_right K k) h
  exact privitylaw15_awake.callsT k r w (Option.some.inj (h2.symm.trans h1)) h

/-- What an argument of type View is known to be. -/
def GoodV (v : List Ve) : Prop := v.length ≤ 9223372036854775807 ∧ (∀ e ∈ v, e.f2.length ≤ 9223372036854775807) ∧ ∀ e ∈ v, Ok1 e
theorem GoodV.fits {v : List Ve} (h : GoodV v) : Fits v := ⟨h.1, h.2.1⟩

theorem few_small {v : List Ve} {a b : Nat} (h : few v a b = true) (hb : 1 + a * (b + 3) < 17592186044416) : (lw (v.map evw)).length < 17592186044416 := Nat.lt_of_le_of_lt (lw_few h) hb
theorem rdL4 (vs : List (List Ve)) (i : Nat) (h : i < vs.length) : rd_L4 vs (i : Int) = vs[i] := by simp [rd_L4, h]

end Go.Proofs.Ytojbfgaipkllbaa.P
