/- What is proved here: a part of the proof of CircuitParse: CcCircuitParse. No conditions beside those that each theorem states. -/
import Derived.Test.YtmnleabeipmhmaaDoorKCPse43
import Derived.Test.YtmnleabeipmhmaaDoorKCPse46
import Derived.Test.YtmnleabeipmhmaaDoorKCPse44
section
set_option linter.unusedVariables false
set_option linter.unusedSimpArgs false
namespace Go.Proofs.YtmnleabeipmhmaaDoor.P
open Go.RowKit Go.Proofs.YtmnleabeipmhmaaDoorW.PrintWords Go.Proofs.YtmnleabeipmhmaaDoorW.PrintLast Go.Proofs.YtmnleabeipmhmaaDoorW.PrintMore
theorem parse_ev (s : ByteArray) : Ev (fun k => privitylaw32_CircuitParse.f k s) true := by
  obtain ⟨l, rfl⟩ : ∃ l, s = mkB l := ⟨s.data.toList, (mkB_of s).symm⟩
  unfold privitylaw32_CircuitParse.f
  by_cases hs : ((mkB l).size : Int) > 3000
  · refine Ev.congr (fun k => if_pos hs) ?_
    simp only [awake_f]
    exact Ev.now _
  · refine Ev.congr (fun k => if_neg hs) ?_
    rw [mkB_size] at hs
    have h1 : zbo.f (mkB l) = some (zdl l) := parse_c l (by omega)
    rw [h1]
    simp only [Option.bind_some]
    have h2 : Ev (fun k => zax.f k (mkB l)) (zdl l) := refParseC l (by omega)
    refine Ev.bind h2 ?_
    refine Ev.congr (fun k => if_pos rfl) (Ev.congr (fun k => if_pos rfl) ?_)
    have hle : (zdl l).2.1.length ≤ 20000 ∧ (zdl l).2.2.1.length ≤ 1000 := by
      rcases parse_err l with h | h
      · obtain ⟨⟨P, gs, os, k, e⟩, hq⟩ : ∃ x, zdl l = x := ⟨_, rfl⟩
        rw [hq] at h
        simp only at h
        subst h
        have := (parse_ok hq).2.1
        rw [hq]
        exact ⟨this.n, this.m⟩
      · unfold zdl at h ⊢
        split
        · simp
        · next s hr =>
          split
          · next hc => rw [hr] at h; simp only at h; rw [if_pos hc] at h; simp at h
          · simp
    refine Ev.bind (refEqual _ _ _ _ _ _ (by omega) (by omega) true (by simp)) ?_
    have hb : (mkB l).toList = l := zda l
    rcases parse_err l with h | h
    · obtain ⟨⟨P, gs, os, k, e⟩, hq⟩ : ∃ x, zdl l = x := ⟨_, rfl⟩
      rw [hq] at h
      simp only at h
      subst h
      obtain ⟨_, hg, hl⟩ := parse_ok hq
      refine Ev.step (f := fun _ => some true) (fun k => ?_) (Ev.now _)
      simp only [privitylaw32_CircuitParse.j0, hq, format_c hg, awake_f, hb, Option.bind_some, ba_toList, ← hl, beq_self_eq_true]
      rfl
    · refine Ev.step (f := fun _ => some true) (fun k => ?_) (Ev.now _)
      simp only [privitylaw32_CircuitParse.j0, awake_f, h]
      rfl
end Go.Proofs.YtmnleabeipmhmaaDoor.P
end
