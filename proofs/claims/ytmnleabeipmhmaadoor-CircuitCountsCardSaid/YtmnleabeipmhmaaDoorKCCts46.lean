/- What is proved here: a part of the proof of CircuitCounts: Cio, CcCircuitCounts. No conditions beside those that each theorem states. -/
import Derived.Test.YtmnleabeipmhmaaDoorKCCts1
import Derived.Test.YtmnleabeipmhmaaDoorKCCts5
import Derived.Test.YtmnleabeipmhmaaDoorKCCts44
import Derived.Test.YtmnleabeipmhmaaDoorKCCts45
section
set_option linter.unusedVariables false
namespace Go.Proofs.YtmnleabeipmhmaaDoor.P
open Go.RowKit Go.Proofs.YtmnleabeipmhmaaDoorW.PrintWords Go.Proofs.YtmnleabeipmhmaaDoor.Opn
variable {H : Type} {enc : TypeId × Value → H} {w : World}
structure SC where
  P : Int
  gs : List S43
  os : List Int
def kC : Kd SC := Kd.iso (Kd.pair (Kd.int .u64) (Kd.pair (Kd.slice 43 k43) (Kd.slice 3 (Kd.int .i64)))) (fun x : SC => (x.P, x.gs, x.os))
theorem kC_open {w : World} {x : SC} {cs : List Value} (h : kC.K w x cs) : ∃ A0 c0 A1 c1, cs = [.int .u64 x.P, .slice A0 x.gs.length c0, .slice A1 x.os.length c1] ∧ x.gs.length ≤ c0 ∧ Kd.C k43 w A0 x.gs.length x.gs ∧ x.os.length ≤ c1 ∧ Kd.C (Kd.int .i64) w A1 x.os.length x.os := by
  obtain ⟨_, _, rfl, rfl, ⟨_, _, rfl, ⟨A0, c0, rfl, hc0, hC0⟩, ⟨A1, c1, rfl, hc1, hC1⟩⟩⟩ := h
  exact ⟨A0, c0, A1, c1, rfl, hc0, hC0, hc1, hC1⟩
theorem opens_gate : Opens enc Tryd.prog w 0 true 43 k43 (fun x => 0 ≤ x.f4) := by
  intro fuel cs x h hz
  obtain ⟨a, hK, _, _, _, _, h4⟩ := opens_struct (fun x : S43 => (x.f0, x.f1, x.f2, x.f3, x.f4)) (fun p => ⟨p.1, p.2.1, p.2.2.1, p.2.2.2.1, p.2.2.2.2⟩) Tryd.underlying43 (by kernel_rfl) (fun _ => rfl)
    (opensF_cons rfl (by kernel_rfl) (opens_int Tryd.underlying3) (opensF_cons rfl (by kernel_rfl) (opens_int Tryd.underlying3) (opensF_cons rfl (by kernel_rfl) (opens_int Tryd.underlying3) (opensF_cons rfl (by kernel_rfl) (opens_int Tryd.underlying3)
      (opensF_one rfl (by kernel_rfl) (opens_int Tryd.underlying22)))))) fuel cs x h hz
  refine ⟨a, hK, ?_⟩
  have h5 : (Lit.int .u64 a.f4).wf = true := h4
  simp [Lit.wf, IntKind.min, IntKind.max, IntKind.bits, IntKind.signed] at h5
  omega
theorem opens_circuit : Opens enc Tryd.prog w 0 true 26 kC (fun x => ∀ g ∈ x.gs, 0 ≤ g.f4) := by
  intro fuel cs x h hz
  obtain ⟨a, hK, _, h2, _⟩ := opens_struct (fun x : SC => (x.P, x.gs, x.os)) (fun p => ⟨p.1, p.2.1, p.2.2⟩) Tryd.underlying26 (by kernel_rfl) (fun _ => rfl)
    (opensF_cons rfl (by kernel_rfl) (opens_int Tryd.underlying22) (opensF_cons rfl (by kernel_rfl) (opens_slice (B := 40) Tryd.underlying23 (by kernel_rfl) (by kernel_rfl) opens_gate)
      (opensF_one rfl (by kernel_rfl) (opens_slice (B := 8) Tryd.underlying24 (by kernel_rfl) (by kernel_rfl) (opens_int Tryd.underlying3))))) fuel cs x h hz
  exact ⟨a, hK, h2.1⟩
end Go.Proofs.YtmnleabeipmhmaaDoor.P
end
section
set_option linter.unusedVariables false
set_option linter.unusedSimpArgs false
namespace Go.Proofs.YtmnleabeipmhmaaDoor.P
open Go.RowKit Go.Proofs.YtmnleabeipmhmaaDoorW.PrintWords Go.Proofs.YtmnleabeipmhmaaDoorW.PrintLast Go.Proofs.YtmnleabeipmhmaaDoorW.PrintMore
theorem counts_ev (P : Int) (gs : List GT) (os : List Int) (q : Int) (hu : ∀ g ∈ gs, 0 ≤ g.f4) : Ev (fun k => privitylaw32_CircuitCounts.f k P gs os q) true := by
  unfold privitylaw32_CircuitCounts.f
  rw [show (300 : Int) = ((300 : Nat) : Int) from rfl, few_c]
  simp only [Option.bind_some]
  have aw : Ev (fun k => privitylaw32_CircuitCounts.j0 k q true P gs os) true := Ev.step (f := fun _ => some true) (fun k => by simp only [privitylaw32_CircuitCounts.j0, awake_f]; rfl) (Ev.now _)
  by_cases hf : gs.length ≤ 300 ∧ os.length ≤ 300
  · refine Ev.congr (fun k => if_pos (decide_eq_true hf)) ?_
    refine Ev.bind (refValid P gs os hu (by omega) (by omega)) ?_
    cases hv : validF P gs os with
    | false => exact aw
    | true =>
      have hg := (valid_good P gs os hu).1 hv
      refine Ev.step (fun k => by simp only [privitylaw32_CircuitCounts.j0, awake_f, in_c, mul_c, depth_c hg, Option.bind_some, Bool.not_true, Bool.false_eq_true, if_false, if_true]; rfl) ?_
      refine Ev.bind (refIn P gs os q (by omega)) (Ev.congr (fun k => if_pos rfl) ?_)
      refine Ev.bind (refMul P gs os (by omega)) (Ev.congr (fun k => if_pos rfl) ?_)
      refine Ev.bind (refDepth hg) ?_
      simp only [beq_self_eq_true]
      exact Ev.now _
  · exact Ev.congr (fun k => if_neg (by simpa using hf)) aw
end Go.Proofs.YtmnleabeipmhmaaDoor.P
end
