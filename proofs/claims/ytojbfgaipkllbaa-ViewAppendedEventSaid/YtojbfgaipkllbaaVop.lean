/- What is proved: how arguments of the types []int, View and []View, read as data, are told as values of the printed kinds. -/
import Derived.Test.YtojbfgaipkllbaaOpn
import Derived.Test.YtojbfgaipkllbaaAwk
set_option linter.unusedVariables false
namespace Go.Proofs.Ytojbfgaipkllbaa.P
open Go.RowKit Go.Proofs.YtojbfgaipkllbaaW.PrintWords Go.Proofs.Ytojbfgaipkllbaa.Opn
variable {H : Type} {enc : TypeId × Value → H} {w : World}

theorem opens_event : Opens enc Try.prog w 0 true 36 k36 (fun x => (Lit.int .i64 x.f0).wf = true ∧ (Lit.int .i64 x.f1).wf = true ∧ (∀ n ∈ x.f2, (Lit.int .u64 n).wf = true) ∧ x.f2.length * 8 ≤ 140737488351232) :=
  opens_struct (fun x : Ve => (x.f0, x.f1, x.f2)) (fun p => ⟨p.1, p.2.1, p.2.2⟩) Try.underlying36 (by kernel_rfl) (fun _ => rfl)
    (opensF_cons rfl (by kernel_rfl) (opens_int Try.underlying3) (opensF_cons rfl (by kernel_rfl) (opens_int Try.underlying3)
      (opensF_one rfl (by kernel_rfl) (opens_slice Try.underlying34 (by kernel_rfl) (by kernel_rfl) (opens_int Try.underlying39)))))
theorem opens_view : Opens enc Try.prog w 0 true 27 (Kd.slice 36 k36) (fun v => GoodV v) := by
  intro fuel cs x h hz
  obtain ⟨a, hK, h1, h2⟩ := opens_slice (B := 40) Try.underlying27 (by kernel_rfl) (by kernel_rfl) opens_event fuel cs x h hz
  refine ⟨a, hK, by omega, fun e he => ?_, fun e he => ?_⟩
  · have := (h1 e he).2.2.2; omega
  · obtain ⟨g0, g1, g2, _⟩ := h1 e he
    exact ⟨i64_of_wf g0, i64_of_wf g1, fun n hn => u64_of_wf (g2 n hn)⟩
theorem opens_views : Opens enc Try.prog w 0 true 23 (Kd.slice 27 (Kd.slice 36 k36)) (fun vs => ∀ v ∈ vs, GoodV v) := by
  intro fuel cs x h hz
  obtain ⟨a, hK, h1, _⟩ := opens_slice (B := 24) Try.underlying23 (by kernel_rfl) (by kernel_rfl) opens_view fuel cs x h hz
  exact ⟨a, hK, h1⟩
theorem opens_ints : Opens enc Try.prog w 0 true 22 (Kd.slice 3 (Kd.int .i64)) (fun l => (∀ n ∈ l, (Lit.int .i64 n).wf = true) ∧ l.length * 8 ≤ 140737488351232) :=
  opens_slice Try.underlying22 (by kernel_rfl) (by kernel_rfl) (opens_int Try.underlying3)
end Go.Proofs.Ytojbfgaipkllbaa.P
