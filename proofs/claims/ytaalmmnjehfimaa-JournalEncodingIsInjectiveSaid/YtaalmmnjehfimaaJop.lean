/- What is proved: how an argument of type [][]uint64, read as data, is told as a value of the printed kinds. -/
import Derived.Test.YtaalmmnjehfimaaOpn
import Derived.Test.YtaalmmnjehfimaaJc
set_option linter.unusedVariables false
namespace Go.Proofs.Ytaalmmnjehfimaa.P
open Go.RowKit Go.Proofs.YtaalmmnjehfimaaW.PrintWords Go.Proofs.Ytaalmmnjehfimaa.Opn
variable {H : Type} {enc : TypeId × Value → H} {w : World}

theorem opens_rows : Opens enc Try.prog w 0 true 22 (Kd.slice 27 (Kd.slice 39 (Kd.int .u64))) (fun v => Arg v) := by
  intro fuel cs x h hz
  obtain ⟨a, hK, h1, h2⟩ := opens_slice (B := 24) Try.underlying22 (by kernel_rfl) (by kernel_rfl)
    (opens_slice (B := 8) Try.underlying27 (by kernel_rfl) (by kernel_rfl) (opens_int Try.underlying39)) fuel cs x h hz
  exact ⟨a, hK, by omega, fun r hr => ⟨by have := (h1 r hr).2; omega, fun y hy => u64_of_wf ((h1 r hr).1 y hy)⟩⟩
end Go.Proofs.Ytaalmmnjehfimaa.P
