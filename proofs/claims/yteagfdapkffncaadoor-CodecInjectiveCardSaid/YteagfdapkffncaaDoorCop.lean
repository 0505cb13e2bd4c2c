/- What is proved: how an argument of type [][]uint64 or []uint64 reads at this seat's translation: as rows of words, each in the range of its kind. -/
import Derived.Test.YteagfdapkffncaaDoorOpn
import Derived.Test.YteagfdapkffncaaDoorCla
set_option linter.unusedVariables false
namespace Go.Proofs.YteagfdapkffncaaDoor.P
open Go.RowKit Go.Proofs.YteagfdapkffncaaDoorW.PrintWords Go.Proofs.YteagfdapkffncaaDoor.Opn
variable {H : Type} {enc : TypeId × Value → H} {w : World}

theorem opens_rows : Opens enc Tryd.prog w 0 true 36 (Kd.slice 22 (Kd.slice 31 (Kd.int .u64))) (fun v => Arg v) := by
  intro fuel cs x h hz
  obtain ⟨a, hK, h1, h2⟩ := opens_slice (B := 24) Tryd.underlying36 (by kernel_rfl) (by kernel_rfl)
    (opens_slice (B := 8) Tryd.underlying22 (by kernel_rfl) (by kernel_rfl) (opens_int Tryd.underlying31)) fuel cs x h hz
  exact ⟨a, hK, by omega, fun r hr => ⟨by have := (h1 r hr).2; omega, fun y hy => u64_of_wf ((h1 r hr).1 y hy)⟩⟩
theorem opens_words : Opens enc Tryd.prog w 0 true 22 (Kd.slice 31 (Kd.int .u64)) (fun v => ∀ x ∈ v, (Lit.int .u64 x).wf = true) := by
  intro fuel cs x h hz
  obtain ⟨a, hK, h1, h2⟩ := opens_slice (B := 8) Tryd.underlying22 (by kernel_rfl) (by kernel_rfl) (opens_int Tryd.underlying31) fuel cs x h hz
  exact ⟨a, hK, h1⟩
theorem u16_lo {c : Int} (hc : (Lit.int .u16 c).wf = true) : 0 ≤ c := by
  simp [Lit.wf, IntKind.min, IntKind.max, IntKind.bits, IntKind.signed] at hc; omega
theorem u16_hi {c : Int} (hc : (Lit.int .u16 c).wf = true) : c < 65536 := by
  simp [Lit.wf, IntKind.min, IntKind.max, IntKind.bits, IntKind.signed] at hc; omega
end Go.Proofs.YteagfdapkffncaaDoor.P
