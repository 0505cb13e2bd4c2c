/- What is proved: how arguments of the types [][]uint64 and [2]uint16, read as data, are told as rows and as two numbers. -/
import Derived.Test.YtaalmmnjehfimaaOpn
import Derived.Test.YtaalmmnjehfimaaJc
import Derived.OpenShut
import Derived.WideShapes
set_option linter.unusedVariables false
namespace Go.Proofs.Ytaalmmnjehfimaa.P
open Go.RowKit Go.Proofs.YtaalmmnjehfimaaW.PrintWords Go.Proofs.Ytaalmmnjehfimaa.Opn
variable {H : Type} {enc : TypeId × Value → H} {w : World}

theorem opens_rows : Opens enc Try.prog w 0 true 22 (Kd.slice 27 (Kd.slice 39 (Kd.int .u64))) (fun v => Arg v) := by
  intro fuel cs x h hz
  obtain ⟨a, hK, h1, h2⟩ := opens_slice (B := 24) Try.underlying22 (by kernel_rfl) (by kernel_rfl)
    (opens_slice (B := 8) Try.underlying27 (by kernel_rfl) (by kernel_rfl) (opens_int Try.underlying39)) fuel cs x h hz
  exact ⟨a, hK, by omega, fun r hr => ⟨by have := (h1 r hr).2; omega, fun y hy => u64_of_wf ((h1 r hr).1 y hy)⟩⟩
theorem opens_pair : ∀ (fuel : Nat) (cs : List Value) (x : DataW H × List MemPlace), DataW.trod enc Try.prog w 0 (fun _ => true) true fuel 35 cs = some x → (DataW.weights Try.prog 35 x.1).all (· ≤ reachBytes) = true →
    ∃ a : Int × Int, cs = [.int .u16 a.1, .int .u16 a.2] ∧ ((Lit.int .u16 a.1).wf = true ∧ (Lit.int .u16 a.2).wf = true) := by
  intro fuel cs x h _
  obtain ⟨xs, m, rfl, rfl, hl, hx, hm⟩ := DataW.trod_array Try.underlying35 h
  have hc : Try.prog.cellsOf 33 = 1 := by kernel_rfl
  have hc2 : Try.prog.cellsOf 35 = 2 := by kernel_rfl
  rw [hc2] at hl
  rw [hc] at hm
  match cs, hl with
  | [u, v], _ =>
    match xs, hx with
    | [y, z], _ =>
      have h0 := hm 0 (by decide)
      have h1 := hm 1 (by decide)
      obtain ⟨a, e1, _, w1⟩ := DataW.trod_int (x := y) Try.underlying33 h0
      obtain ⟨b, e2, _, w2⟩ := DataW.trod_int (x := z) Try.underlying33 h1
      simp at e1 e2
      subst e1
      subst e2
      exact ⟨(a, b), rfl, w1, w2⟩
theorem okWide_array2 {P : Program} {t e : TypeId} {n : Nat} {r : Reach} {b0 : Nat} {v : Value} (ht : P.underlying t = some (.array n e)) (h : Value.okWide P w r b0 t v) : ∃ xs : Array Value, v = .agg xs ∧ True := by
  simp only [Value.okWide, ht] at h
  obtain ⟨cs, h1, _⟩ := h
  exact ⟨cs, h1, trivial⟩
end Go.Proofs.Ytaalmmnjehfimaa.P
