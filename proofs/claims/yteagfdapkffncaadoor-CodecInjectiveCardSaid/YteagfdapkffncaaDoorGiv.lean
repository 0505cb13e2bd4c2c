/- What is proved: the contract of codec.EncodeWords in the form that the printed functions take it in. -/
import Derived.Test.YteagfdapkffncaaDoorGat
import Derived.Test.YteagfdapkffncaaDoorEnc
set_option linter.unusedVariables false
namespace Go.Proofs.YteagfdapkffncaaDoor.P
open Go.RowKit Go.Proofs.YteagfdapkffncaaDoorW.PrintWords

def codec_EncodeWords.f (l0 : List Int) : Option ByteArray := if gate (decide (l0.length * 8 ≤ 140737488355328)) 1 = true then some ⟨(Enc.enc l0).toArray⟩ else none
theorem codec_EncodeWords.calls (A0 : Option Addr) (c0 : Nat) (l0 : List Int) (r : ByteArray) (w : World) (hr0 : Kd.C (Kd.int .u64) w A0 l0.length l0) (hc0 : l0.length ≤ c0) (h : codec_EncodeWords.f l0 = some r) :
    Calls Tryd.prog 13 #[.slice A0 l0.length c0] w fun e w' => e = .returned (.string r) ∧ Below w.heap.size w w' := by
  unfold codec_EncodeWords.f at h
  split at h
  · next hl =>
    rw [gate_eq, decide_eq_true_eq] at hl
    cases h
    refine Enc.EncodeWords_calls A0 c0 l0 w (fun k hk => ?_) hl
    obtain ⟨_, _, hc⟩ := hr0
    obtain ⟨ad, e, hcell⟩ := hc (by omega)
    obtain ⟨cs, hs, hK, hcs⟩ := hcell k l0[k] (List.getElem?_eq_getElem hk)
    have hK' : cs = [.int .u64 l0[k]] := hK
    subst hK'
    refine ⟨ad, e, ?_⟩
    have := hcs 0 _ rfl
    rw [show k * (Kd.int IntKind.u64).sz + 0 = k from Nat.mul_one k] at this
    rw [this, List.getD_eq_getElem?_getD, List.getElem?_eq_getElem hk, Option.getD_some]
  · cases h
end Go.Proofs.YteagfdapkffncaaDoor.P
