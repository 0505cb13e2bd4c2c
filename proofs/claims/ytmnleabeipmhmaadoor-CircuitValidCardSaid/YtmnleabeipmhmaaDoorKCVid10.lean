/- What is proved here: a part of the proof of CircuitValid: Px4, Px1. No conditions beside those that each theorem states. -/
import Derived.Test.YtmnleabeipmhmaaDoorKCVid5
import Derived.Test.YtmnleabeipmhmaaDoorKCVid9
section
namespace Go.Proofs.YtmnleabeipmhmaaDoor.P
open Go.RowKit Go.Proofs.YtmnleabeipmhmaaDoorW.PrintWords Go.Proofs.YtmnleabeipmhmaaDoorW.PrintLast Go.Proofs.YtmnleabeipmhmaaDoorW.PrintMore
attribute [local go_sem] zb0 zbz zb8 zb9 zbt zbs zb2 zb1   -- for this text's walks alone
set_option linter.unusedVariables false
set_option linter.unusedSimpArgs false
def zbp.f (k : Nat) (a0 : Int) : Option (Bool) := (za6.f k a0).bind fun t110 => (some (decide (t110 > 0)))
set_option maxHeartbeats 8000000 in
set_option maxRecDepth 100000 in
theorem zbp.calls (k : Nat) (a0 : Int) (r : Bool) (w : World) (h : zbp.f k a0 = some r) :
    Calls Tryd.prog 27 #[.int .u64 a0] w fun e w' => e = .returned (.bool r) ∧ Below w.heap.size w w' := by
  have HB := Aside0.mk (Below.refl w.heap.size w); have H : ((za6.f k a0).bind fun t110 => (some (decide (t110 > 0)))) = some r := h; clear h; replace H := Option.bind_eq_some_iff.mp H; obtain ⟨t110, A20, H⟩ := H; replace H : (some (decide (t110 > 0))) = some r := H; have A2 := Aside0.mk A20; clear A20; obtain rfl := Option.some.inj H; go_enter Tryd.func27, Tryd.ntmps27
  go_wp2_with (first | ((with_reducible refine zb5 (f := 53) rfl ?_); refine goesL_ (some 4) rfl rfl Tryd.func53 (by kernel_rfl) rfl #[.int .u64 a0] rfl zt ?_; (with_reducible refine (za6.calls k a0 t110 _ A2.out).mono ?_); rintro e w3 ⟨rfl, hb⟩; refine ⟨_, rfl, ?_⟩; have n0_ := Aside0.mk (zaj (zs0 HB) hb); clear HB; have HB := n0_; clear n0_; (try clear hb); (try clear hb2); (try clear hk); (try clear hi)))
  go_ret; exact ⟨by first | rfl | (simp [zan, zao] <;> rfl) | (simp [*, zan, zao] <;> rfl), zs0 HB⟩
end Go.Proofs.YtmnleabeipmhmaaDoor.P
end
section
namespace Go.Proofs.YtmnleabeipmhmaaDoor.P
open Go.RowKit Go.Proofs.YtmnleabeipmhmaaDoorW.PrintWords Go.Proofs.YtmnleabeipmhmaaDoorW.PrintLast Go.Proofs.YtmnleabeipmhmaaDoorW.PrintMore
attribute [local go_sem] zb0 zbz zb8 zb9 zbt zbs zb2 zb1   -- for this text's walks alone
set_option linter.unusedVariables false
set_option linter.unusedSimpArgs false
theorem eqA43 (d : Nat) (w : World) (x0 y0 : Int) (x1 y1 : Int) (x2 y2 : Int) (x3 y3 : Int) (x4 y4 : Int) :
    (Op.equalIn (d + 2) 43 (.agg #[.int .i64 x0, .int .i64 x1, .int .i64 x2, .int .i64 x3, .int .u64 x4]) (.agg #[.int .i64 y0, .int .i64 y1, .int .i64 y2, .int .i64 y3, .int .u64 y4])).run Tryd.prog w = .ok (x0 == y0 && (x1 == y1 && (x2 == y2 && (x3 == y3 && (x4 == y4))))) w := by
  refine eqA_of Tryd.underlying43 (by kernel_rfl) ?_; refine eqf_cons (by rfl) (by go_simp; rfl) (by go_simp; rfl) (by go_simp) ?_; refine eqf_cons (by rfl) (by go_simp; rfl) (by go_simp; rfl) (by go_simp) ?_; refine eqf_cons (by rfl) (by go_simp; rfl) (by go_simp; rfl) (by go_simp) ?_; refine eqf_cons (by rfl) (by go_simp; rfl) (by go_simp; rfl) (by go_simp) ?_; exact eqf_last (by rfl) (by go_simp; rfl) (by go_simp; rfl) (by go_simp)
end Go.Proofs.YtmnleabeipmhmaaDoor.P
end
