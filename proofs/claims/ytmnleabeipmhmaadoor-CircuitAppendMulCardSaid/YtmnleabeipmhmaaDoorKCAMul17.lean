/- What is proved here: a part of the proof of CircuitAppendMul: Cgf, Cga. No conditions beside those that each theorem states. -/
import Derived.Test.YtmnleabeipmhmaaDoorKCAMul12
import Derived.Test.YtmnleabeipmhmaaDoorKCAMul16
import Derived.Test.YtmnleabeipmhmaaDoorKCAMul6
import Derived.Test.YtmnleabeipmhmaaDoorKCAMul11
import Derived.Test.YtmnleabeipmhmaaDoorKCAMul13
import Derived.Test.YtmnleabeipmhmaaDoorKCAMul14
import Derived.Test.YtmnleabeipmhmaaDoorKCAMul15
section
set_option linter.unusedVariables false
set_option linter.unusedSimpArgs false
namespace Go.Proofs.YtmnleabeipmhmaaDoor.P
open Go.RowKit Go.Proofs.YtmnleabeipmhmaaDoorW.PrintWords Go.Proofs.YtmnleabeipmhmaaDoorW.PrintLast Go.Proofs.YtmnleabeipmhmaaDoorW.PrintMore
attribute [local go_sem high] eqA43
set_option maxHeartbeats 4000000 in
set_option maxRecDepth 100000 in
theorem gate_two (p at_ b c d e : Int) (w : World) :
    Calls Tryd.prog 28 #[.int .u64 p, .int .i64 at_, .agg #[.int .i64 2, .int .i64 b, .int .i64 c, .int .i64 d, .int .u64 e]] w
      fun r w' => r = .returned (.bool (if (b == 0 && (c == 0 && (d == 0))) = true then decide (e < p) else false)) ∧ Below w.heap.size w w' := by
  have hu := Tryd.underlying43
  have hB0 := zao (Below.refl w.heap.size w) (.cells #[.int .i64 2, .int .i64 b, .int .i64 c, .int .i64 d, .int .u64 e] 43)
  have hx0 := heap_alloc_new w (.cells #[.int .i64 2, .int .i64 b, .int .i64 c, .int .i64 d, .int .u64 e] 43)
  have hs0 := zcq w (.cells #[.int .i64 2, .int .i64 b, .int .i64 c, .int .i64 d, .int .u64 e] 43)
  go_enter Tryd.func28, Tryd.ntmps28
  go_upto_region 1 with (fail)
  generalize w.alloc (.cells #[.int .i64 2, .int .i64 b, .int .i64 c, .int .i64 d, .int .u64 e] 43) = w1 at *
  have g0 : w1.cell? ⟨w.heap.size, 0, none⟩ = some (.int .i64 2) := zak hx0 0
  have HX0 := Lib.hid hx0
  have HB0 := Lib.hid hB0
  have hne : Hid (w1.heap.size ≠ w.heap.size) := Lib.hid (by omega)
  clear hs0
  clear hx0 hB0
  go_upto_region 7 with (
    refine wpList_store_row rfl 43 (.tmp 7) (.tmp 10) rfl w1.heap.size #[.int .i64 2, .int .i64 0, .int .i64 0, .int .i64 0, .int .u64 0] ?e1 ?e2 43 #[.int .i64 0, .int .i64 0, .int .i64 0, .int .i64 0, .int .u64 0] (heap_alloc_new w1 _) ?e4 ?e5 ?e6 ?_
    (case e1 => rfl)
    (case e2 => rfl)
    (case e4 => kernel_rfl)
    (case e5 => rfl)
    (case e6 => simp [Value.oneCell'])
    rw [World.setRow_alloc_new]
    have hnw := heap_alloc_new w1 (.cells #[.int .i64 2, .int .i64 0, .int .i64 0, .int .i64 0, .int .u64 0] 43)
    have hb2 := zao (Below.refl w1.heap.size w1) (.cells #[.int .i64 2, .int .i64 0, .int .i64 0, .int .i64 0, .int .u64 0] 43)
    have HX2 := Lib.hid (zbl HX0.out hb2)
    have HB2 := Lib.hid (HB0.out.trans (hb2.mono HB0.out.size))
    have hle : w.heap.size ≤ w1.heap.size := HB0.out.size
    generalize w1.alloc (.cells #[.int .i64 2, .int .i64 0, .int .i64 0, .int .i64 0, .int .u64 0] 43) = w2 at *
    generalize w1.heap.size = q at *
    have HN2 := Lib.hid hnw
    clear hnw hb2 HX0 HB0 g0
    have g0 : w2.cell? ⟨w.heap.size, 0, none⟩ = some (.int .i64 2) := zak HX2.out 0)
  have g4 : w2.cell? ⟨w.heap.size, 4, none⟩ = some (.int .u64 e) := zak HX2.out 4
  have n4 : w2.cell? ⟨q, 4, none⟩ = some (.int .u64 0) := zak HN2.out 4
  have f4 : w2.frozen? ⟨q, 4, none⟩ = false := zaa HN2.out 4
  go_upto_region 8 with (
    (with_reducible refine zbj (t := 22) (p := 43) rfl ?_)
    refine zbn (t := 22) (p := 43) (v := .tmp 42) (w1 := w2.setCell ⟨q, 4, none⟩ (.int .u64 e)) ?hg ?ho ?hn ?hr ?_
    (case ho => rfl)
    (case hg => rfl)
    (case hn => rfl)
    (case hr => first | (go_simp; done) | (go_simp; rfl))
    intro w3 hw
    have hn3 : w3.heap[q]? = some (.cells #[.int .i64 2, .int .i64 0, .int .i64 0, .int .i64 0, .int .u64 e] 43 (0, 0)) := by rw [hw]; exact zap HN2.out 4 _ (by rfl)
    have hx3 : w3.heap[w.heap.size]? = some (.cells #[.int .i64 2, .int .i64 b, .int .i64 c, .int .i64 d, .int .u64 e] 43 (0, 0)) := by rw [hw]; exact zaq HX2.out (Ne.symm hne.out) _
    have hb3 : Below w.heap.size w w3 := by rw [hw]; exact HB2.out.setCell (p := ⟨q, 4, none⟩) hle _
    clear hw g0 g4 n4 f4 HN2 HX2 HB2
    have HX3 := Lib.hid hx3
    have HN3 := Lib.hid hn3
    have HB3 := Lib.hid hb3
    clear hn3 hx3 hb3)
  have g4 : w3.cell? ⟨w.heap.size, 4, none⟩ = some (.int .u64 e) := zak HX3.out 4
  cases hq : (b == 0 && (c == 0 && (d == 0)))
  · go_wp2_with (first
      | (refine wpList_load_row rfl 43 (.tmp 5) rfl w.heap.size rfl 43 #[.int .i64 2, .int .i64 b, .int .i64 c, .int .i64 d, .int .u64 e] (0, 0) _ HX3.out Tryd.underlying43 rfl (by kernel_rfl) ?_)
      | (refine wpList_load_row rfl 43 (.tmp 7) rfl q rfl 43 #[.int .i64 2, .int .i64 0, .int .i64 0, .int .i64 0, .int .u64 e] (0, 0) _ HN3.out Tryd.underlying43 rfl (by kernel_rfl) ?_))
    all_goals
      go_ret
      exact ⟨by first | rfl | simp [hq] | simp_all, HB3.out⟩
  · cases hl : decide (e < p)
    · go_wp2_with (first
        | (refine wpList_load_row rfl 43 (.tmp 5) rfl w.heap.size rfl 43 #[.int .i64 2, .int .i64 b, .int .i64 c, .int .i64 d, .int .u64 e] (0, 0) _ HX3.out Tryd.underlying43 rfl (by kernel_rfl) ?_)
        | (refine wpList_load_row rfl 43 (.tmp 7) rfl q rfl 43 #[.int .i64 2, .int .i64 0, .int .i64 0, .int .i64 0, .int .u64 e] (0, 0) _ HN3.out Tryd.underlying43 rfl (by kernel_rfl) ?_))
      all_goals
        go_ret
        exact ⟨by first | rfl | simp [hq, hl] | simp_all, HB3.out⟩
    · go_wp2_with (first
        | (refine wpList_load_row rfl 43 (.tmp 5) rfl w.heap.size rfl 43 #[.int .i64 2, .int .i64 b, .int .i64 c, .int .i64 d, .int .u64 e] (0, 0) _ HX3.out Tryd.underlying43 rfl (by kernel_rfl) ?_)
        | (refine wpList_load_row rfl 43 (.tmp 7) rfl q rfl 43 #[.int .i64 2, .int .i64 0, .int .i64 0, .int .i64 0, .int .u64 e] (0, 0) _ HN3.out Tryd.underlying43 rfl (by kernel_rfl) ?_))
      all_goals
        go_ret
        exact ⟨by first | rfl | simp [hq, hl] | simp_all, HB3.out⟩
end Go.Proofs.YtmnleabeipmhmaaDoor.P
end
section
namespace Go.Proofs.YtmnleabeipmhmaaDoor.P
open Go.RowKit Go.Proofs.YtmnleabeipmhmaaDoorW.PrintWords Go.Proofs.YtmnleabeipmhmaaDoorW.PrintLast Go.Proofs.YtmnleabeipmhmaaDoorW.PrintMore
attribute [local go_sem] zb4 zb2 zcg zcf zby zbz zb6 zb5   -- for this text's walks alone
set_option linter.unusedVariables false
set_option linter.unusedSimpArgs false
attribute [local go_sem high] eqA43
set_option maxHeartbeats 8000000 in
set_option maxRecDepth 100000 in
theorem zai.calls (a0 : Int) (a1 : Int) (a2_0 : Int) (a2_1 : Int) (a2_2 : Int) (a2_3 : Int) (a2_4 : Int) (r : Bool) (w : World) (h : zai.f a0 a1 a2_0 a2_1 a2_2 a2_3 a2_4 = some r) :
    Calls Tryd.prog 28 #[.int .u64 a0, .int .i64 a1, .agg #[.int .i64 a2_0, .int .i64 a2_1, .int .i64 a2_2, .int .i64 a2_3, .int .u64 a2_4]] w fun e w' => e = .returned (.bool r) ∧ Below w.heap.size w w' := by
  have hu43 := Tryd.underlying43
  have HB := Aside0.mk (Below.refl w.heap.size w)
  have H : (if a2_0 = 1 then (if (a2_2 == 0 && (a2_3 == 0)) = true then (if a2_1 ≥ 1 then (if a2_1 ≤ 13 then (some (decide (a2_4 ≤ 1))) else (some false)) else (some false)) else (some false)) else (if a2_0 = 2 then (if (a2_1 == 0 && (a2_2 == 0 && (a2_3 == 0))) = true then (some (decide (a2_4 < a0))) else (some false)) else (if a2_0 = 5 then (if (a2_1 == 0 && (a2_3 == 0)) = true then (if a2_4 < a0 then (if a2_2 ≥ 0 then (some (decide (a2_2 < a1))) else (some false)) else (some false)) else (some false)) else (if a2_0 = 3 then (if (a2_1 == 0 && (a2_4 == 0)) = true then (if a2_2 ≥ 0 then (if a2_2 < a1 then (if a2_3 ≥ 0 then (some (decide (a2_3 < a1))) else (some false)) else (some false)) else (some false)) else (some false)) else (if a2_0 = 4 then (if (a2_1 == 0 && (a2_4 == 0)) = true then (if a2_2 ≥ 0 then (if a2_2 < a1 then (if a2_3 ≥ 0 then (some (decide (a2_3 < a1))) else (some false)) else (some false)) else (some false)) else (some false)) else (if a2_0 = 6 then (if (a2_1 == 0 && (a2_4 == 0)) = true then (if a2_2 ≥ 0 then (if a2_2 < a1 then (if a2_3 ≥ 0 then (some (decide (a2_3 < a1))) else (some false)) else (some false)) else (some false)) else (some false)) else (some false))))))) = some r := h
  clear h
  by_cases c4 : a2_0 = 1
  · exact zai.callsE a0 a1 a2_0 a2_1 a2_2 a2_3 a2_4 r w  c4 H
  · rw [if_neg c4] at H
    have c4b0 : (a2_0 == 1) = false := beq_eq_false_iff_ne.mpr c4
    have c4b1 : (a2_0 != 1) = true := bne_iff_ne.mpr c4
    by_cases c56 : a2_0 = 2
    · rw [if_pos c56] at H
      subst c56
      refine (gate_two a0 a1 a2_1 a2_2 a2_3 a2_4 w).mono ?_
      rintro e w' ⟨rfl, hB⟩
      refine ⟨?_, hB⟩
      split at H <;> (cases H; simp [*])
    · rw [if_neg c56] at H
      have c56b0 : (a2_0 == 2) = false := beq_eq_false_iff_ne.mpr c56
      have c56b1 : (a2_0 != 2) = true := bne_iff_ne.mpr c56
      by_cases c70 : a2_0 = 5
      · exact zai.callsC a0 a1 a2_0 a2_1 a2_2 a2_3 a2_4 r w c4 c4b0 c4b1 c56 c56b0 c56b1 c70 H
      · rw [if_neg c70] at H
        have c70b0 : (a2_0 == 5) = false := beq_eq_false_iff_ne.mpr c70
        have c70b1 : (a2_0 != 5) = true := bne_iff_ne.mpr c70
        by_cases c122 : a2_0 = 3
        · exact zai.callsD a0 a1 a2_0 a2_1 a2_2 a2_3 a2_4 r w c4 c4b0 c4b1 c56 c56b0 c56b1 c70 c70b0 c70b1 c122 H
        · rw [if_neg c122] at H
          have c122b0 : (a2_0 == 3) = false := beq_eq_false_iff_ne.mpr c122
          have c122b1 : (a2_0 != 3) = true := bne_iff_ne.mpr c122
          exact zai.callsB a0 a1 a2_0 a2_1 a2_2 a2_3 a2_4 r w c4 c4b0 c4b1 c56 c56b0 c56b1 c70 c70b0 c70b1 c122 c122b0 c122b1 H
end Go.Proofs.YtmnleabeipmhmaaDoor.P
end
