/- What is proved here: a part of the proof of CircuitAppendMul: Cco. No conditions beside those that each theorem states. -/
import Derived.Test.YtmnleabeipmhmaaDoorKCAMul16
import Derived.Test.YtmnleabeipmhmaaDoorKCAMul19
import Derived.Test.YtmnleabeipmhmaaDoorKCAMul6
import Derived.Laws.EntriesVeiled
import Derived.Deep.DeepCutAuto
import Derived.Deep.CutRange
section
set_option linter.unusedVariables false
set_option linter.unusedSimpArgs false
namespace Go.Proofs.YtmnleabeipmhmaaDoor.P
open Go.RowKit Go.Proofs.YtmnleabeipmhmaaDoorW.PrintWords Go.Proofs.YtmnleabeipmhmaaDoorW.PrintLast Go.Proofs.YtmnleabeipmhmaaDoorW.PrintMore
set_option maxHeartbeats 4000000 in
set_option maxRecDepth 100000 in
theorem isIn_calls (a b c d e q : Int) (p : Addr) (w : World) (hp : w.cell? p = some (.int .i64 q)) : Calls Tryd.prog 30 #[.agg #[.int .i64 a, .int .i64 b, .int .i64 c, .int .i64 d, .int .u64 e], .pointer (some p)] w
    fun r w' => r = .returned (.bool ((a == 1) && (b == q))) ∧ w' = w.alloc (.cells #[.int .i64 a, .int .i64 b, .int .i64 c, .int .i64 d, .int .u64 e] 43) := by
  have hlt := World.block_lt_of_cell? w _ hp
  go_enter Tryd.func30, Tryd.ntmps30
  cases h1 : (a == 1)
  · go_wp2_with fail
    go_ret
    exact ⟨by simp, by first | rfl | trivial⟩
  · cases h2 : (b == q)
    · go_wp2_with fail
      go_ret
      exact ⟨by simp, by first | rfl | trivial⟩
    · go_wp2_with fail
      go_ret
      exact ⟨by simp, by first | rfl | trivial⟩
set_option maxHeartbeats 4000000 in
set_option maxRecDepth 100000 in
theorem isMul_calls (a b c d e : Int) (w : World) : Calls Tryd.prog 31 #[.agg #[.int .i64 a, .int .i64 b, .int .i64 c, .int .i64 d, .int .u64 e]] w
    fun r w' => r = .returned (.bool (a == 6)) ∧ w' = w.alloc (.cells #[.int .i64 a, .int .i64 b, .int .i64 c, .int .i64 d, .int .u64 e] 43) := by
  go_enter Tryd.func31, Tryd.ntmps31
  go_wp2_with fail
  go_ret
  exact ⟨rfl, by first | rfl | trivial⟩
set_option maxHeartbeats 4000000 in
set_option maxRecDepth 100000 in
theorem countMul_calls (P : Int) (A0 : Option Addr) (c0 : Nat) (l0 : List S43) (A1 : Option Addr) (n1 c1 : Nat)  (w : World) (hr0 : Kd.C k43 w A0 l0.length l0)  :
    Calls Tryd.prog 29 #[.agg #[.int .u64 P, .slice A0 l0.length c0, .slice A1 n1 c1], .func (.func 31) #[] #[]] w fun r w' => r = .returned (.int .i64 ((l0.filter (fun g => g.f0 == 6)).length : Int)) ∧ Below w.heap.size w w' := by
  have hm0 : l0.length ≤ 9223372036854775807 := hr0.2.1
  have hB0 := zao (Below.refl w.heap.size w) (.cells #[.int .u64 P, .slice A0 l0.length c0, .slice A1 n1 c1] 26)
  have hx0 := heap_alloc_new w (.cells #[.int .u64 P, .slice A0 l0.length c0, .slice A1 n1 c1] 26)
  have HR0 := Lib.hid (Kd.C_alloc hr0 (.cells #[.int .u64 P, .slice A0 l0.length c0, .slice A1 n1 c1] 26))
  skip
  clear hr0
  go_enter Tryd.func29, Tryd.ntmps29
  go_upto_region 1 with (fail)
  generalize w.alloc (.cells #[.int .u64 P, .slice A0 l0.length c0, .slice A1 n1 c1] 26) = w1 at *
  have q1 : w1.cell? ⟨w.heap.size, 1, none⟩ = some (.slice A0 l0.length c0) := zak hx0 1
  have HX0 := Lib.hid hx0
  have HB0 := Lib.hid hB0
  clear hx0 hB0
  go_wp2_with fail
  go_loopw [5, 7, 11] (fun v5 v7 v11 wr => ∃ (i n : Nat), v11 = .int .i64 i ∧ i ≤ l0.length ∧ v5 = .int .i64 n ∧ ((l0.take i).filter (fun g => g.f0 == 6)).length = n ∧ n ≤ i ∧ Below w1.heap.size w1 wr) (fun _ _ v11 _ => ((l0.length : Int) - intOf v11).toNat)
  case atStart => exact ⟨0, 0, rfl, by omega, rfl, rfl, by omega, Below.refl _ _⟩
  case round =>
    clear q1
    obtain ⟨i, n, rfl, hi, rfl, hn, hni, hBw⟩ := hrel
    by_cases hlt : i < l0.length
    · obtain ⟨ad, rfl, e0, e1, e2, e3, e4⟩ := at_T43 (Kd.C_below HR0.out hBw) (i : Int) (by omega) (by omega)
      have hg : zae l0 (i : Int) = l0[i] := by simp [zae, hlt]
      rw [hg, Int.toNat_natCast] at e0 e1 e2 e3 e4
      have hf : ((l0.take (i + 1)).filter (fun g => g.f0 == 6)).length = n + (if (fun g : S43 => g.f0 == 6) l0[i] = true then 1 else 0) := by
        rw [List.take_succ_eq_append_getElem hlt, List.filter_append, List.length_append, hn]
        congr 1
        rw [List.filter_cons]
        split <;> simp
      generalize l0[i] = g at e0 e1 e2 e3 e4 hf
      have HF := Lib.hid hf
      have HBw := Lib.hid hBw
      clear hf hg hn hBw
      go_upto_region 5 with (
        refine wpList_store_row rfl 43 (.tmp 7) (.tmp 14) rfl wr.heap.size #[.int .i64 g.f0, .int .i64 g.f1, .int .i64 g.f2, .int .i64 g.f3, .int .u64 g.f4] ?e1 ?e2 43 #[.int .i64 0, .int .i64 0, .int .i64 0, .int .i64 0, .int .u64 0] (heap_alloc_new wr _) ?e4 ?e5 ?e6 ?_
        (case e1 => rfl)
        (case e2 => rfl)
        (case e4 => kernel_rfl)
        (case e5 => rfl)
        (case e6 => simp [Value.oneCell'])
        rw [World.setRow_alloc_new]
        have hnw := heap_alloc_new wr (.cells #[.int .i64 g.f0, .int .i64 g.f1, .int .i64 g.f2, .int .i64 g.f3, .int .u64 g.f4] 43)
        have hb2 := zao (Below.refl wr.heap.size wr) (.cells #[.int .i64 g.f0, .int .i64 g.f1, .int .i64 g.f2, .int .i64 g.f3, .int .u64 g.f4] 43)
        have HBw2 := Lib.hid (HBw.out.trans (hb2.mono HBw.out.size))
        generalize wr.alloc (.cells #[.int .i64 g.f0, .int .i64 g.f1, .int .i64 g.f2, .int .i64 g.f3, .int .u64 g.f4] 43) = w2 at *
        have HN := Lib.hid hnw
        clear hnw hb2 HBw)
      clear e0 e1 e2 e3 e4
      have HC := Lib.hid (isMul_calls g.f0 g.f1 g.f2 g.f3 g.f4 w2)
      cases hp : (fun g : S43 => g.f0 == 6) g
      · have hf2 := HF.out
        rw [hp, if_neg (by decide)] at hf2
        have HF2 := Lib.hid hf2
        clear HF hf2
        go_wp2_with (first
          | (refine wpList_load_row rfl 43 (.tmp 7) rfl wr.heap.size rfl 43 #[.int .i64 g.f0, .int .i64 g.f1, .int .i64 g.f2, .int .i64 g.f3, .int .u64 g.f4] (0, 0) _ HN.out Tryd.underlying43 rfl (by kernel_rfl) ?_)
          | (go_at_call 31; refine HC.out.mono ?_; rintro r w3 ⟨rfl, rfl⟩; rw [show (g.f0 == 6) = false from hp]))
        exact ⟨⟨i + 1, n, rfl, by omega, rfl, HF2.out, by omega, zao HBw2.out _⟩, by simp only [intOf]; omega⟩
      · have hf2 := HF.out
        rw [hp, if_pos rfl] at hf2
        have HF2 := Lib.hid hf2
        clear HF hf2
        go_wp2_with (first
          | (refine wpList_load_row rfl 43 (.tmp 7) rfl wr.heap.size rfl 43 #[.int .i64 g.f0, .int .i64 g.f1, .int .i64 g.f2, .int .i64 g.f3, .int .u64 g.f4] (0, 0) _ HN.out Tryd.underlying43 rfl (by kernel_rfl) ?_)
          | (go_at_call 31; refine HC.out.mono ?_; rintro r w3 ⟨rfl, rfl⟩; rw [show (g.f0 == 6) = true from hp]))
        exact ⟨⟨i + 1, n + 1, rfl, by omega, rfl, HF2.out, by omega, zao HBw2.out _⟩, by simp only [intOf]; omega⟩
    · have hil : i = l0.length := by omega
      have hv : (l0.filter (fun g => g.f0 == 6)).length = n := by rw [← hn, hil, List.take_length]
      have HBC := Lib.hid (HB0.out.trans (hBw.mono HB0.out.size))
      clear hn hBw
      go_wp2_with fail
      go_ret
      exact ⟨by rw [hv]; rfl, HBC.out⟩
set_option maxHeartbeats 4000000 in
set_option maxRecDepth 100000 in
theorem countIn_calls (P : Int) (A0 : Option Addr) (c0 : Nat) (l0 : List S43) (A1 : Option Addr) (n1 c1 : Nat) (q : Int) (p : Addr) (w : World) (hr0 : Kd.C k43 w A0 l0.length l0) (hq : w.cell? p = some (.int .i64 q)) :
    Calls Tryd.prog 29 #[.agg #[.int .u64 P, .slice A0 l0.length c0, .slice A1 n1 c1], .func (.func 30) #[] #[.pointer (some p)]] w fun r w' => r = .returned (.int .i64 ((l0.filter (fun g => (g.f0 == 1) && (g.f1 == q))).length : Int)) ∧ Below w.heap.size w w' := by
  have hm0 : l0.length ≤ 9223372036854775807 := hr0.2.1
  have hB0 := zao (Below.refl w.heap.size w) (.cells #[.int .u64 P, .slice A0 l0.length c0, .slice A1 n1 c1] 26)
  have hx0 := heap_alloc_new w (.cells #[.int .u64 P, .slice A0 l0.length c0, .slice A1 n1 c1] 26)
  have HR0 := Lib.hid (Kd.C_alloc hr0 (.cells #[.int .u64 P, .slice A0 l0.length c0, .slice A1 n1 c1] 26))
  have HQ := Lib.hid ((hB0.cell (World.block_lt_of_cell? w _ hq)).trans hq); clear hq
  clear hr0
  go_enter Tryd.func29, Tryd.ntmps29
  go_upto_region 1 with (fail)
  generalize w.alloc (.cells #[.int .u64 P, .slice A0 l0.length c0, .slice A1 n1 c1] 26) = w1 at *
  have q1 : w1.cell? ⟨w.heap.size, 1, none⟩ = some (.slice A0 l0.length c0) := zak hx0 1
  have HX0 := Lib.hid hx0
  have HB0 := Lib.hid hB0
  clear hx0 hB0
  go_wp2_with fail
  go_loopw [5, 7, 11] (fun v5 v7 v11 wr => ∃ (i n : Nat), v11 = .int .i64 i ∧ i ≤ l0.length ∧ v5 = .int .i64 n ∧ ((l0.take i).filter (fun g => (g.f0 == 1) && (g.f1 == q))).length = n ∧ n ≤ i ∧ Below w1.heap.size w1 wr) (fun _ _ v11 _ => ((l0.length : Int) - intOf v11).toNat)
  case atStart => exact ⟨0, 0, rfl, by omega, rfl, rfl, by omega, Below.refl _ _⟩
  case round =>
    clear q1
    obtain ⟨i, n, rfl, hi, rfl, hn, hni, hBw⟩ := hrel
    by_cases hlt : i < l0.length
    · obtain ⟨ad, rfl, e0, e1, e2, e3, e4⟩ := at_T43 (Kd.C_below HR0.out hBw) (i : Int) (by omega) (by omega)
      have hg : zae l0 (i : Int) = l0[i] := by simp [zae, hlt]
      rw [hg, Int.toNat_natCast] at e0 e1 e2 e3 e4
      have hf : ((l0.take (i + 1)).filter (fun g => (g.f0 == 1) && (g.f1 == q))).length = n + (if (fun g : S43 => (g.f0 == 1) && (g.f1 == q)) l0[i] = true then 1 else 0) := by
        rw [List.take_succ_eq_append_getElem hlt, List.filter_append, List.length_append, hn]
        congr 1
        rw [List.filter_cons]
        split <;> simp
      generalize l0[i] = g at e0 e1 e2 e3 e4 hf
      have HF := Lib.hid hf
      have HBw := Lib.hid hBw
      clear hf hg hn hBw
      go_upto_region 5 with (
        refine wpList_store_row rfl 43 (.tmp 7) (.tmp 14) rfl wr.heap.size #[.int .i64 g.f0, .int .i64 g.f1, .int .i64 g.f2, .int .i64 g.f3, .int .u64 g.f4] ?e1 ?e2 43 #[.int .i64 0, .int .i64 0, .int .i64 0, .int .i64 0, .int .u64 0] (heap_alloc_new wr _) ?e4 ?e5 ?e6 ?_
        (case e1 => rfl)
        (case e2 => rfl)
        (case e4 => kernel_rfl)
        (case e5 => rfl)
        (case e6 => simp [Value.oneCell'])
        rw [World.setRow_alloc_new]
        have hnw := heap_alloc_new wr (.cells #[.int .i64 g.f0, .int .i64 g.f1, .int .i64 g.f2, .int .i64 g.f3, .int .u64 g.f4] 43)
        have hb2 := zao (Below.refl wr.heap.size wr) (.cells #[.int .i64 g.f0, .int .i64 g.f1, .int .i64 g.f2, .int .i64 g.f3, .int .u64 g.f4] 43)
        have HBw2 := Lib.hid (HBw.out.trans (hb2.mono HBw.out.size))
        generalize wr.alloc (.cells #[.int .i64 g.f0, .int .i64 g.f1, .int .i64 g.f2, .int .i64 g.f3, .int .u64 g.f4] 43) = w2 at *
        have HN := Lib.hid hnw
        clear hnw hb2 HBw)
      clear e0 e1 e2 e3 e4
      have HC := Lib.hid (isIn_calls g.f0 g.f1 g.f2 g.f3 g.f4 q p w2 ((HBw2.out.cell (World.block_lt_of_cell? w1 _ HQ.out)).trans HQ.out))
      cases hp : (fun g : S43 => (g.f0 == 1) && (g.f1 == q)) g
      · have hf2 := HF.out
        rw [hp, if_neg (by decide)] at hf2
        have HF2 := Lib.hid hf2
        clear HF hf2
        go_wp2_with (first
          | (refine wpList_load_row rfl 43 (.tmp 7) rfl wr.heap.size rfl 43 #[.int .i64 g.f0, .int .i64 g.f1, .int .i64 g.f2, .int .i64 g.f3, .int .u64 g.f4] (0, 0) _ HN.out Tryd.underlying43 rfl (by kernel_rfl) ?_)
          | (go_at_call 30; refine HC.out.mono ?_; rintro r w3 ⟨rfl, rfl⟩; rw [show ((g.f0 == 1) && (g.f1 == q)) = false from hp]))
        exact ⟨⟨i + 1, n, rfl, by omega, rfl, HF2.out, by omega, zao HBw2.out _⟩, by simp only [intOf]; omega⟩
      · have hf2 := HF.out
        rw [hp, if_pos rfl] at hf2
        have HF2 := Lib.hid hf2
        clear HF hf2
        go_wp2_with (first
          | (refine wpList_load_row rfl 43 (.tmp 7) rfl wr.heap.size rfl 43 #[.int .i64 g.f0, .int .i64 g.f1, .int .i64 g.f2, .int .i64 g.f3, .int .u64 g.f4] (0, 0) _ HN.out Tryd.underlying43 rfl (by kernel_rfl) ?_)
          | (go_at_call 30; refine HC.out.mono ?_; rintro r w3 ⟨rfl, rfl⟩; rw [show ((g.f0 == 1) && (g.f1 == q)) = true from hp]))
        exact ⟨⟨i + 1, n + 1, rfl, by omega, rfl, HF2.out, by omega, zao HBw2.out _⟩, by simp only [intOf]; omega⟩
    · have hil : i = l0.length := by omega
      have hv : (l0.filter (fun g => (g.f0 == 1) && (g.f1 == q))).length = n := by rw [← hn, hil, List.take_length]
      have HBC := Lib.hid (HB0.out.trans (hBw.mono HB0.out.size))
      clear hn hBw
      go_wp2_with fail
      go_ret
      exact ⟨by rw [hv]; rfl, HBC.out⟩
set_option maxHeartbeats 4000000 in
set_option maxRecDepth 100000 in
theorem mulCount_calls (P : Int) (A0 : Option Addr) (c0 : Nat) (l0 : List S43) (A1 : Option Addr) (c1 : Nat) (l1 : List Int) (w : World) (hr0 : Kd.C k43 w A0 l0.length l0) :
    Calls Tryd.prog 15 #[.agg #[.int .u64 P, .slice A0 l0.length c0, .slice A1 l1.length c1]] w fun r w' => r = .returned (.int .i64 ((l0.filter (fun g => g.f0 == 6)).length : Int)) ∧ Below w.heap.size w w' := by
  have hx0 := heap_alloc_new w (.cells #[.int .u64 P, .slice A0 l0.length c0, .slice A1 l1.length c1] 26)
  have hB0 := zao (Below.refl w.heap.size w) (.cells #[.int .u64 P, .slice A0 l0.length c0, .slice A1 l1.length c1] 26)
  have HC := Lib.hid (countMul_calls P A0 c0 l0 A1 l1.length c1 _ (Kd.C_alloc hr0 (.cells #[.int .u64 P, .slice A0 l0.length c0, .slice A1 l1.length c1] 26)))
  clear hr0
  go_enter Tryd.func15, Tryd.ntmps15
  go_upto_region 1 with (fail)
  generalize w.alloc (.cells #[.int .u64 P, .slice A0 l0.length c0, .slice A1 l1.length c1] 26) = w1 at *
  have HX := Lib.hid hx0
  have HB := Lib.hid hB0
  clear hx0 hB0
  go_wp2_with (first
    | (refine wpList_load_row rfl 26 (.tmp 1) rfl w.heap.size rfl 26 #[.int .u64 P, .slice A0 l0.length c0, .slice A1 l1.length c1] (0, 0) _ HX.out Tryd.underlying26 rfl (by kernel_rfl) ?_)
    | (go_at_call 29; refine HC.out.mono ?_; rintro r w2 ⟨rfl, hb⟩))
  go_ret
  exact ⟨rfl, HB.out.trans (hb.mono HB.out.size)⟩
set_option maxHeartbeats 4000000 in
set_option maxRecDepth 100000 in
theorem inputCount_calls (P : Int) (A0 : Option Addr) (c0 : Nat) (l0 : List S43) (A1 : Option Addr) (c1 : Nat) (l1 : List Int) (q : Int) (w : World) (hr0 : Kd.C k43 w A0 l0.length l0) :
    Calls Tryd.prog 13 #[.agg #[.int .u64 P, .slice A0 l0.length c0, .slice A1 l1.length c1], .int .i64 q] w fun r w' => r = .returned (.int .i64 ((l0.filter (fun g => (g.f0 == 1) && (g.f1 == q))).length : Int)) ∧ Below w.heap.size w w' := by
  have hx0 : ((w.alloc (.cells #[.int .u64 P, .slice A0 l0.length c0, .slice A1 l1.length c1] 26)).alloc (.cells #[.int .i64 q] 3)).heap[w.heap.size]? = some (.cells #[.int .u64 P, .slice A0 l0.length c0, .slice A1 l1.length c1] 26 (0, 0)) := by
    rw [zcp _ _ _ (by rw [zcq]; omega)]; exact heap_alloc_new _ _
  have hx1 : ((w.alloc (.cells #[.int .u64 P, .slice A0 l0.length c0, .slice A1 l1.length c1] 26)).alloc (.cells #[.int .i64 q] 3)).heap[w.heap.size + 1]? = some (.cells #[.int .i64 q] 3 (0, 0)) := heap_alloc2_new _ _ _
  have hB0 := zao (zao (Below.refl w.heap.size w) (.cells #[.int .u64 P, .slice A0 l0.length c0, .slice A1 l1.length c1] 26)) (.cells #[.int .i64 q] 3)
  have HC := Lib.hid (countIn_calls P A0 c0 l0 A1 l1.length c1 q ⟨w.heap.size + 1, 0, none⟩ _ (Kd.C_alloc (Kd.C_alloc hr0 (.cells #[.int .u64 P, .slice A0 l0.length c0, .slice A1 l1.length c1] 26)) (.cells #[.int .i64 q] 3)) (zak hx1 0))
  clear hr0
  go_enter Tryd.func13, Tryd.ntmps13
  go_upto_region 1 with (fail)
  generalize (w.alloc (.cells #[.int .u64 P, .slice A0 l0.length c0, .slice A1 l1.length c1] 26)).alloc (.cells #[.int .i64 q] 3) = w1 at *
  have HX := Lib.hid hx0
  have HB := Lib.hid hB0
  clear hx0 hB0 hx1
  go_wp2_with (first
    | (refine wpList_load_row rfl 26 (.tmp 2) rfl w.heap.size rfl 26 #[.int .u64 P, .slice A0 l0.length c0, .slice A1 l1.length c1] (0, 0) _ HX.out Tryd.underlying26 rfl (by kernel_rfl) ?_)
    | (go_at_call 29; refine HC.out.mono ?_; rintro r w2 ⟨rfl, hb⟩))
  go_ret
  exact ⟨rfl, HB.out.trans (hb.mono HB.out.size)⟩
def zam.f (P : Int) (l0 : List S43) (l1 : List Int) : Option Int := if gate true 1 = true then some ((l0.filter (fun g => g.f0 == 6)).length : Int) else none
theorem zam.calls (P : Int) (A0 : Option Addr) (c0 : Nat) (l0 : List S43) (A1 : Option Addr) (c1 : Nat) (l1 : List Int) (r : Int) (w : World)
    (hr0 : Kd.C k43 w A0 l0.length l0) (hc0 : l0.length ≤ c0) (hr1 : Kd.C (Kd.int .i64) w A1 l1.length l1) (hc1 : l1.length ≤ c1) (h : zam.f P l0 l1 = some r) :
    Calls Tryd.prog 15 #[.agg #[.int .u64 P, .slice A0 l0.length c0, .slice A1 l1.length c1]] w fun e w' => e = .returned (.int .i64 r) ∧ Below w.heap.size w w' := by
  unfold zam.f at h
  rw [gate_eq, if_pos rfl] at h
  cases h
  exact mulCount_calls P A0 c0 l0 A1 c1 l1 w hr0
def zaj.f (P : Int) (l0 : List S43) (l1 : List Int) (q : Int) : Option Int := if gate true 1 = true then some ((l0.filter (fun g => (g.f0 == 1) && (g.f1 == q))).length : Int) else none
theorem zaj.calls (P : Int) (A0 : Option Addr) (c0 : Nat) (l0 : List S43) (A1 : Option Addr) (c1 : Nat) (l1 : List Int) (q : Int) (r : Int) (w : World)
    (hr0 : Kd.C k43 w A0 l0.length l0) (hc0 : l0.length ≤ c0) (hr1 : Kd.C (Kd.int .i64) w A1 l1.length l1) (hc1 : l1.length ≤ c1) (h : zaj.f P l0 l1 q = some r) :
    Calls Tryd.prog 13 #[.agg #[.int .u64 P, .slice A0 l0.length c0, .slice A1 l1.length c1], .int .i64 q] w fun e w' => e = .returned (.int .i64 r) ∧ Below w.heap.size w w' := by
  unfold zaj.f at h
  rw [gate_eq, if_pos rfl] at h
  cases h
  exact inputCount_calls P A0 c0 l0 A1 c1 l1 q w hr0
end Go.Proofs.YtmnleabeipmhmaaDoor.P
end
