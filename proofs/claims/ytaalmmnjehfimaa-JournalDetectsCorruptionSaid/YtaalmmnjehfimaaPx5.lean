-- Written by a program of this session (wip/gen.py, over the kit's print).
import Derived.Test.YtaalmmnjehfimaaPx0
import Derived.Test.YtaalmmnjehfimaaPx1
import Derived.Test.YtaalmmnjehfimaaPx4
namespace Go.Proofs.Ytaalmmnjehfimaa.P
open Go.RowKit Go.Proofs.YtaalmmnjehfimaaW.PrintWords Go.Proofs.YtaalmmnjehfimaaW.PrintLast Go.Proofs.YtaalmmnjehfimaaW.PrintMore
attribute [local go_sem] max2_int min2_int max_two min_two max_three min_three max_four min_four   -- for this text's walks alone
set_option linter.unusedVariables false
set_option linter.unusedSimpArgs false

/-! ### journal_first: function 19 -/
def journal_first.j0 : Nat → ByteArray → List Int → Bool → Option (List Int × Int × Bool)
  | 0, _, _, _ => none
  | k + 1, x0, x5, x31 => if x31 = true then (some (([] : List Int), 0, false)) else (if 0 < (x5.length : Int) then (if (wrap64 ((wrap64 ((wrap64 (rd x5 0)) + 2)) * 8)) > (x0.size : Int) then (some (([] : List Int), 0, false)) else (if 8 ≤ (wrap64 ((wrap64 ((wrap64 (rd x5 0)) + 2)) * 8)) then (if (wrap64 ((wrap64 ((wrap64 (rd x5 0)) + 2)) * 8)) ≤ (x0.size : Int) then ((codec_DecodeWords.f k (x0.extract 8 ((wrap64 ((wrap64 ((wrap64 (rd x5 0)) + 2)) * 8)) : Int).toNat)).bind fun bt126 => (if bt126.2 = 0 then (if 0 ≤ (rd x5 0) then (if (rd x5 0) ≤ (bt126.1.length : Int) then ((some (bt126.1.take ((rd x5 0) : Int).toNat : List Int)).bind fun y132 => (if (rd x5 0) < (bt126.1.length : Int) then ((journal_of.f k y132).bind fun t139 => (some (y132, wrap64 ((wrap64 ((wrap64 (rd x5 0)) + 2)) * 8), ((rd bt126.1 (rd x5 0)) == t139)))) else (none))) else (none)) else (none)) else (some (([] : List Int), 0, false)))) else (none)) else (none))) else (none))
def journal_first.f (k : Nat) (a0 : ByteArray) : Option (List Int × Int × Bool) := if (a0.size : Int) < 8 then (some (([] : List Int), 0, false)) else (if 0 ≤ 8 then (if 8 ≤ (a0.size : Int) then ((codec_DecodeWords.f k (a0.extract 0 8)).bind fun bt120 => (if bt120.2 = 0 then (if 0 < (bt120.1.length : Int) then (journal_first.j0 k a0 bt120.1 (decide ((rd bt120.1 0) > (IntKind.u64.wrap (wrap64 ((a0.size : Int) / 8)))))) else (none)) else (journal_first.j0 k a0 bt120.1 true))) else (none)) else (none))
theorem journal_first.mono_l : ∀ k, (∀ y0 y1 y2, LeO (journal_first.j0 k y0 y1 y2) (journal_first.j0 (k + 1) y0 y1 y2))
  | 0 => fun _ _ _ r h => by simp [journal_first.j0] at h
  | k + 1 => by
    have ih0 := journal_first.mono_l k
    · intro y0 y1 y2
      unfold journal_first.j0
      repeat' first
      | (with_reducible exact ih0 _ _ _)
      | (with_reducible exact codec_DecodeWords.mono _ _)
      | (with_reducible exact journal_of.mono _ _)
      | (with_reducible exact LeO.refl _)
      | (with_reducible exact LeO.none _)
      | (with_reducible refine LeO.ite ?_ ?_)
      | (with_reducible refine LeO.bind ?_ (fun _ => ?_))
      | exact ih0 _ _ _
      | exact codec_DecodeWords.mono _ _
      | exact journal_of.mono _ _
      | exact LeO.none _
      | refine LeO.ite ?_ ?_
      | refine LeO.bind ?_ (fun _ => ?_)
theorem journal_first.mono : ∀ a0 k, LeO (journal_first.f k a0) (journal_first.f (k + 1) a0) := by
  intro a0 k
  have ih0 := journal_first.mono_l k
  unfold journal_first.f
  repeat' first
      | (with_reducible exact ih0 _ _ _)
      | (with_reducible exact codec_DecodeWords.mono _ _)
      | (with_reducible exact journal_of.mono _ _)
      | (with_reducible exact LeO.refl _)
      | (with_reducible exact LeO.none _)
      | (with_reducible refine LeO.ite ?_ ?_)
      | (with_reducible refine LeO.bind ?_ (fun _ => ?_))
      | exact ih0 _ _ _
      | exact codec_DecodeWords.mono _ _
      | exact journal_of.mono _ _
      | exact LeO.none _
      | refine LeO.ite ?_ ?_
      | refine LeO.bind ?_ (fun _ => ?_)
set_option maxHeartbeats 8000000 in
set_option maxRecDepth 100000 in
theorem journal_first.calls (k : Nat) (a0 : ByteArray) (r1 : List Int) (r2 : Int) (r3 : Bool) (w : World) (h : journal_first.f k a0 = some (r1, r2, r3)) :
    Calls Try.prog 19 #[.string a0] w fun e w' => ∃ v0_ : Value, e = .returned (.tuple #[v0_, .int .i64 r2, .bool r3]) ∧ Kd.V (Kd.int .u64) 39 w' w.heap.size (fun k_ => (w.heap.size ≤ k_)) v0_ r1 ∧ Below w.heap.size w w' := by
  have HB := Aside0.mk (Below.refl w.heap.size w)
  have H : (if (a0.size : Int) < 8 then (some (([] : List Int), 0, false)) else (if 0 ≤ 8 then (if 8 ≤ (a0.size : Int) then ((codec_DecodeWords.f k (a0.extract 0 8)).bind fun bt120 => (if bt120.2 = 0 then (if 0 < (bt120.1.length : Int) then (journal_first.j0 k a0 bt120.1 (decide ((rd bt120.1 0) > (IntKind.u64.wrap (wrap64 ((a0.size : Int) / 8)))))) else (none)) else (journal_first.j0 k a0 bt120.1 true))) else (none)) else (none))) = some (r1, r2, r3) := h
  clear h
  by_cases c2 : (a0.size : Int) < 8
  · rw [if_pos c2] at H
    have c2b0 : decide ((a0.size : Int) < 8) = true := decide_eq_true c2
    have c2b1 : decide (a0.size < 8) = true := decide_eq_true (by omega)
    clear c2
    simp only [Option.some.injEq, Prod.mk.injEq] at H
    obtain ⟨rfl, rfl, rfl⟩ := H
    go_enter Try.func19, Try.ntmps19
    go_wp2
    repeat (go_quiet (fail); try go_wp2)
    go_ret3
    exact ⟨_, by first | rfl | (simp [errW_none, errW_some] <;> rfl) | (simp [*, errW_none, errW_some] <;> rfl), Kd.V_nil _ _ _ _ _, by repeat (first | (with_reducible first | exact HB.out | apply below_alloc | apply pw_below_drewN | apply below_drew1) | exact HB.out)⟩
  · rw [if_neg c2] at H
    have c2b0 : decide ((a0.size : Int) < 8) = false := decide_eq_false c2
    have c2b1 : decide (a0.size < 8) = false := decide_eq_false (by omega)
    clear c2
    by_cases c3 : 0 ≤ 8
    · rw [if_pos c3] at H
      have c3b0 := eq_true c3
      have c3b1 : decide (0 ≤ 8) = true := decide_eq_true c3
      clear c3
      by_cases c4 : 8 ≤ (a0.size : Int)
      · rw [if_pos c4] at H
        have c4b0 := eq_true c4
        have c4b1 : decide (8 ≤ (a0.size : Int)) = true := decide_eq_true c4
        clear c4
        replace H := Option.bind_eq_some_iff.mp H
        obtain ⟨⟨t120, t121⟩, A50, H⟩ := H
        replace H : (if t121 = 0 then (if 0 < (t120.length : Int) then (journal_first.j0 k a0 t120 (decide ((rd t120 0) > (IntKind.u64.wrap (wrap64 ((a0.size : Int) / 8)))))) else (none)) else (journal_first.j0 k a0 t120 true)) = some (r1, r2, r3) := H
        have A5 := Aside0.mk A50
        clear A50
        have HC6 := Aside0.mk H
        clear H
        go_enter Try.func19, Try.ntmps19
        go_upto_region 4 with (first | (go_at_call 28; (with_reducible refine (codec_DecodeWords.calls k (a0.extract 0 8) t120 t121 _ A5.out).mono ?_); rintro e w7 ⟨v122, rfl, ho0, hb⟩; have n0_ := Aside0.mk (Kd.R_lower (Kd.R_newM (M := fun k_ => (w.heap.size ≤ k_)) ho0 (below_size (by repeat (first | (with_reducible first | exact HB.out | apply below_alloc | apply pw_below_drewN | apply below_drew1) | exact HB.out))) (fun k_ h_ => h_)) (below_size (by repeat (first | (with_reducible first | exact HB.out | apply below_alloc | apply pw_below_drewN | apply below_drew1) | exact HB.out)))); have n1_ := Aside0.mk (below_step (by repeat (first | (with_reducible first | exact HB.out | apply below_alloc | apply pw_below_drewN | apply below_drew1) | exact HB.out)) hb); clear HB; have HO123 := n0_; have HB := n1_; clear n0_ n1_; (try clear hb); (try clear hb2); (try clear hk); (try clear hi); (try clear ho0)))
        repeat (go_quiet (first | (go_at_call 28; (with_reducible refine (codec_DecodeWords.calls k (a0.extract 0 8) t120 t121 _ A5.out).mono ?_); rintro e w7 ⟨v122, rfl, ho0, hb⟩; have n0_ := Aside0.mk (Kd.R_lower (Kd.R_newM (M := fun k_ => (w.heap.size ≤ k_)) ho0 (below_size (by repeat (first | (with_reducible first | exact HB.out | apply below_alloc | apply pw_below_drewN | apply below_drew1) | exact HB.out))) (fun k_ h_ => h_)) (below_size (by repeat (first | (with_reducible first | exact HB.out | apply below_alloc | apply pw_below_drewN | apply below_drew1) | exact HB.out)))); have n1_ := Aside0.mk (below_step (by repeat (first | (with_reducible first | exact HB.out | apply below_alloc | apply pw_below_drewN | apply below_drew1) | exact HB.out)) hb); clear HB; have HO123 := n0_; have HB := n1_; clear n0_ n1_; (try clear hb); (try clear hb2); (try clear hk); (try clear hi); (try clear ho0))); go_upto_region 4 with (first | (go_at_call 28; (with_reducible refine (codec_DecodeWords.calls k (a0.extract 0 8) t120 t121 _ A5.out).mono ?_); rintro e w7 ⟨v122, rfl, ho0, hb⟩; have n0_ := Aside0.mk (Kd.R_lower (Kd.R_newM (M := fun k_ => (w.heap.size ≤ k_)) ho0 (below_size (by repeat (first | (with_reducible first | exact HB.out | apply below_alloc | apply pw_below_drewN | apply below_drew1) | exact HB.out))) (fun k_ h_ => h_)) (below_size (by repeat (first | (with_reducible first | exact HB.out | apply below_alloc | apply pw_below_drewN | apply below_drew1) | exact HB.out)))); have n1_ := Aside0.mk (below_step (by repeat (first | (with_reducible first | exact HB.out | apply below_alloc | apply pw_below_drewN | apply below_drew1) | exact HB.out)) hb); clear HB; have HO123 := n0_; have HB := n1_; clear n0_ n1_; (try clear hb); (try clear hb2); (try clear hk); (try clear hi); (try clear ho0))))
        (try simp only [Act.put, List.setIfInBounds_toArray, List.set_cons_zero, List.set_cons_succ])
        go_cut [31] (fun v31 wc => ∃ (kq : Nat) (x31_5 : Bool), v31 = .bool x31_5 ∧ Aside0 (journal_first.j0 kq a0 t120 x31_5 = some (r1, r2, r3)) ∧ Aside0 (kq ≤ k) ∧ Aside0 (Kd.R (Kd.int .u64) 39 wc w.heap.size (fun k_ => (w.heap.size ≤ k_)) v122 t120) ∧ Aside0 (Below w.heap.size w wc))
        case first =>
          have H := HC6.out
          clear HC6
          by_cases c8 : t121 = 0
          · rw [if_pos c8] at H
            have c8b0 : (t121 == 0) = true := beq_iff_eq.mpr c8
            have c8b1 : (t121 != 0) = false := bne_eq_false_iff_eq.mpr c8
            clear c8
            (first | rw [c8b0] | (simp only [i64_w, i32_w]; rw [c8b0]) | skip)
            by_cases c9 : 0 < (t120.length : Int)
            · rw [if_pos c9] at H
              have c9b0 : decide (0 < (t120.length : Int)) = true := decide_eq_true c9
              have c9b1 : decide (0 < t120.length) = true := decide_eq_true (by omega)
              clear c9
              have H' := Aside0.mk H
              clear H
              obtain ⟨Ao10, co10, eo10⟩ := Kd.R_slice HO123.out
              subst eo10
              have p124 : 0 ≤ (0 : Int) := (by omega)
              have q124 : 0 < (t120.length : Int) := of_decide_eq_true (by first | (with_reducible assumption) | assumption)
              obtain ⟨ad124, e124, hx124_0⟩ := Kd.at_int (Kd.R_reads' HO123.out).2.2 0 p124 q124
              cases e124
              have qi124 : (0 < t120.length) = True := eq_true (by omega)
              (try rw [show ((0 : Int)).toNat = 0 from rfl] at hx124_0)
              (try rw [Addr.add_zero'] at hx124_0)
              replace p124 := eq_true p124
              replace q124 := eq_true q124
              go_wp2
              repeat (go_quiet (fail); try go_wp2)
              go_meet
              case rel => exact ⟨_, (decide ((rd t120 0) > (IntKind.u64.wrap (wrap64 ((a0.size : Int) / 8))))), (by first | rfl | (simp; done) | (simp [*]; done)), H', ⟨by first | omega | exact Nat.le_refl _⟩, ⟨by (with_reducible repeat (first | apply Kd.R_alloc | apply Kd.R_drewN | apply Kd.R_drew)); exact Kd.R_mono HO123.out (fun _ hk => hk.1)⟩, ⟨by repeat (first | (with_reducible first | exact HB.out | apply below_alloc | apply pw_below_drewN | apply below_drew1) | exact HB.out)⟩⟩
            · rw [if_neg c9] at H
              exact absurd H (by simp)
          · rw [if_neg c8] at H
            have c8b0 : (t121 == 0) = false := beq_eq_false_iff_ne.mpr c8
            have c8b1 : (t121 != 0) = true := bne_iff_ne.mpr c8
            (first | rw [c8b0] | (simp only [i64_w, i32_w]; rw [c8b0]) | skip)
            have H' := Aside0.mk H
            clear H
            go_wp2
            repeat (go_quiet (fail); try go_wp2)
            go_meet
            case rel => exact ⟨_, (true), (by first | rfl | (simp; done) | (simp [*]; done)), H', ⟨by first | omega | exact Nat.le_refl _⟩, ⟨by (with_reducible repeat (first | apply Kd.R_alloc | apply Kd.R_drewN | apply Kd.R_drew)); exact Kd.R_mono HO123.out (fun _ hk => hk.1)⟩, ⟨by repeat (first | (with_reducible first | exact HB.out | apply below_alloc | apply pw_below_drewN | apply below_drew1) | exact HB.out)⟩⟩
        case rest =>
          clear HC6
          try clear c1
          try clear p1
          try clear q1
          try clear hx1
          try clear qi1
          try clear c2
          try clear c2b0
          try clear c2b1
          try clear p2
          try clear c3
          try clear c3b0
          try clear c3b1
          try clear c4
          try clear c4b0
          try clear c4b1
          try clear p6
          try clear c8
          try clear c8b0
          try clear c8b1
          try clear c9
          try clear c9b0
          try clear c9b1
          try clear hx124_0
          try clear p124
          try clear q124
          obtain ⟨kq, x31_5, rfl, HA, HJ5, HO_5, HB⟩ := hcut
          cases kq with
          | zero => exact absurd HA.out (by simp [journal_first.j0])
          | succ kj5 =>
            have H := HA.out
            clear HA
            simp only [journal_first.j0] at H
            by_cases c11 : x31_5 = true
            · subst c11
              have H1 : (some (([] : List Int), 0, false)) = some (r1, r2, r3) := by rw [if_pos rfl] at H; exact H
              clear H
              have H := H1
              clear H1
              simp only [Option.some.injEq, Prod.mk.injEq] at H
              obtain ⟨rfl, rfl, rfl⟩ := H
              go_wp2
              repeat (go_quiet (fail); try go_wp2)
              go_ret3
              exact ⟨_, by first | rfl | (simp [errW_none, errW_some] <;> rfl) | (simp [*, errW_none, errW_some] <;> rfl), Kd.V_nil _ _ _ _ _, by repeat (first | (with_reducible first | exact HB.out | apply below_alloc | apply pw_below_drewN | apply below_drew1) | exact HB.out)⟩
            · replace c11 := Bool.eq_false_iff.mpr c11
              subst c11
              have H1 : (if 0 < (t120.length : Int) then (if (wrap64 ((wrap64 ((wrap64 (rd t120 0)) + 2)) * 8)) > (a0.size : Int) then (some (([] : List Int), 0, false)) else (if 8 ≤ (wrap64 ((wrap64 ((wrap64 (rd t120 0)) + 2)) * 8)) then (if (wrap64 ((wrap64 ((wrap64 (rd t120 0)) + 2)) * 8)) ≤ (a0.size : Int) then ((codec_DecodeWords.f kj5 (a0.extract 8 ((wrap64 ((wrap64 ((wrap64 (rd t120 0)) + 2)) * 8)) : Int).toNat)).bind fun bt126 => (if bt126.2 = 0 then (if 0 ≤ (rd t120 0) then (if (rd t120 0) ≤ (bt126.1.length : Int) then ((some (bt126.1.take ((rd t120 0) : Int).toNat : List Int)).bind fun y132 => (if (rd t120 0) < (bt126.1.length : Int) then ((journal_of.f kj5 y132).bind fun t139 => (some (y132, wrap64 ((wrap64 ((wrap64 (rd t120 0)) + 2)) * 8), ((rd bt126.1 (rd t120 0)) == t139)))) else (none))) else (none)) else (none)) else (some (([] : List Int), 0, false)))) else (none)) else (none))) else (none)) = some (r1, r2, r3) := by rw [if_neg (show ¬ (false = true) by decide)] at H; exact H
              clear H
              have H := H1
              clear H1
              by_cases c12 : 0 < (t120.length : Int)
              · rw [if_pos c12] at H
                have c12b0 : decide (0 < (t120.length : Int)) = true := decide_eq_true c12
                have c12b1 : decide (0 < t120.length) = true := decide_eq_true (by omega)
                clear c12
                by_cases c13 : (wrap64 ((wrap64 ((wrap64 (rd t120 0)) + 2)) * 8)) > (a0.size : Int)
                · rw [if_pos c13] at H
                  have c13b0 : decide ((a0.size : Int) < (wrap64 ((wrap64 ((wrap64 (rd t120 0)) + 2)) * 8))) = true := decide_eq_true c13
                  clear c13
                  simp only [Option.some.injEq, Prod.mk.injEq] at H
                  obtain ⟨rfl, rfl, rfl⟩ := H
                  obtain ⟨Ao14, co14, eo14⟩ := Kd.R_slice HO_5.out
                  subst eo14
                  have p125 : 0 ≤ (0 : Int) := (by omega)
                  have q125 : 0 < (t120.length : Int) := of_decide_eq_true (by first | (with_reducible assumption) | assumption)
                  obtain ⟨ad125, e125, hx125_0⟩ := Kd.at_int (Kd.R_reads' HO_5.out).2.2 0 p125 q125
                  cases e125
                  have qi125 : (0 < t120.length) = True := eq_true (by omega)
                  (try rw [show ((0 : Int)).toNat = 0 from rfl] at hx125_0)
                  (try rw [Addr.add_zero'] at hx125_0)
                  replace p125 := eq_true p125
                  replace q125 := eq_true q125
                  go_wp2
                  repeat (go_quiet (fail); try go_wp2)
                  go_ret3
                  exact ⟨_, by first | rfl | (simp [errW_none, errW_some] <;> rfl) | (simp [*, errW_none, errW_some] <;> rfl), Kd.V_nil _ _ _ _ _, by repeat (first | (with_reducible first | exact HB.out | apply below_alloc | apply pw_below_drewN | apply below_drew1) | exact HB.out)⟩
                · rw [if_neg c13] at H
                  have c13b0 : decide ((a0.size : Int) < (wrap64 ((wrap64 ((wrap64 (rd t120 0)) + 2)) * 8))) = false := decide_eq_false c13
                  clear c13
                  by_cases c15 : 8 ≤ (wrap64 ((wrap64 ((wrap64 (rd t120 0)) + 2)) * 8))
                  · rw [if_pos c15] at H
                    have c15b0 := eq_true c15
                    have c15b1 : decide (8 ≤ (wrap64 ((wrap64 ((wrap64 (rd t120 0)) + 2)) * 8))) = true := decide_eq_true c15
                    by_cases c16 : (wrap64 ((wrap64 ((wrap64 (rd t120 0)) + 2)) * 8)) ≤ (a0.size : Int)
                    · rw [if_pos c16] at H
                      have c16b0 := eq_true c16
                      have c16b1 : decide ((wrap64 ((wrap64 ((wrap64 (rd t120 0)) + 2)) * 8)) ≤ (a0.size : Int)) = true := decide_eq_true c16
                      replace H := Option.bind_eq_some_iff.mp H
                      obtain ⟨⟨t126, t127⟩, A170, H⟩ := H
                      replace H : (if t127 = 0 then (if 0 ≤ (rd t120 0) then (if (rd t120 0) ≤ (t126.length : Int) then ((some (t126.take ((rd t120 0) : Int).toNat : List Int)).bind fun y132 => (if (rd t120 0) < (t126.length : Int) then ((journal_of.f kj5 y132).bind fun t139 => (some (y132, wrap64 ((wrap64 ((wrap64 (rd t120 0)) + 2)) * 8), ((rd t126 (rd t120 0)) == t139)))) else (none))) else (none)) else (none)) else (some (([] : List Int), 0, false))) = some (r1, r2, r3) := H
                      have A17 := Aside0.mk A170
                      clear A170
                      by_cases c18 : t127 = 0
                      · rw [if_pos c18] at H
                        have c18b0 : (t127 == 0) = true := beq_iff_eq.mpr c18
                        have c18b1 : (t127 != 0) = false := bne_eq_false_iff_eq.mpr c18
                        clear c18
                        by_cases c19 : 0 ≤ (rd t120 0)
                        · rw [if_pos c19] at H
                          have c19b0 := eq_true c19
                          have c19b1 : decide (0 ≤ (rd t120 0)) = true := decide_eq_true c19
                          clear c19
                          by_cases c20 : (rd t120 0) ≤ (t126.length : Int)
                          · rw [if_pos c20] at H
                            have c20b0 := eq_true c20
                            have c20b1 : decide ((rd t120 0) ≤ (t126.length : Int)) = true := decide_eq_true c20
                            clear c20
                            obtain ⟨y132, hy132⟩ : ∃ y_ : List Int, y_ = (t126.take ((rd t120 0) : Int).toNat) := ⟨_, rfl⟩
                            replace H : (if (rd t120 0) < (t126.length : Int) then ((journal_of.f kj5 y132).bind fun t139 => (some (y132, wrap64 ((wrap64 ((wrap64 (rd t120 0)) + 2)) * 8), ((rd t126 (rd t120 0)) == t139)))) else (none)) = some (r1, r2, r3) := by first | (rw [hy132]; with_reducible exact H) | (have H2_ := (Option.bind_some _ _).symm.trans H; rw [hy132]; with_reducible exact H2_) | (have H2_ := (Option.bind_some _ _).symm.trans H; with_reducible exact H2_) | with_reducible exact H | (rw [hy132]; exact H) | exact H
                            have Ny132 := Aside0.mk hy132
                            clear hy132
                            by_cases c21 : (rd t120 0) < (t126.length : Int)
                            · rw [if_pos c21] at H
                              have c21b0 : decide ((rd t120 0) < (t126.length : Int)) = true := decide_eq_true c21
                              clear c21
                              replace H := Option.bind_eq_some_iff.mp H
                              obtain ⟨t139, A220, H⟩ := H
                              replace H : (some (y132, wrap64 ((wrap64 ((wrap64 (rd t120 0)) + 2)) * 8), ((rd t126 (rd t120 0)) == t139))) = some (r1, r2, r3) := H
                              have A22 := Aside0.mk A220
                              clear A220
                              simp only [Option.some.injEq, Prod.mk.injEq] at H
                              obtain ⟨rfl, rfl, rfl⟩ := H
                              obtain ⟨Ao23, co23, eo23⟩ := Kd.R_slice HO_5.out
                              subst eo23
                              have p125 : 0 ≤ (0 : Int) := (by omega)
                              have q125 : 0 < (t120.length : Int) := of_decide_eq_true (by first | (with_reducible assumption) | assumption)
                              obtain ⟨ad125, e125, hx125_0⟩ := Kd.at_int (Kd.R_reads' HO_5.out).2.2 0 p125 q125
                              cases e125
                              have qi125 : (0 < t120.length) = True := eq_true (by omega)
                              (try rw [show ((0 : Int)).toNat = 0 from rfl] at hx125_0)
                              (try rw [Addr.add_zero'] at hx125_0)
                              replace p125 := eq_true p125
                              replace q125 := eq_true q125
                              go_wp2_with (first | (go_at_call 28; (with_reducible refine (codec_DecodeWords.calls kj5 (a0.extract 8 ((wrap64 ((wrap64 ((wrap64 (rd t120 0)) + 2)) * 8)) : Int).toNat) t126 t127 _ A17.out).mono ?_); rintro e w24 ⟨v128, rfl, ho0, hb⟩; have n0_ := Aside0.mk (Kd.R_elder' (by (with_reducible repeat (first | apply Kd.R_alloc | apply Kd.R_drewN | apply Kd.R_drew)); exact HO_5.out) (Kd.R_base ho0) hb); have n1_ := Aside0.mk (Kd.R_lower (Kd.R_new' (Kd.R_newM (M := fun k_ => (w.heap.size ≤ k_)) ho0 (below_size (by repeat (first | (with_reducible first | exact HB.out | apply below_alloc | apply pw_below_drewN | apply below_drew1) | exact HB.out))) (fun k_ h_ => h_)) (Kd.R_lt (by (with_reducible repeat (first | apply Kd.R_alloc | apply Kd.R_drewN | apply Kd.R_drew)); exact HO_5.out))) (below_size (by repeat (first | (with_reducible first | exact HB.out | apply below_alloc | apply pw_below_drewN | apply below_drew1) | exact HB.out)))); have n2_ := Aside0.mk (below_step (by repeat (first | (with_reducible first | exact HB.out | apply below_alloc | apply pw_below_drewN | apply below_drew1) | exact HB.out)) hb); clear HO_5; clear HB; have HO_5 := n0_; have HO129 := n1_; have HB := n2_; clear n0_ n1_ n2_; (try clear hb); (try clear hb2); (try clear hk); (try clear hi); (try clear ho0); have p130 : 0 ≤ (0 : Int) := (by omega); have q130 : 0 < (t120.length : Int) := of_decide_eq_true (by first | (with_reducible assumption) | assumption); obtain ⟨ad130, e130, hx130_0⟩ := Kd.at_int (Kd.R_reads' HO_5.out).2.2 0 p130 q130; obtain rfl : ad125 = ad130 := (by injection e130); have qi130 : (0 < t120.length) = True := eq_true (by omega); (try rw [show ((0 : Int)).toNat = 0 from rfl] at hx130_0); (try rw [Addr.add_zero'] at hx130_0); replace p130 := eq_true p130; replace q130 := eq_true q130; have p131 : 0 ≤ (0 : Int) := (by omega); have q131 : 0 < (t120.length : Int) := of_decide_eq_true (by first | (with_reducible assumption) | assumption); obtain ⟨ad131, e131, hx131_0⟩ := Kd.at_int (Kd.R_reads' HO_5.out).2.2 0 p131 q131; obtain rfl : ad125 = ad131 := (by injection e131); have qi131 : (0 < t120.length) = True := eq_true (by omega); (try rw [show ((0 : Int)).toNat = 0 from rfl] at hx131_0); (try rw [Addr.add_zero'] at hx131_0); replace p131 := eq_true p131; replace q131 := eq_true q131; obtain ⟨Ao26, co26, eo26⟩ := Kd.R_slice HO129.out; subst eo26; have q25 : ((rd t120 0) : Int) ≤ ((t126.length : Int) : Int) := of_decide_eq_true (by first | (with_reducible assumption) | assumption); obtain ⟨i025, hi025, _, hsz25, _⟩ := info_parts info39; have hroom25 : t126.length ≤ co26 := (Kd.R_reads' HO129.out).2.1; have hC25 : Kd.F (Kd.int .u64) _ _ Ao26 t126.length t126 := (Kd.V_at (base := w.heap.size) (Kd.R_V HO129.out)).2.2; have hcut25 := cut_to3 (P := Try.prog) 27 39 .u64 Try.underlying27 hi025 Ao26 t126.length co26 (rd t120 0) (of_decide_eq_true (by first | (with_reducible assumption) | assumption)) q25 hroom25; have hr25 := Kd.F_take (m := ((rd t120 0) : Int).toNat) hC25 (by omega); have hy25 : y132.length = ((rd t120 0) : Int).toNat := (by rw [Ny132.out, List.length_take]; omega); rw [← Ny132.out] at hr25; rw [← hy25] at hcut25; have HO136 := Aside0.mk (show Kd.V (Kd.int .u64) 39 _ w.heap.size _ (.slice Ao26 y132.length y132.length) y132 from Kd.V_mk (by omega) hr25); have HC136 := Aside0.mk (show y132.length ≤ y132.length from by omega); clear hr25 hC25 hroom25 hi025 hsz25; have KY25 := Aside0.mk hy25; clear hy25; replace q25 := eq_true q25; have p137 : 0 ≤ (0 : Int) := (by omega); have q137 : 0 < (t120.length : Int) := of_decide_eq_true (by first | (with_reducible assumption) | assumption); obtain ⟨ad137, e137, hx137_0⟩ := Kd.at_int (Kd.R_reads' HO_5.out).2.2 0 p137 q137; obtain rfl : ad125 = ad137 := (by injection e137); have qi137 : (0 < t120.length) = True := eq_true (by omega); (try rw [show ((0 : Int)).toNat = 0 from rfl] at hx137_0); (try rw [Addr.add_zero'] at hx137_0); replace p137 := eq_true p137; replace q137 := eq_true q137; have p138 : 0 ≤ ((rd t120 0) : Int) := of_decide_eq_true (by first | (with_reducible assumption) | assumption); have q138 : (rd t120 0) < (t126.length : Int) := of_decide_eq_true (by first | (with_reducible assumption) | assumption); obtain ⟨ad138, e138, hx138_0⟩ := Kd.at_int (Kd.R_reads' HO129.out).2.2 (rd t120 0) p138 q138; cases e138; replace p138 := eq_true p138; replace q138 := eq_true q138) | (go_at_call 27; (with_reducible refine (journal_of.calls kj5 _ _ y132 t139 _ ?side1 ?side2 A22.out).mono ?_); (case side1 => repeat (first | exact (Kd.V_reads' HO136.out).2.2 | (with_reducible refine Kd.C_alloc ?_ _) | (with_reducible refine Kd.C_drewN ?_ _) | (with_reducible refine Kd.C_drew ?_))); (case side2 => exact (Kd.V_reads' HO136.out).2.1); rintro e w' ⟨rfl, ⟨nd, rfl⟩⟩; (try first | exact ⟨rfl, _, World.drewN_drewN _ _ _⟩ | exact ⟨rfl, _, Eq.trans (World.drewN_drewN _ _ _) (congrArg (World.drewN _) (Nat.add_assoc _ _ _))⟩)))
                              repeat (go_quiet (first | (go_at_call 28; (with_reducible refine (codec_DecodeWords.calls kj5 (a0.extract 8 ((wrap64 ((wrap64 ((wrap64 (rd t120 0)) + 2)) * 8)) : Int).toNat) t126 t127 _ A17.out).mono ?_); rintro e w24 ⟨v128, rfl, ho0, hb⟩; have n0_ := Aside0.mk (Kd.R_elder' (by (with_reducible repeat (first | apply Kd.R_alloc | apply Kd.R_drewN | apply Kd.R_drew)); exact HO_5.out) (Kd.R_base ho0) hb); have n1_ := Aside0.mk (Kd.R_lower (Kd.R_new' (Kd.R_newM (M := fun k_ => (w.heap.size ≤ k_)) ho0 (below_size (by repeat (first | (with_reducible first | exact HB.out | apply below_alloc | apply pw_below_drewN | apply below_drew1) | exact HB.out))) (fun k_ h_ => h_)) (Kd.R_lt (by (with_reducible repeat (first | apply Kd.R_alloc | apply Kd.R_drewN | apply Kd.R_drew)); exact HO_5.out))) (below_size (by repeat (first | (with_reducible first | exact HB.out | apply below_alloc | apply pw_below_drewN | apply below_drew1) | exact HB.out)))); have n2_ := Aside0.mk (below_step (by repeat (first | (with_reducible first | exact HB.out | apply below_alloc | apply pw_below_drewN | apply below_drew1) | exact HB.out)) hb); clear HO_5; clear HB; have HO_5 := n0_; have HO129 := n1_; have HB := n2_; clear n0_ n1_ n2_; (try clear hb); (try clear hb2); (try clear hk); (try clear hi); (try clear ho0); have p130 : 0 ≤ (0 : Int) := (by omega); have q130 : 0 < (t120.length : Int) := of_decide_eq_true (by first | (with_reducible assumption) | assumption); obtain ⟨ad130, e130, hx130_0⟩ := Kd.at_int (Kd.R_reads' HO_5.out).2.2 0 p130 q130; obtain rfl : ad125 = ad130 := (by injection e130); have qi130 : (0 < t120.length) = True := eq_true (by omega); (try rw [show ((0 : Int)).toNat = 0 from rfl] at hx130_0); (try rw [Addr.add_zero'] at hx130_0); replace p130 := eq_true p130; replace q130 := eq_true q130; have p131 : 0 ≤ (0 : Int) := (by omega); have q131 : 0 < (t120.length : Int) := of_decide_eq_true (by first | (with_reducible assumption) | assumption); obtain ⟨ad131, e131, hx131_0⟩ := Kd.at_int (Kd.R_reads' HO_5.out).2.2 0 p131 q131; obtain rfl : ad125 = ad131 := (by injection e131); have qi131 : (0 < t120.length) = True := eq_true (by omega); (try rw [show ((0 : Int)).toNat = 0 from rfl] at hx131_0); (try rw [Addr.add_zero'] at hx131_0); replace p131 := eq_true p131; replace q131 := eq_true q131; obtain ⟨Ao26, co26, eo26⟩ := Kd.R_slice HO129.out; subst eo26; have q25 : ((rd t120 0) : Int) ≤ ((t126.length : Int) : Int) := of_decide_eq_true (by first | (with_reducible assumption) | assumption); obtain ⟨i025, hi025, _, hsz25, _⟩ := info_parts info39; have hroom25 : t126.length ≤ co26 := (Kd.R_reads' HO129.out).2.1; have hC25 : Kd.F (Kd.int .u64) _ _ Ao26 t126.length t126 := (Kd.V_at (base := w.heap.size) (Kd.R_V HO129.out)).2.2; have hcut25 := cut_to3 (P := Try.prog) 27 39 .u64 Try.underlying27 hi025 Ao26 t126.length co26 (rd t120 0) (of_decide_eq_true (by first | (with_reducible assumption) | assumption)) q25 hroom25; have hr25 := Kd.F_take (m := ((rd t120 0) : Int).toNat) hC25 (by omega); have hy25 : y132.length = ((rd t120 0) : Int).toNat := (by rw [Ny132.out, List.length_take]; omega); rw [← Ny132.out] at hr25; rw [← hy25] at hcut25; have HO136 := Aside0.mk (show Kd.V (Kd.int .u64) 39 _ w.heap.size _ (.slice Ao26 y132.length y132.length) y132 from Kd.V_mk (by omega) hr25); have HC136 := Aside0.mk (show y132.length ≤ y132.length from by omega); clear hr25 hC25 hroom25 hi025 hsz25; have KY25 := Aside0.mk hy25; clear hy25; replace q25 := eq_true q25; have p137 : 0 ≤ (0 : Int) := (by omega); have q137 : 0 < (t120.length : Int) := of_decide_eq_true (by first | (with_reducible assumption) | assumption); obtain ⟨ad137, e137, hx137_0⟩ := Kd.at_int (Kd.R_reads' HO_5.out).2.2 0 p137 q137; obtain rfl : ad125 = ad137 := (by injection e137); have qi137 : (0 < t120.length) = True := eq_true (by omega); (try rw [show ((0 : Int)).toNat = 0 from rfl] at hx137_0); (try rw [Addr.add_zero'] at hx137_0); replace p137 := eq_true p137; replace q137 := eq_true q137; have p138 : 0 ≤ ((rd t120 0) : Int) := of_decide_eq_true (by first | (with_reducible assumption) | assumption); have q138 : (rd t120 0) < (t126.length : Int) := of_decide_eq_true (by first | (with_reducible assumption) | assumption); obtain ⟨ad138, e138, hx138_0⟩ := Kd.at_int (Kd.R_reads' HO129.out).2.2 (rd t120 0) p138 q138; cases e138; replace p138 := eq_true p138; replace q138 := eq_true q138) | (go_at_call 27; (with_reducible refine (journal_of.calls kj5 _ _ y132 t139 _ ?side1 ?side2 A22.out).mono ?_); (case side1 => repeat (first | exact (Kd.V_reads' HO136.out).2.2 | (with_reducible refine Kd.C_alloc ?_ _) | (with_reducible refine Kd.C_drewN ?_ _) | (with_reducible refine Kd.C_drew ?_))); (case side2 => exact (Kd.V_reads' HO136.out).2.1); rintro e w' ⟨rfl, ⟨nd, rfl⟩⟩; (try first | exact ⟨rfl, _, World.drewN_drewN _ _ _⟩ | exact ⟨rfl, _, Eq.trans (World.drewN_drewN _ _ _) (congrArg (World.drewN _) (Nat.add_assoc _ _ _))⟩))); try go_wp2_with (first | (go_at_call 28; (with_reducible refine (codec_DecodeWords.calls kj5 (a0.extract 8 ((wrap64 ((wrap64 ((wrap64 (rd t120 0)) + 2)) * 8)) : Int).toNat) t126 t127 _ A17.out).mono ?_); rintro e w24 ⟨v128, rfl, ho0, hb⟩; have n0_ := Aside0.mk (Kd.R_elder' (by (with_reducible repeat (first | apply Kd.R_alloc | apply Kd.R_drewN | apply Kd.R_drew)); exact HO_5.out) (Kd.R_base ho0) hb); have n1_ := Aside0.mk (Kd.R_lower (Kd.R_new' (Kd.R_newM (M := fun k_ => (w.heap.size ≤ k_)) ho0 (below_size (by repeat (first | (with_reducible first | exact HB.out | apply below_alloc | apply pw_below_drewN | apply below_drew1) | exact HB.out))) (fun k_ h_ => h_)) (Kd.R_lt (by (with_reducible repeat (first | apply Kd.R_alloc | apply Kd.R_drewN | apply Kd.R_drew)); exact HO_5.out))) (below_size (by repeat (first | (with_reducible first | exact HB.out | apply below_alloc | apply pw_below_drewN | apply below_drew1) | exact HB.out)))); have n2_ := Aside0.mk (below_step (by repeat (first | (with_reducible first | exact HB.out | apply below_alloc | apply pw_below_drewN | apply below_drew1) | exact HB.out)) hb); clear HO_5; clear HB; have HO_5 := n0_; have HO129 := n1_; have HB := n2_; clear n0_ n1_ n2_; (try clear hb); (try clear hb2); (try clear hk); (try clear hi); (try clear ho0); have p130 : 0 ≤ (0 : Int) := (by omega); have q130 : 0 < (t120.length : Int) := of_decide_eq_true (by first | (with_reducible assumption) | assumption); obtain ⟨ad130, e130, hx130_0⟩ := Kd.at_int (Kd.R_reads' HO_5.out).2.2 0 p130 q130; obtain rfl : ad125 = ad130 := (by injection e130); have qi130 : (0 < t120.length) = True := eq_true (by omega); (try rw [show ((0 : Int)).toNat = 0 from rfl] at hx130_0); (try rw [Addr.add_zero'] at hx130_0); replace p130 := eq_true p130; replace q130 := eq_true q130; have p131 : 0 ≤ (0 : Int) := (by omega); have q131 : 0 < (t120.length : Int) := of_decide_eq_true (by first | (with_reducible assumption) | assumption); obtain ⟨ad131, e131, hx131_0⟩ := Kd.at_int (Kd.R_reads' HO_5.out).2.2 0 p131 q131; obtain rfl : ad125 = ad131 := (by injection e131); have qi131 : (0 < t120.length) = True := eq_true (by omega); (try rw [show ((0 : Int)).toNat = 0 from rfl] at hx131_0); (try rw [Addr.add_zero'] at hx131_0); replace p131 := eq_true p131; replace q131 := eq_true q131; obtain ⟨Ao26, co26, eo26⟩ := Kd.R_slice HO129.out; subst eo26; have q25 : ((rd t120 0) : Int) ≤ ((t126.length : Int) : Int) := of_decide_eq_true (by first | (with_reducible assumption) | assumption); obtain ⟨i025, hi025, _, hsz25, _⟩ := info_parts info39; have hroom25 : t126.length ≤ co26 := (Kd.R_reads' HO129.out).2.1; have hC25 : Kd.F (Kd.int .u64) _ _ Ao26 t126.length t126 := (Kd.V_at (base := w.heap.size) (Kd.R_V HO129.out)).2.2; have hcut25 := cut_to3 (P := Try.prog) 27 39 .u64 Try.underlying27 hi025 Ao26 t126.length co26 (rd t120 0) (of_decide_eq_true (by first | (with_reducible assumption) | assumption)) q25 hroom25; have hr25 := Kd.F_take (m := ((rd t120 0) : Int).toNat) hC25 (by omega); have hy25 : y132.length = ((rd t120 0) : Int).toNat := (by rw [Ny132.out, List.length_take]; omega); rw [← Ny132.out] at hr25; rw [← hy25] at hcut25; have HO136 := Aside0.mk (show Kd.V (Kd.int .u64) 39 _ w.heap.size _ (.slice Ao26 y132.length y132.length) y132 from Kd.V_mk (by omega) hr25); have HC136 := Aside0.mk (show y132.length ≤ y132.length from by omega); clear hr25 hC25 hroom25 hi025 hsz25; have KY25 := Aside0.mk hy25; clear hy25; replace q25 := eq_true q25; have p137 : 0 ≤ (0 : Int) := (by omega); have q137 : 0 < (t120.length : Int) := of_decide_eq_true (by first | (with_reducible assumption) | assumption); obtain ⟨ad137, e137, hx137_0⟩ := Kd.at_int (Kd.R_reads' HO_5.out).2.2 0 p137 q137; obtain rfl : ad125 = ad137 := (by injection e137); have qi137 : (0 < t120.length) = True := eq_true (by omega); (try rw [show ((0 : Int)).toNat = 0 from rfl] at hx137_0); (try rw [Addr.add_zero'] at hx137_0); replace p137 := eq_true p137; replace q137 := eq_true q137; have p138 : 0 ≤ ((rd t120 0) : Int) := of_decide_eq_true (by first | (with_reducible assumption) | assumption); have q138 : (rd t120 0) < (t126.length : Int) := of_decide_eq_true (by first | (with_reducible assumption) | assumption); obtain ⟨ad138, e138, hx138_0⟩ := Kd.at_int (Kd.R_reads' HO129.out).2.2 (rd t120 0) p138 q138; cases e138; replace p138 := eq_true p138; replace q138 := eq_true q138) | (go_at_call 27; (with_reducible refine (journal_of.calls kj5 _ _ y132 t139 _ ?side1 ?side2 A22.out).mono ?_); (case side1 => repeat (first | exact (Kd.V_reads' HO136.out).2.2 | (with_reducible refine Kd.C_alloc ?_ _) | (with_reducible refine Kd.C_drewN ?_ _) | (with_reducible refine Kd.C_drew ?_))); (case side2 => exact (Kd.V_reads' HO136.out).2.1); rintro e w' ⟨rfl, ⟨nd, rfl⟩⟩; (try first | exact ⟨rfl, _, World.drewN_drewN _ _ _⟩ | exact ⟨rfl, _, Eq.trans (World.drewN_drewN _ _ _) (congrArg (World.drewN _) (Nat.add_assoc _ _ _))⟩))))
                              go_ret3
                              exact ⟨_, by first | rfl | (simp [errW_none, errW_some] <;> rfl) | (simp [*, errW_none, errW_some] <;> rfl), by (with_reducible repeat (first | apply Kd.V_alloc | apply Kd.V_drewN | apply Kd.V_drew)); exact Kd.V_mono HO136.out (fun _ hk => hk.1.1), by repeat (first | (with_reducible first | exact HB.out | apply below_alloc | apply pw_below_drewN | apply below_drew1) | exact HB.out)⟩
                            · rw [if_neg c21] at H
                              exact absurd H (by simp)
                          · rw [if_neg c20] at H
                            exact absurd H (by simp)
                        · rw [if_neg c19] at H
                          exact absurd H (by simp)
                      · rw [if_neg c18] at H
                        have c18b0 : (t127 == 0) = false := beq_eq_false_iff_ne.mpr c18
                        have c18b1 : (t127 != 0) = true := bne_iff_ne.mpr c18
                        simp only [Option.some.injEq, Prod.mk.injEq] at H
                        obtain ⟨rfl, rfl, rfl⟩ := H
                        obtain ⟨Ao27, co27, eo27⟩ := Kd.R_slice HO_5.out
                        subst eo27
                        have p125 : 0 ≤ (0 : Int) := (by omega)
                        have q125 : 0 < (t120.length : Int) := of_decide_eq_true (by first | (with_reducible assumption) | assumption)
                        obtain ⟨ad125, e125, hx125_0⟩ := Kd.at_int (Kd.R_reads' HO_5.out).2.2 0 p125 q125
                        cases e125
                        have qi125 : (0 < t120.length) = True := eq_true (by omega)
                        (try rw [show ((0 : Int)).toNat = 0 from rfl] at hx125_0)
                        (try rw [Addr.add_zero'] at hx125_0)
                        replace p125 := eq_true p125
                        replace q125 := eq_true q125
                        go_wp2_with (first | (go_at_call 28; (with_reducible refine (codec_DecodeWords.calls kj5 (a0.extract 8 ((wrap64 ((wrap64 ((wrap64 (rd t120 0)) + 2)) * 8)) : Int).toNat) t126 t127 _ A17.out).mono ?_); rintro e w28 ⟨v128, rfl, ho0, hb⟩; have n0_ := Aside0.mk (Kd.R_elder' (by (with_reducible repeat (first | apply Kd.R_alloc | apply Kd.R_drewN | apply Kd.R_drew)); exact HO_5.out) (Kd.R_base ho0) hb); have n1_ := Aside0.mk (Kd.R_lower (Kd.R_new' (Kd.R_newM (M := fun k_ => (w.heap.size ≤ k_)) ho0 (below_size (by repeat (first | (with_reducible first | exact HB.out | apply below_alloc | apply pw_below_drewN | apply below_drew1) | exact HB.out))) (fun k_ h_ => h_)) (Kd.R_lt (by (with_reducible repeat (first | apply Kd.R_alloc | apply Kd.R_drewN | apply Kd.R_drew)); exact HO_5.out))) (below_size (by repeat (first | (with_reducible first | exact HB.out | apply below_alloc | apply pw_below_drewN | apply below_drew1) | exact HB.out)))); have n2_ := Aside0.mk (below_step (by repeat (first | (with_reducible first | exact HB.out | apply below_alloc | apply pw_below_drewN | apply below_drew1) | exact HB.out)) hb); clear HO_5; clear HB; have HO_5 := n0_; have HO129 := n1_; have HB := n2_; clear n0_ n1_ n2_; (try clear hb); (try clear hb2); (try clear hk); (try clear hi); (try clear ho0)))
                        repeat (go_quiet (first | (go_at_call 28; (with_reducible refine (codec_DecodeWords.calls kj5 (a0.extract 8 ((wrap64 ((wrap64 ((wrap64 (rd t120 0)) + 2)) * 8)) : Int).toNat) t126 t127 _ A17.out).mono ?_); rintro e w28 ⟨v128, rfl, ho0, hb⟩; have n0_ := Aside0.mk (Kd.R_elder' (by (with_reducible repeat (first | apply Kd.R_alloc | apply Kd.R_drewN | apply Kd.R_drew)); exact HO_5.out) (Kd.R_base ho0) hb); have n1_ := Aside0.mk (Kd.R_lower (Kd.R_new' (Kd.R_newM (M := fun k_ => (w.heap.size ≤ k_)) ho0 (below_size (by repeat (first | (with_reducible first | exact HB.out | apply below_alloc | apply pw_below_drewN | apply below_drew1) | exact HB.out))) (fun k_ h_ => h_)) (Kd.R_lt (by (with_reducible repeat (first | apply Kd.R_alloc | apply Kd.R_drewN | apply Kd.R_drew)); exact HO_5.out))) (below_size (by repeat (first | (with_reducible first | exact HB.out | apply below_alloc | apply pw_below_drewN | apply below_drew1) | exact HB.out)))); have n2_ := Aside0.mk (below_step (by repeat (first | (with_reducible first | exact HB.out | apply below_alloc | apply pw_below_drewN | apply below_drew1) | exact HB.out)) hb); clear HO_5; clear HB; have HO_5 := n0_; have HO129 := n1_; have HB := n2_; clear n0_ n1_ n2_; (try clear hb); (try clear hb2); (try clear hk); (try clear hi); (try clear ho0))); try go_wp2_with (first | (go_at_call 28; (with_reducible refine (codec_DecodeWords.calls kj5 (a0.extract 8 ((wrap64 ((wrap64 ((wrap64 (rd t120 0)) + 2)) * 8)) : Int).toNat) t126 t127 _ A17.out).mono ?_); rintro e w28 ⟨v128, rfl, ho0, hb⟩; have n0_ := Aside0.mk (Kd.R_elder' (by (with_reducible repeat (first | apply Kd.R_alloc | apply Kd.R_drewN | apply Kd.R_drew)); exact HO_5.out) (Kd.R_base ho0) hb); have n1_ := Aside0.mk (Kd.R_lower (Kd.R_new' (Kd.R_newM (M := fun k_ => (w.heap.size ≤ k_)) ho0 (below_size (by repeat (first | (with_reducible first | exact HB.out | apply below_alloc | apply pw_below_drewN | apply below_drew1) | exact HB.out))) (fun k_ h_ => h_)) (Kd.R_lt (by (with_reducible repeat (first | apply Kd.R_alloc | apply Kd.R_drewN | apply Kd.R_drew)); exact HO_5.out))) (below_size (by repeat (first | (with_reducible first | exact HB.out | apply below_alloc | apply pw_below_drewN | apply below_drew1) | exact HB.out)))); have n2_ := Aside0.mk (below_step (by repeat (first | (with_reducible first | exact HB.out | apply below_alloc | apply pw_below_drewN | apply below_drew1) | exact HB.out)) hb); clear HO_5; clear HB; have HO_5 := n0_; have HO129 := n1_; have HB := n2_; clear n0_ n1_ n2_; (try clear hb); (try clear hb2); (try clear hk); (try clear hi); (try clear ho0))))
                        go_ret3
                        exact ⟨_, by first | rfl | (simp [errW_none, errW_some] <;> rfl) | (simp [*, errW_none, errW_some] <;> rfl), Kd.V_nil _ _ _ _ _, by repeat (first | (with_reducible first | exact HB.out | apply below_alloc | apply pw_below_drewN | apply below_drew1) | exact HB.out)⟩
                    · rw [if_neg c16] at H
                      exact absurd H (by simp)
                  · rw [if_neg c15] at H
                    exact absurd H (by simp)
              · rw [if_neg c12] at H
                exact absurd H (by simp)
      · rw [if_neg c4] at H
        exact absurd H (by simp)
    · rw [if_neg c3] at H
      exact absurd H (by simp)

end Go.Proofs.Ytaalmmnjehfimaa.P
