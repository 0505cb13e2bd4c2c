-- Written by a program of this session (wip/gen.py, over the kit's print).
import Derived.Test.YtojbfgaipkllbaaPx0
import Derived.Test.YtojbfgaipkllbaaPx8
import Derived.Test.YtojbfgaipkllbaaPx9
import Derived.Test.YtojbfgaipkllbaaPx20
import Derived.Test.YtojbfgaipkllbaaAwk
import Derived.Test.YtojbfgaipkllbaaGivb
namespace Go.Proofs.Ytojbfgaipkllbaa.P
open Go.RowKit Go.Proofs.YtojbfgaipkllbaaW.PrintWords Go.Proofs.YtojbfgaipkllbaaW.PrintLast Go.Proofs.YtojbfgaipkllbaaW.PrintMore
attribute [local go_sem] max2_int min2_int max_two min_two max_three min_three max_four min_four   -- for this text's walks alone
set_option linter.unusedVariables false
set_option linter.unusedSimpArgs false

/-! ### privitylaw15_ViewEncodingIsPrefixFree: function 6 -/
def privitylaw15_ViewEncodingIsPrefixFree.j0 : Nat → List (S36) → List (S36) → Bool → Option (Bool)
  | 0, _, _, _ => none
  | k + 1, x0, x1, x16 => if x16 = true then (some true) else ((view_Encode.f x0).bind fun t221 => ((view_Encode.f x1).bind fun t222 => (if (t221.size : Int) > (t222.size : Int) then (some true) else (if 0 ≤ (t221.size : Int) then (if (t221.size : Int) ≤ (t222.size : Int) then (if (t222.extract 0 ((t221.size : Int) : Int).toNat).toList = t221.toList then ((privityref15_Same.f k x0 x1).bind fun t223 => (some t223)) else (some true)) else (none)) else (none)))))
def privitylaw15_ViewEncodingIsPrefixFree.f (k : Nat) (l0 : List (S36)) (l1 : List (S36)) : Option (Bool) := (privitylaw15_awake.f k).bind fun t218 => (if t218 = true then ((privityref15_Few.f k l0 30 20).bind fun t219 => (if t219 = true then ((privityref15_Few.f k l1 30 20).bind fun t220 => (privitylaw15_ViewEncodingIsPrefixFree.j0 k l0 l1 (!t220))) else (privitylaw15_ViewEncodingIsPrefixFree.j0 k l0 l1 true))) else (some false))
theorem privitylaw15_ViewEncodingIsPrefixFree.mono_l : ∀ k, (∀ y0 y1 y2, LeO (privitylaw15_ViewEncodingIsPrefixFree.j0 k y0 y1 y2) (privitylaw15_ViewEncodingIsPrefixFree.j0 (k + 1) y0 y1 y2))
  | 0 => fun _ _ _ r h => by simp [privitylaw15_ViewEncodingIsPrefixFree.j0] at h
  | k + 1 => by
    have ih0 := privitylaw15_ViewEncodingIsPrefixFree.mono_l k
    · intro y0 y1 y2
      unfold privitylaw15_ViewEncodingIsPrefixFree.j0
      repeat' first
      | (with_reducible exact ih0 _ _ _)
      | (with_reducible exact privitylaw15_awake.mono _)
      | (with_reducible exact privityref15_Few.mono _ _ _ _)
      | (with_reducible exact privityref15_Same.mono _ _ _)
      | (with_reducible exact LeO.refl _)
      | (with_reducible exact LeO.none _)
      | (with_reducible refine LeO.ite ?_ ?_)
      | (with_reducible refine LeO.bind ?_ (fun _ => ?_))
      | exact ih0 _ _ _
      | exact privitylaw15_awake.mono _
      | exact privityref15_Few.mono _ _ _ _
      | exact privityref15_Same.mono _ _ _
      | exact LeO.none _
      | refine LeO.ite ?_ ?_
      | refine LeO.bind ?_ (fun _ => ?_)
theorem privitylaw15_ViewEncodingIsPrefixFree.mono : ∀ a0 a1 k, LeO (privitylaw15_ViewEncodingIsPrefixFree.f k a0 a1) (privitylaw15_ViewEncodingIsPrefixFree.f (k + 1) a0 a1) := by
  intro a0 a1 k
  have ih0 := privitylaw15_ViewEncodingIsPrefixFree.mono_l k
  unfold privitylaw15_ViewEncodingIsPrefixFree.f
  repeat' first
      | (with_reducible exact ih0 _ _ _)
      | (with_reducible exact privitylaw15_awake.mono _)
      | (with_reducible exact privityref15_Few.mono _ _ _ _)
      | (with_reducible exact privityref15_Same.mono _ _ _)
      | (with_reducible exact LeO.refl _)
      | (with_reducible exact LeO.none _)
      | (with_reducible refine LeO.ite ?_ ?_)
      | (with_reducible refine LeO.bind ?_ (fun _ => ?_))
      | exact ih0 _ _ _
      | exact privitylaw15_awake.mono _
      | exact privityref15_Few.mono _ _ _ _
      | exact privityref15_Same.mono _ _ _
      | exact LeO.none _
      | refine LeO.ite ?_ ?_
      | refine LeO.bind ?_ (fun _ => ?_)
set_option maxHeartbeats 8000000 in
set_option maxRecDepth 100000 in
theorem privitylaw15_ViewEncodingIsPrefixFree.calls (k : Nat) (A0 : Option Addr) (c0 : Nat) (l0 : List (S36)) (A1 : Option Addr) (c1 : Nat) (l1 : List (S36)) (r : Bool) (w : World) (hr0 : Kd.C k36 w A0 l0.length l0) (hc0 : l0.length ≤ c0) (hr1 : Kd.C k36 w A1 l1.length l1) (hc1 : l1.length ≤ c1) (h : privitylaw15_ViewEncodingIsPrefixFree.f k l0 l1 = some r) :
    Calls Try.prog 6 #[.slice A0 l0.length c0, .slice A1 l1.length c1] w fun e w' => e = .returned (.bool r) ∧ Below w.heap.size w w' := by
  have HR0 := Aside0.mk hr0
  have HC0 := Aside0.mk hc0
  clear hr0 hc0
  have HR1 := Aside0.mk hr1
  have HC1 := Aside0.mk hc1
  clear hr1 hc1
  have HB := Aside0.mk (Below.refl w.heap.size w)
  have H : ((privitylaw15_awake.f k).bind fun t218 => (if t218 = true then ((privityref15_Few.f k l0 30 20).bind fun t219 => (if t219 = true then ((privityref15_Few.f k l1 30 20).bind fun t220 => (privitylaw15_ViewEncodingIsPrefixFree.j0 k l0 l1 (!t220))) else (privitylaw15_ViewEncodingIsPrefixFree.j0 k l0 l1 true))) else (some false))) = some r := h
  clear h
  replace H := Option.bind_eq_some_iff.mp H
  obtain ⟨t218, A30, H⟩ := H
  replace H : (if t218 = true then ((privityref15_Few.f k l0 30 20).bind fun t219 => (if t219 = true then ((privityref15_Few.f k l1 30 20).bind fun t220 => (privitylaw15_ViewEncodingIsPrefixFree.j0 k l0 l1 (!t220))) else (privitylaw15_ViewEncodingIsPrefixFree.j0 k l0 l1 true))) else (some false)) = some r := H
  have A3 := Aside0.mk A30
  clear A30
  by_cases c4 : t218 = true
  · subst c4
    have H1 : ((privityref15_Few.f k l0 30 20).bind fun t219 => (if t219 = true then ((privityref15_Few.f k l1 30 20).bind fun t220 => (privitylaw15_ViewEncodingIsPrefixFree.j0 k l0 l1 (!t220))) else (privitylaw15_ViewEncodingIsPrefixFree.j0 k l0 l1 true))) = some r := by rw [if_pos rfl] at H; exact H
    clear H
    have H := H1
    clear H1
    have HC5 := Aside0.mk H
    clear H
    go_enter Try.func6, Try.ntmps6
    go_upto_region 3 with (first | ((with_reducible refine gate_callee (f := 10) rfl ?_); refine goesL_ (some 7) rfl rfl Try.func10 (by kernel_rfl) rfl #[] rfl (by (try simp only [List.map_toArray, List.map_cons, List.map_nil]); first | done | rfl | (simp only [List.length_drop, List.length_take]; rfl)) ?_; (with_reducible refine (privitylaw15_awake.calls k  true _ A3.out).mono ?_); rintro e w6 ⟨rfl, hb⟩; refine ⟨_, rfl, ?_⟩; have n0_ := Aside0.mk (below_step (by repeat (first | (with_reducible first | exact HB.out | apply below_alloc | apply pw_below_drewN | apply below_drew1) | exact HB.out)) hb); clear HB; have HB := n0_; clear n0_; (try clear hb); (try clear hb2); (try clear hk); (try clear hi)))
    (try simp only [Act.put, List.setIfInBounds_toArray, List.set_cons_zero, List.set_cons_succ])
    go_cut [16] (fun v16 wc => ∃ (kq : Nat) (x16_4 : Bool), v16 = .bool x16_4 ∧ Aside0 (privitylaw15_ViewEncodingIsPrefixFree.j0 kq l0 l1 x16_4 = some r) ∧ Aside0 (kq ≤ k) ∧ Aside0 (Below w.heap.size w wc))
    case first =>
      have H := HC5.out
      clear HC5
      replace H := Option.bind_eq_some_iff.mp H
      obtain ⟨t219, A70, H⟩ := H
      replace H : (if t219 = true then ((privityref15_Few.f k l1 30 20).bind fun t220 => (privitylaw15_ViewEncodingIsPrefixFree.j0 k l0 l1 (!t220))) else (privitylaw15_ViewEncodingIsPrefixFree.j0 k l0 l1 true)) = some r := H
      have A7 := Aside0.mk A70
      clear A70
      by_cases c8 : t219 = true
      · subst c8
        have H1 : ((privityref15_Few.f k l1 30 20).bind fun t220 => (privitylaw15_ViewEncodingIsPrefixFree.j0 k l0 l1 (!t220))) = some r := by rw [if_pos rfl] at H; exact H
        clear H
        have H := H1
        clear H1
        replace H := Option.bind_eq_some_iff.mp H
        obtain ⟨t220, A90, H⟩ := H
        replace H : (privitylaw15_ViewEncodingIsPrefixFree.j0 k l0 l1 (!t220)) = some r := H
        have A9 := Aside0.mk A90
        clear A90
        have H' := Aside0.mk H
        clear H
        go_wp2_with (first | ((with_reducible refine gate_callee (f := 11) rfl ?_); refine goesL_ (some 10) rfl rfl Try.func11 (by kernel_rfl) rfl #[.slice A0 l0.length c0, .int .i64 30, .int .i64 20] rfl (by (try simp only [List.map_toArray, List.map_cons, List.map_nil]); first | done | rfl | (simp only [List.length_drop, List.length_take]; rfl)) ?_; (with_reducible refine (privityref15_Few.calls k _ _ l0 30 20 true _ ?side1 ?side2 A7.out).mono ?_); (case side1 => repeat (first | exact (Kd.C_below HR0.out HB.out) | (with_reducible refine Kd.C_alloc ?_ _) | (with_reducible refine Kd.C_drewN ?_ _) | (with_reducible refine Kd.C_drew ?_))); (case side2 => exact HC0.out); rintro e w' ⟨rfl, ⟨nd, rfl⟩⟩; refine ⟨_, rfl, ?_⟩) | (go_at_call 11; (with_reducible refine (privityref15_Few.calls k _ _ l1 30 20 t220 _ ?side1 ?side2 A9.out).mono ?_); (case side1 => repeat (first | exact (Kd.C_below HR1.out (by repeat (first | (with_reducible first | exact HB.out | apply below_alloc | apply pw_below_drewN | apply below_drew1) | exact HB.out))) | (with_reducible refine Kd.C_alloc ?_ _) | (with_reducible refine Kd.C_drewN ?_ _) | (with_reducible refine Kd.C_drew ?_))); (case side2 => exact HC1.out); rintro e w' ⟨rfl, ⟨nd, rfl⟩⟩))
        go_meet
        case rel => exact ⟨_, (!t220), (by first | rfl | (simp; done) | (simp [*]; done)), H', ⟨by first | omega | exact Nat.le_refl _⟩, ⟨by repeat (first | (with_reducible first | exact HB.out | apply below_alloc | apply pw_below_drewN | apply below_drew1) | exact HB.out)⟩⟩
      · replace c8 := Bool.eq_false_iff.mpr c8
        subst c8
        have H1 : (privitylaw15_ViewEncodingIsPrefixFree.j0 k l0 l1 true) = some r := by rw [if_neg (show ¬ (false = true) by decide)] at H; exact H
        clear H
        have H := H1
        clear H1
        have H' := Aside0.mk H
        clear H
        go_wp2_with (first | ((with_reducible refine gate_callee (f := 11) rfl ?_); refine goesL_ (some 10) rfl rfl Try.func11 (by kernel_rfl) rfl #[.slice A0 l0.length c0, .int .i64 30, .int .i64 20] rfl (by (try simp only [List.map_toArray, List.map_cons, List.map_nil]); first | done | rfl | (simp only [List.length_drop, List.length_take]; rfl)) ?_; (with_reducible refine (privityref15_Few.calls k _ _ l0 30 20 false _ ?side1 ?side2 A7.out).mono ?_); (case side1 => repeat (first | exact (Kd.C_below HR0.out HB.out) | (with_reducible refine Kd.C_alloc ?_ _) | (with_reducible refine Kd.C_drewN ?_ _) | (with_reducible refine Kd.C_drew ?_))); (case side2 => exact HC0.out); rintro e w' ⟨rfl, ⟨nd, rfl⟩⟩; refine ⟨_, rfl, ?_⟩))
        go_meet
        case rel => exact ⟨_, (true), (by first | rfl | (simp; done) | (simp [*]; done)), H', ⟨by first | omega | exact Nat.le_refl _⟩, ⟨by repeat (first | (with_reducible first | exact HB.out | apply below_alloc | apply pw_below_drewN | apply below_drew1) | exact HB.out)⟩⟩
    case rest =>
      clear HC5
      try clear c1
      try clear p2
      try clear c4
      try clear c6
      try clear c8
      obtain ⟨kq, x16_4, rfl, HA, HJ4, HB⟩ := hcut
      cases kq with
      | zero => exact absurd HA.out (by simp [privitylaw15_ViewEncodingIsPrefixFree.j0])
      | succ kj4 =>
        have H := HA.out
        clear HA
        simp only [privitylaw15_ViewEncodingIsPrefixFree.j0] at H
        by_cases c10 : x16_4 = true
        · subst c10
          have H1 : (some true) = some r := by rw [if_pos rfl] at H; exact H
          clear H
          have H := H1
          clear H1
          obtain rfl := Option.some.inj H
          go_wp2
          go_ret
          exact ⟨by first | rfl | (simp [errW_none, errW_some] <;> rfl) | (simp [*, errW_none, errW_some] <;> rfl), by repeat (first | (with_reducible first | exact HB.out | apply below_alloc | apply pw_below_drewN | apply below_drew1) | exact HB.out)⟩
        · replace c10 := Bool.eq_false_iff.mpr c10
          subst c10
          have H1 : ((view_Encode.f l0).bind fun t221 => ((view_Encode.f l1).bind fun t222 => (if (t221.size : Int) > (t222.size : Int) then (some true) else (if 0 ≤ (t221.size : Int) then (if (t221.size : Int) ≤ (t222.size : Int) then (if (t222.extract 0 ((t221.size : Int) : Int).toNat).toList = t221.toList then ((privityref15_Same.f kj4 l0 l1).bind fun t223 => (some t223)) else (some true)) else (none)) else (none))))) = some r := by rw [if_neg (show ¬ (false = true) by decide)] at H; exact H
          clear H
          have H := H1
          clear H1
          replace H := Option.bind_eq_some_iff.mp H
          obtain ⟨t221, A110, H⟩ := H
          replace H : ((view_Encode.f l1).bind fun t222 => (if (t221.size : Int) > (t222.size : Int) then (some true) else (if 0 ≤ (t221.size : Int) then (if (t221.size : Int) ≤ (t222.size : Int) then (if (t222.extract 0 ((t221.size : Int) : Int).toNat).toList = t221.toList then ((privityref15_Same.f kj4 l0 l1).bind fun t223 => (some t223)) else (some true)) else (none)) else (none)))) = some r := H
          have A11 := Aside0.mk A110
          clear A110
          replace H := Option.bind_eq_some_iff.mp H
          obtain ⟨t222, A120, H⟩ := H
          replace H : (if (t221.size : Int) > (t222.size : Int) then (some true) else (if 0 ≤ (t221.size : Int) then (if (t221.size : Int) ≤ (t222.size : Int) then (if (t222.extract 0 ((t221.size : Int) : Int).toNat).toList = t221.toList then ((privityref15_Same.f kj4 l0 l1).bind fun t223 => (some t223)) else (some true)) else (none)) else (none))) = some r := H
          have A12 := Aside0.mk A120
          clear A120
          by_cases c13 : (t221.size : Int) > (t222.size : Int)
          · rw [if_pos c13] at H
            have c13b0 : decide ((t222.size : Int) < (t221.size : Int)) = true := decide_eq_true c13
            have c13b1 : decide (t222.size < t221.size) = true := decide_eq_true (Int.ofNat_lt.mp c13)
            clear c13
            obtain rfl := Option.some.inj H
            go_wp2_with (first | ((with_reducible refine gate_callee (f := 12) rfl ?_); refine goesL_ (some 18) rfl rfl Try.func12 (by kernel_rfl) rfl #[.slice A0 l0.length c0] rfl (by (try simp only [List.map_toArray, List.map_cons, List.map_nil]); first | done | rfl | (simp only [List.length_drop, List.length_take]; rfl)) ?_; (with_reducible refine (view_Encode.calls _ _ l0 t221 _ ?side1 ?side2 A11.out).mono ?_); (case side1 => repeat (first | exact (Kd.C_below HR0.out HB.out) | (with_reducible refine Kd.C_alloc ?_ _) | (with_reducible refine Kd.C_drewN ?_ _) | (with_reducible refine Kd.C_drew ?_))); (case side2 => exact HC0.out); rintro e w14 ⟨rfl, hb⟩; refine ⟨_, rfl, ?_⟩; have n0_ := Aside0.mk (below_step (by repeat (first | (with_reducible first | exact HB.out | apply below_alloc | apply pw_below_drewN | apply below_drew1) | exact HB.out)) hb); clear HB; have HB := n0_; clear n0_; (try clear hb); (try clear hb2); (try clear hk); (try clear hi)) | ((with_reducible refine gate_callee (f := 12) rfl ?_); refine goesL_ (some 20) rfl rfl Try.func12 (by kernel_rfl) rfl #[.slice A1 l1.length c1] rfl (by (try simp only [List.map_toArray, List.map_cons, List.map_nil]); first | done | rfl | (simp only [List.length_drop, List.length_take]; rfl)) ?_; (with_reducible refine (view_Encode.calls _ _ l1 t222 _ ?side1 ?side2 A12.out).mono ?_); (case side1 => repeat (first | exact (Kd.C_below HR1.out HB.out) | (with_reducible refine Kd.C_alloc ?_ _) | (with_reducible refine Kd.C_drewN ?_ _) | (with_reducible refine Kd.C_drew ?_))); (case side2 => exact HC1.out); rintro e w15 ⟨rfl, hb⟩; refine ⟨_, rfl, ?_⟩; have n0_ := Aside0.mk (below_step (by repeat (first | (with_reducible first | exact HB.out | apply below_alloc | apply pw_below_drewN | apply below_drew1) | exact HB.out)) hb); clear HB; have HB := n0_; clear n0_; (try clear hb); (try clear hb2); (try clear hk); (try clear hi)))
            go_ret
            exact ⟨by first | rfl | (simp [errW_none, errW_some] <;> rfl) | (simp [*, errW_none, errW_some] <;> rfl), by repeat (first | (with_reducible first | exact HB.out | apply below_alloc | apply pw_below_drewN | apply below_drew1) | exact HB.out)⟩
          · rw [if_neg c13] at H
            have c13b0 : decide ((t222.size : Int) < (t221.size : Int)) = false := decide_eq_false c13
            have c13b1 : decide (t222.size < t221.size) = false := decide_eq_false (fun h => c13 (Int.ofNat_lt.mpr h))
            clear c13
            by_cases c16 : 0 ≤ (t221.size : Int)
            · rw [if_pos c16] at H
              have c16b0 := eq_true c16
              have c16b1 : decide (0 ≤ (t221.size : Int)) = true := decide_eq_true c16
              clear c16
              by_cases c17 : (t221.size : Int) ≤ (t222.size : Int)
              · rw [if_pos c17] at H
                have c17b0 := eq_true c17
                have c17b1 : decide ((t221.size : Int) ≤ (t222.size : Int)) = true := decide_eq_true c17
                clear c17
                by_cases c18 : (t222.extract 0 ((t221.size : Int) : Int).toNat).toList = t221.toList
                · rw [if_pos c18] at H
                  have c18b0 : ((t222.extract 0 ((t221.size : Int) : Int).toNat).toList == t221.toList) = true := beq_iff_eq.mpr c18
                  have c18b0z : ((t222.extract 0 t221.size).toList == t221.toList) = true := by have z_ := c18b0; rw [Int.toNat_natCast] at z_; exact z_
                  have c18b1 : ((t222.extract 0 ((t221.size : Int) : Int).toNat).toList != t221.toList) = false := bne_eq_false_iff_eq.mpr c18
                  have c18b1z : ((t222.extract 0 t221.size).toList != t221.toList) = false := by have z_ := c18b1; rw [Int.toNat_natCast] at z_; exact z_
                  clear c18
                  replace H := Option.bind_eq_some_iff.mp H
                  obtain ⟨t223, A190, H⟩ := H
                  replace H : (some t223) = some r := H
                  have A19 := Aside0.mk A190
                  clear A190
                  obtain rfl := Option.some.inj H
                  go_wp2_with (first | ((with_reducible refine gate_callee (f := 12) rfl ?_); refine goesL_ (some 18) rfl rfl Try.func12 (by kernel_rfl) rfl #[.slice A0 l0.length c0] rfl (by (try simp only [List.map_toArray, List.map_cons, List.map_nil]); first | done | rfl | (simp only [List.length_drop, List.length_take]; rfl)) ?_; (with_reducible refine (view_Encode.calls _ _ l0 t221 _ ?side1 ?side2 A11.out).mono ?_); (case side1 => repeat (first | exact (Kd.C_below HR0.out HB.out) | (with_reducible refine Kd.C_alloc ?_ _) | (with_reducible refine Kd.C_drewN ?_ _) | (with_reducible refine Kd.C_drew ?_))); (case side2 => exact HC0.out); rintro e w20 ⟨rfl, hb⟩; refine ⟨_, rfl, ?_⟩; have n0_ := Aside0.mk (below_step (by repeat (first | (with_reducible first | exact HB.out | apply below_alloc | apply pw_below_drewN | apply below_drew1) | exact HB.out)) hb); clear HB; have HB := n0_; clear n0_; (try clear hb); (try clear hb2); (try clear hk); (try clear hi)) | ((with_reducible refine gate_callee (f := 12) rfl ?_); refine goesL_ (some 20) rfl rfl Try.func12 (by kernel_rfl) rfl #[.slice A1 l1.length c1] rfl (by (try simp only [List.map_toArray, List.map_cons, List.map_nil]); first | done | rfl | (simp only [List.length_drop, List.length_take]; rfl)) ?_; (with_reducible refine (view_Encode.calls _ _ l1 t222 _ ?side1 ?side2 A12.out).mono ?_); (case side1 => repeat (first | exact (Kd.C_below HR1.out HB.out) | (with_reducible refine Kd.C_alloc ?_ _) | (with_reducible refine Kd.C_drewN ?_ _) | (with_reducible refine Kd.C_drew ?_))); (case side2 => exact HC1.out); rintro e w21 ⟨rfl, hb⟩; refine ⟨_, rfl, ?_⟩; have n0_ := Aside0.mk (below_step (by repeat (first | (with_reducible first | exact HB.out | apply below_alloc | apply pw_below_drewN | apply below_drew1) | exact HB.out)) hb); clear HB; have HB := n0_; clear n0_; (try clear hb); (try clear hb2); (try clear hk); (try clear hi)) | (go_at_call 18; (with_reducible refine (privityref15_Same.calls kj4 _ _ l0 _ _ l1 t223 _ ?side1 ?side2 ?side3 ?side4 A19.out).mono ?_); (case side1 => repeat (first | exact (Kd.C_below HR0.out HB.out) | (with_reducible refine Kd.C_alloc ?_ _) | (with_reducible refine Kd.C_drewN ?_ _) | (with_reducible refine Kd.C_drew ?_))); (case side2 => exact HC0.out); (case side3 => repeat (first | exact (Kd.C_below HR1.out HB.out) | (with_reducible refine Kd.C_alloc ?_ _) | (with_reducible refine Kd.C_drewN ?_ _) | (with_reducible refine Kd.C_drew ?_))); (case side4 => exact HC1.out); rintro e w22 ⟨rfl, hb⟩; have n0_ := Aside0.mk (below_step (by repeat (first | (with_reducible first | exact HB.out | apply below_alloc | apply pw_below_drewN | apply below_drew1) | exact HB.out)) hb); clear HB; have HB := n0_; clear n0_; (try clear hb); (try clear hb2); (try clear hk); (try clear hi)))
                  go_ret
                  exact ⟨by first | rfl | (simp [errW_none, errW_some] <;> rfl) | (simp [*, errW_none, errW_some] <;> rfl), by repeat (first | (with_reducible first | exact HB.out | apply below_alloc | apply pw_below_drewN | apply below_drew1) | exact HB.out)⟩
                · rw [if_neg c18] at H
                  have c18b0 : ((t222.extract 0 ((t221.size : Int) : Int).toNat).toList == t221.toList) = false := beq_eq_false_iff_ne.mpr c18
                  have c18b0z : ((t222.extract 0 t221.size).toList == t221.toList) = false := by have z_ := c18b0; rw [Int.toNat_natCast] at z_; exact z_
                  have c18b1 : ((t222.extract 0 ((t221.size : Int) : Int).toNat).toList != t221.toList) = true := bne_iff_ne.mpr c18
                  have c18b1z : ((t222.extract 0 t221.size).toList != t221.toList) = true := by have z_ := c18b1; rw [Int.toNat_natCast] at z_; exact z_
                  obtain rfl := Option.some.inj H
                  go_wp2_with (first | ((with_reducible refine gate_callee (f := 12) rfl ?_); refine goesL_ (some 18) rfl rfl Try.func12 (by kernel_rfl) rfl #[.slice A0 l0.length c0] rfl (by (try simp only [List.map_toArray, List.map_cons, List.map_nil]); first | done | rfl | (simp only [List.length_drop, List.length_take]; rfl)) ?_; (with_reducible refine (view_Encode.calls _ _ l0 t221 _ ?side1 ?side2 A11.out).mono ?_); (case side1 => repeat (first | exact (Kd.C_below HR0.out HB.out) | (with_reducible refine Kd.C_alloc ?_ _) | (with_reducible refine Kd.C_drewN ?_ _) | (with_reducible refine Kd.C_drew ?_))); (case side2 => exact HC0.out); rintro e w23 ⟨rfl, hb⟩; refine ⟨_, rfl, ?_⟩; have n0_ := Aside0.mk (below_step (by repeat (first | (with_reducible first | exact HB.out | apply below_alloc | apply pw_below_drewN | apply below_drew1) | exact HB.out)) hb); clear HB; have HB := n0_; clear n0_; (try clear hb); (try clear hb2); (try clear hk); (try clear hi)) | ((with_reducible refine gate_callee (f := 12) rfl ?_); refine goesL_ (some 20) rfl rfl Try.func12 (by kernel_rfl) rfl #[.slice A1 l1.length c1] rfl (by (try simp only [List.map_toArray, List.map_cons, List.map_nil]); first | done | rfl | (simp only [List.length_drop, List.length_take]; rfl)) ?_; (with_reducible refine (view_Encode.calls _ _ l1 t222 _ ?side1 ?side2 A12.out).mono ?_); (case side1 => repeat (first | exact (Kd.C_below HR1.out HB.out) | (with_reducible refine Kd.C_alloc ?_ _) | (with_reducible refine Kd.C_drewN ?_ _) | (with_reducible refine Kd.C_drew ?_))); (case side2 => exact HC1.out); rintro e w24 ⟨rfl, hb⟩; refine ⟨_, rfl, ?_⟩; have n0_ := Aside0.mk (below_step (by repeat (first | (with_reducible first | exact HB.out | apply below_alloc | apply pw_below_drewN | apply below_drew1) | exact HB.out)) hb); clear HB; have HB := n0_; clear n0_; (try clear hb); (try clear hb2); (try clear hk); (try clear hi)))
                  go_ret
                  exact ⟨by first | rfl | (simp [errW_none, errW_some] <;> rfl) | (simp [*, errW_none, errW_some] <;> rfl), by repeat (first | (with_reducible first | exact HB.out | apply below_alloc | apply pw_below_drewN | apply below_drew1) | exact HB.out)⟩
              · rw [if_neg c17] at H
                exact absurd H (by simp)
            · rw [if_neg c16] at H
              exact absurd H (by simp)
  · replace c4 := Bool.eq_false_iff.mpr c4
    subst c4
    have H1 : (some false) = some r := by rw [if_neg (show ¬ (false = true) by decide)] at H; exact H
    clear H
    have H := H1
    clear H1
    obtain rfl := Option.some.inj H
    go_enter Try.func6, Try.ntmps6
    go_wp2_with (first | ((with_reducible refine gate_callee (f := 10) rfl ?_); refine goesL_ (some 7) rfl rfl Try.func10 (by kernel_rfl) rfl #[] rfl (by (try simp only [List.map_toArray, List.map_cons, List.map_nil]); first | done | rfl | (simp only [List.length_drop, List.length_take]; rfl)) ?_; (with_reducible refine (privitylaw15_awake.calls k  false _ A3.out).mono ?_); rintro e w25 ⟨rfl, hb⟩; refine ⟨_, rfl, ?_⟩; have n0_ := Aside0.mk (below_step (by repeat (first | (with_reducible first | exact HB.out | apply below_alloc | apply pw_below_drewN | apply below_drew1) | exact HB.out)) hb); clear HB; have HB := n0_; clear n0_; (try clear hb); (try clear hb2); (try clear hk); (try clear hi)))
    go_ret
    exact ⟨by first | rfl | (simp [errW_none, errW_some] <;> rfl) | (simp [*, errW_none, errW_some] <;> rfl), by repeat (first | (with_reducible first | exact HB.out | apply below_alloc | apply pw_below_drewN | apply below_drew1) | exact HB.out)⟩

end Go.Proofs.Ytojbfgaipkllbaa.P
