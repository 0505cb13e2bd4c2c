-- Written by a program of this session (wip/gen.py, over the kit's print).
import Derived.Test.YtlbjedokfbdnbaaDoorPx0
import Derived.Test.YtlbjedokfbdnbaaDoorPx7
namespace Go.Proofs.YtlbjedokfbdnbaaDoor.P
open Go.RowKit Go.Proofs.YtlbjedokfbdnbaaDoorW.PrintWords Go.Proofs.YtlbjedokfbdnbaaDoorW.PrintLast Go.Proofs.YtlbjedokfbdnbaaDoorW.PrintMore
attribute [local go_sem] max2_int min2_int max_two min_two max_three min_three max_four min_four   -- for this text's walks alone
set_option linter.unusedVariables false
set_option linter.unusedSimpArgs false

/-! ### privityref52_Once: function 12 -/
def privityref52_Once.l0 : Nat → List Int → Int → Option (Bool)
  | 0, _, _ => none
  | k + 1, x0, x3 => if x3 < (x0.length : Int) then (if 0 ≤ x3 then (if x3 ≤ (x0.length : Int) then ((privityref52_has.f k (x0.take (x3 : Int).toNat) (rd x0 x3)).bind fun t183 => (if t183 = true then (some false) else (privityref52_Once.l0 k x0 (wrap64 (x3 + 1))))) else (none)) else (none)) else (some true)
def privityref52_Once.f (k : Nat) (l0 : List Int) : Option (Bool) := privityref52_Once.l0 k l0 0
theorem privityref52_Once.mono_l : ∀ k, (∀ y0 y1, LeO (privityref52_Once.l0 k y0 y1) (privityref52_Once.l0 (k + 1) y0 y1))
  | 0 => fun _ _ r h => by simp [privityref52_Once.l0] at h
  | k + 1 => by
    have ih0 := privityref52_Once.mono_l k
    · intro y0 y1
      unfold privityref52_Once.l0
      repeat' first
      | (with_reducible exact ih0 _ _)
      | (with_reducible exact privityref52_has.mono _ _ _)
      | (with_reducible exact LeO.refl _)
      | (with_reducible exact LeO.none _)
      | (with_reducible refine LeO.ite ?_ ?_)
      | (with_reducible refine LeO.bind ?_ (fun _ => ?_))
      | exact ih0 _ _
      | exact privityref52_has.mono _ _ _
      | exact LeO.none _
      | refine LeO.ite ?_ ?_
      | refine LeO.bind ?_ (fun _ => ?_)
theorem privityref52_Once.mono : ∀ a0 k, LeO (privityref52_Once.f k a0) (privityref52_Once.f (k + 1) a0) := by
  intro a0 k
  have ih0 := privityref52_Once.mono_l k
  unfold privityref52_Once.f
  repeat' first
      | (with_reducible exact ih0 _ _)
      | (with_reducible exact privityref52_has.mono _ _ _)
      | (with_reducible exact LeO.refl _)
      | (with_reducible exact LeO.none _)
      | (with_reducible refine LeO.ite ?_ ?_)
      | (with_reducible refine LeO.bind ?_ (fun _ => ?_))
      | exact ih0 _ _
      | exact privityref52_has.mono _ _ _
      | exact LeO.none _
      | refine LeO.ite ?_ ?_
      | refine LeO.bind ?_ (fun _ => ?_)
set_option maxHeartbeats 8000000 in
set_option maxRecDepth 100000 in
theorem privityref52_Once.calls (k : Nat) (A0 : Option Addr) (c0 : Nat) (l0 : List Int) (r : Bool) (w : World) (hr0 : Kd.C (Kd.int .u64) w A0 l0.length l0) (hc0 : l0.length ≤ c0) (h : privityref52_Once.f k l0 = some r) :
    Calls Tryd.prog 12 #[.slice A0 l0.length c0] w fun e w' => e = .returned (.bool r) ∧ Drawn0 w w' := by
  have HR0 := Aside0.mk hr0
  have HC0 := Aside0.mk hc0
  clear hr0 hc0
  have H : (privityref52_Once.l0 k l0 0) = some r := h
  clear h
  have H' := Aside0.mk H
  clear H
  go_enter Tryd.func12, Tryd.ntmps12
  go_wp2
  repeat (go_quiet (fail); try go_wp2)
  go_loopg [3] k (fun kq v3 w' => ∃ (x3_1 : Int), v3 = .int .i64 x3_1 ∧ Aside0 (privityref52_Once.l0 kq l0 x3_1 = some r) ∧ Aside0 (kq ≤ k) ∧ Drawn0 w w')
  case atStart => exact ⟨(0), (by first | rfl | (simp; done) | (simp [*]; done)), H', ⟨Nat.le_refl _⟩, by repeat (first | exact Drawn0.refl _ | apply Drawn0.step)⟩
  case round =>
    clear H'
    try clear c1
    obtain ⟨x3_1, rfl, HA, HK1, ⟨m1, rfl⟩⟩ := hrel
    cases gk with
    | zero => exact absurd HA.out (by simp [privityref52_Once.l0])
    | succ k1 =>
      have H := HA.out
      clear HA
      simp only [privityref52_Once.l0] at H
      by_cases c2 : x3_1 < (l0.length : Int)
      · rw [if_pos c2] at H
        have c2b0 : decide (x3_1 < (l0.length : Int)) = true := decide_eq_true c2
        clear c2
        by_cases c3 : 0 ≤ x3_1
        · rw [if_pos c3] at H
          have c3b0 := eq_true c3
          have c3b1 : decide (0 ≤ x3_1) = true := decide_eq_true c3
          clear c3
          by_cases c4 : x3_1 ≤ (l0.length : Int)
          · rw [if_pos c4] at H
            have c4b0 := eq_true c4
            have c4b1 : decide (x3_1 ≤ (l0.length : Int)) = true := decide_eq_true c4
            clear c4
            replace H := Option.bind_eq_some_iff.mp H
            obtain ⟨t183, A50, H⟩ := H
            replace H : (if t183 = true then (some false) else (privityref52_Once.l0 k1 l0 (wrap64 (x3_1 + 1)))) = some r := H
            have A5 := Aside0.mk A50
            clear A50
            by_cases c6 : t183 = true
            · subst c6
              have H1 : (some false) = some r := by rw [if_pos rfl] at H; exact H
              clear H
              have H := H1
              clear H1
              obtain rfl := Option.some.inj H
              obtain ⟨i07, hi07, _, hsz7, _⟩ := info_parts info26
              obtain ⟨hcut7, hA7, hC7⟩ := print_take_of (P := Tryd.prog) (Value.int .u64) 0 22 26 .i64 Tryd.underlying22 hi07 hsz7 A0 c0 l0 x3_1 (of_decide_eq_true (by first | (with_reducible assumption) | assumption)) (of_decide_eq_true (by first | (with_reducible assumption) | assumption)) HC0.out
              have HR181 := Aside0.mk (Kd.C_of_reads (h1 := fun _ => rfl) (hA7 _ (Kd.reads_of_C HR0.out)))
              have HC181 := Aside0.mk hC7
              clear hA7 hC7 hi07 hsz7
              have p182 : 0 ≤ (x3_1 : Int) := of_decide_eq_true (by first | (with_reducible assumption) | assumption)
              have q182 : x3_1 < (l0.length : Int) := of_decide_eq_true (by first | (with_reducible assumption) | assumption)
              obtain ⟨ad182, e182, hx182_0⟩ := Kd.at_int HR0.out x3_1 p182 q182
              cases e182
              replace p182 := eq_true p182
              replace q182 := eq_true q182
              have hl_ : (l0.take (x3_1 : Int).toNat).length = x3_1.toNat := by rw [List.length_take]; have d_ := of_decide_eq_true c4b1; omega
              have HCL_ : Aside0 (∀ W : World, Kd.C (Kd.int .u64) W (some ad182) (l0.take (x3_1 : Int).toNat).length (l0.take (x3_1 : Int).toNat) → Calls Tryd.prog 15 #[.slice (some ad182) x3_1.toNat c0, .int .u64 (rd l0 x3_1)] W fun e w' => e = .returned (.bool true) ∧ Drawn0 W w') := ⟨fun W h_ => by have z_ := privityref52_has.calls k1 (some ad182) c0 (l0.take (x3_1 : Int).toNat) (rd l0 x3_1) true W h_ HC181.out A5.out; rw [hl_] at z_; exact z_⟩
              clear hl_
              go_wp2_with (first | (go_at_call 15; (with_reducible refine (HCL_.out _ ?side1).mono ?_); (case side1 => repeat (first | exact HR181.out | (with_reducible refine Kd.C_alloc ?_ _) | (with_reducible refine Kd.C_drewN ?_ _) | (with_reducible refine Kd.C_drew ?_))); rintro e w' ⟨rfl, ⟨nd, rfl⟩⟩; (try first | exact ⟨rfl, _, World.drewN_drewN _ _ _⟩ | exact ⟨rfl, _, Eq.trans (World.drewN_drewN _ _ _) (congrArg (World.drewN _) (Nat.add_assoc _ _ _))⟩)))
              have hl_ : (l0.take (x3_1 : Int).toNat).length = x3_1.toNat := by rw [List.length_take]; have d_ := of_decide_eq_true c4b1; omega
              have HCL_ : Aside0 (∀ W : World, Kd.C (Kd.int .u64) W (some ad182) (l0.take (x3_1 : Int).toNat).length (l0.take (x3_1 : Int).toNat) → Calls Tryd.prog 15 #[.slice (some ad182) x3_1.toNat c0, .int .u64 (rd l0 x3_1)] W fun e w' => e = .returned (.bool true) ∧ Drawn0 W w') := ⟨fun W h_ => by have z_ := privityref52_has.calls k1 (some ad182) c0 (l0.take (x3_1 : Int).toNat) (rd l0 x3_1) true W h_ HC181.out A5.out; rw [hl_] at z_; exact z_⟩
              clear hl_
              repeat (go_quiet (first | (go_at_call 15; (with_reducible refine (HCL_.out _ ?side1).mono ?_); (case side1 => repeat (first | exact HR181.out | (with_reducible refine Kd.C_alloc ?_ _) | (with_reducible refine Kd.C_drewN ?_ _) | (with_reducible refine Kd.C_drew ?_))); rintro e w' ⟨rfl, ⟨nd, rfl⟩⟩; (try first | exact ⟨rfl, _, World.drewN_drewN _ _ _⟩ | exact ⟨rfl, _, Eq.trans (World.drewN_drewN _ _ _) (congrArg (World.drewN _) (Nat.add_assoc _ _ _))⟩))); try go_wp2_with (first | (go_at_call 15; (with_reducible refine (HCL_.out _ ?side1).mono ?_); (case side1 => repeat (first | exact HR181.out | (with_reducible refine Kd.C_alloc ?_ _) | (with_reducible refine Kd.C_drewN ?_ _) | (with_reducible refine Kd.C_drew ?_))); rintro e w' ⟨rfl, ⟨nd, rfl⟩⟩; (try first | exact ⟨rfl, _, World.drewN_drewN _ _ _⟩ | exact ⟨rfl, _, Eq.trans (World.drewN_drewN _ _ _) (congrArg (World.drewN _) (Nat.add_assoc _ _ _))⟩))))
              go_ret
              exact ⟨by first | rfl | (simp; done) | (simp [*]; done), by repeat (first | exact Drawn0.refl _ | apply Drawn0.step)⟩
            · replace c6 := Bool.eq_false_iff.mpr c6
              subst c6
              have H1 : (privityref52_Once.l0 k1 l0 (wrap64 (x3_1 + 1))) = some r := by rw [if_neg (show ¬ (false = true) by decide)] at H; exact H
              clear H
              have H := H1
              clear H1
              have H' := Aside0.mk H
              clear H
              obtain ⟨i08, hi08, _, hsz8, _⟩ := info_parts info26
              obtain ⟨hcut8, hA8, hC8⟩ := print_take_of (P := Tryd.prog) (Value.int .u64) 0 22 26 .i64 Tryd.underlying22 hi08 hsz8 A0 c0 l0 x3_1 (of_decide_eq_true (by first | (with_reducible assumption) | assumption)) (of_decide_eq_true (by first | (with_reducible assumption) | assumption)) HC0.out
              have HR181 := Aside0.mk (Kd.C_of_reads (h1 := fun _ => rfl) (hA8 _ (Kd.reads_of_C HR0.out)))
              have HC181 := Aside0.mk hC8
              clear hA8 hC8 hi08 hsz8
              have p182 : 0 ≤ (x3_1 : Int) := of_decide_eq_true (by first | (with_reducible assumption) | assumption)
              have q182 : x3_1 < (l0.length : Int) := of_decide_eq_true (by first | (with_reducible assumption) | assumption)
              obtain ⟨ad182, e182, hx182_0⟩ := Kd.at_int HR0.out x3_1 p182 q182
              cases e182
              replace p182 := eq_true p182
              replace q182 := eq_true q182
              have hl_ : (l0.take (x3_1 : Int).toNat).length = x3_1.toNat := by rw [List.length_take]; have d_ := of_decide_eq_true c4b1; omega
              have HCL_ : Aside0 (∀ W : World, Kd.C (Kd.int .u64) W (some ad182) (l0.take (x3_1 : Int).toNat).length (l0.take (x3_1 : Int).toNat) → Calls Tryd.prog 15 #[.slice (some ad182) x3_1.toNat c0, .int .u64 (rd l0 x3_1)] W fun e w' => e = .returned (.bool false) ∧ Drawn0 W w') := ⟨fun W h_ => by have z_ := privityref52_has.calls k1 (some ad182) c0 (l0.take (x3_1 : Int).toNat) (rd l0 x3_1) false W h_ HC181.out A5.out; rw [hl_] at z_; exact z_⟩
              clear hl_
              go_wp2_with (first | (go_at_call 15; (with_reducible refine (HCL_.out _ ?side1).mono ?_); (case side1 => repeat (first | exact HR181.out | (with_reducible refine Kd.C_alloc ?_ _) | (with_reducible refine Kd.C_drewN ?_ _) | (with_reducible refine Kd.C_drew ?_))); rintro e w' ⟨rfl, ⟨nd, rfl⟩⟩; (try first | exact ⟨rfl, _, World.drewN_drewN _ _ _⟩ | exact ⟨rfl, _, Eq.trans (World.drewN_drewN _ _ _) (congrArg (World.drewN _) (Nat.add_assoc _ _ _))⟩)))
              have hl_ : (l0.take (x3_1 : Int).toNat).length = x3_1.toNat := by rw [List.length_take]; have d_ := of_decide_eq_true c4b1; omega
              have HCL_ : Aside0 (∀ W : World, Kd.C (Kd.int .u64) W (some ad182) (l0.take (x3_1 : Int).toNat).length (l0.take (x3_1 : Int).toNat) → Calls Tryd.prog 15 #[.slice (some ad182) x3_1.toNat c0, .int .u64 (rd l0 x3_1)] W fun e w' => e = .returned (.bool false) ∧ Drawn0 W w') := ⟨fun W h_ => by have z_ := privityref52_has.calls k1 (some ad182) c0 (l0.take (x3_1 : Int).toNat) (rd l0 x3_1) false W h_ HC181.out A5.out; rw [hl_] at z_; exact z_⟩
              clear hl_
              repeat (go_quiet (first | (go_at_call 15; (with_reducible refine (HCL_.out _ ?side1).mono ?_); (case side1 => repeat (first | exact HR181.out | (with_reducible refine Kd.C_alloc ?_ _) | (with_reducible refine Kd.C_drewN ?_ _) | (with_reducible refine Kd.C_drew ?_))); rintro e w' ⟨rfl, ⟨nd, rfl⟩⟩; (try first | exact ⟨rfl, _, World.drewN_drewN _ _ _⟩ | exact ⟨rfl, _, Eq.trans (World.drewN_drewN _ _ _) (congrArg (World.drewN _) (Nat.add_assoc _ _ _))⟩))); try go_wp2_with (first | (go_at_call 15; (with_reducible refine (HCL_.out _ ?side1).mono ?_); (case side1 => repeat (first | exact HR181.out | (with_reducible refine Kd.C_alloc ?_ _) | (with_reducible refine Kd.C_drewN ?_ _) | (with_reducible refine Kd.C_drew ?_))); rintro e w' ⟨rfl, ⟨nd, rfl⟩⟩; (try first | exact ⟨rfl, _, World.drewN_drewN _ _ _⟩ | exact ⟨rfl, _, Eq.trans (World.drewN_drewN _ _ _) (congrArg (World.drewN _) (Nat.add_assoc _ _ _))⟩))))
              go_roundg k1
              case measure => have := HK1.out; omega
              case rel => exact ⟨(wrap64 (x3_1 + 1)), (by first | rfl | (simp; done) | (simp [*]; done)), H', ⟨by have := HK1.out; omega⟩, by repeat (first | exact Drawn0.refl _ | apply Drawn0.step)⟩
          · rw [if_neg c4] at H
            exact absurd H (by simp)
        · rw [if_neg c3] at H
          exact absurd H (by simp)
      · rw [if_neg c2] at H
        have c2b0 : decide (x3_1 < (l0.length : Int)) = false := decide_eq_false c2
        clear c2
        obtain rfl := Option.some.inj H
        go_wp2
        repeat (go_quiet (fail); try go_wp2)
        go_ret
        exact ⟨by first | rfl | (simp; done) | (simp [*]; done), by repeat (first | exact Drawn0.refl _ | apply Drawn0.step)⟩

end Go.Proofs.YtlbjedokfbdnbaaDoor.P
