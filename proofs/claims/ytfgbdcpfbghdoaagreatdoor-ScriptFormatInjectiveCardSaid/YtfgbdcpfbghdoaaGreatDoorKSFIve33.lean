/- What is proved here: a part of the proof of ScriptFormatInjective: Px21. No conditions beside those that each theorem states. -/
import Derived.Test.YtfgbdcpfbghdoaaGreatDoorKSFIve11
section
namespace Go.Proofs.YtfgbdcpfbghdoaaGreatDoor.P
open Go.RowKit Go.Proofs.YtfgbdcpfbghdoaaGreatDoorW.PrintWords Go.Proofs.YtfgbdcpfbghdoaaGreatDoorW.PrintLast Go.Proofs.YtfgbdcpfbghdoaaGreatDoorW.PrintMore
attribute [local go_sem] max2_int min2_int max_two min_two max_three min_three max_four min_four   -- for this text's walks alone
set_option linter.unusedVariables false
set_option linter.unusedSimpArgs false
mutual
def privityref53_Few.l0 : Nat → List (S36) → Int → Int → Int → Option (Bool)
  | 0, _, _, _, _ => none
  | k + 1, x0, x1, x2, x7 => if x7 < (x0.length : Int) then (privityref53_Few.j1 k x0 x1 x2 x7 (decide (x7 ≤ x1))) else (privityref53_Few.j1 k x0 x1 x2 x7 false)
def privityref53_Few.j1 : Nat → List (S36) → Int → Int → Int → Bool → Option (Bool)
  | 0, _, _, _, _, _ => none
  | k + 1, x0, x1, x2, x7, x18 => if x18 = true then (if 0 ≤ x7 then (if x7 < (x0.length : Int) then (privityref53_Few.l1 k x0 x1 x2 x7 (((rd_T36 x0 x7).f0).size : Int) 0) else (none)) else (none)) else (some (decide ((x0.length : Int) ≤ x1)))
def privityref53_Few.l1 : Nat → List (S36) → Int → Int → Int → Int → Int → Option (Bool)
  | 0, _, _, _, _, _, _ => none
  | k + 1, x0, x1, x2, x7, x8, x9 => if 0 ≤ x7 then (if x7 < (x0.length : Int) then (if x9 < (((rd_T36 x0 x7).f1).length : Int) then (if x9 ≤ 60 then (if 0 ≤ x9 then (privityref53_Few.l1 k x0 x1 x2 x7 (wrap64 (x8 + ((rdOf ByteArray.empty ((rd_T36 x0 x7).f1) x9).size : Int))) (wrap64 (x9 + 1))) else (none)) else (if x8 > x2 then (some false) else (if (((rd_T36 x0 x7).f1).length : Int) > 60 then (some false) else (privityref53_Few.l0 k x0 x1 x2 (wrap64 (x7 + 1)))))) else (if x8 > x2 then (some false) else (if (((rd_T36 x0 x7).f1).length : Int) > 60 then (some false) else (privityref53_Few.l0 k x0 x1 x2 (wrap64 (x7 + 1)))))) else (none)) else (none)
end
def privityref53_Few.f (k : Nat) (l0 : List (S36)) (a1 : Int) (a2 : Int) : Option (Bool) := privityref53_Few.l0 k l0 a1 a2 0
set_option maxHeartbeats 8000000 in
set_option maxRecDepth 100000 in
theorem privityref53_Few.calls (k : Nat) (A0 : Option Addr) (c0 : Nat) (l0 : List (S36)) (a1 : Int) (a2 : Int) (r : Bool) (w : World) (hr0 : Kd.C k36 w A0 l0.length l0) (hc0 : l0.length ≤ c0) (h : privityref53_Few.f k l0 a1 a2 = some r) :
    Calls Tryz.prog 12 #[.slice A0 l0.length c0, .int .i64 a1, .int .i64 a2] w fun e w' => e = .returned (.bool r) ∧ Drawn0 w w' := by
  have HR0 := Aside0.mk hr0
  have HC0 := Aside0.mk hc0
  clear hr0 hc0
  have H : (privityref53_Few.l0 k l0 a1 a2 0) = some r := h
  clear h
  have H' := Aside0.mk H
  clear H
  go_enter Tryz.func12, Tryz.ntmps12
  go_wp2
  go_loopg [7] k (fun kq v7 w' => ∃ (x7_1 : Int), v7 = .int .i64 x7_1 ∧ Aside0 (privityref53_Few.l0 kq l0 a1 a2 x7_1 = some r) ∧ Aside0 (kq ≤ k) ∧ Drawn0 w w')
  case atStart => exact ⟨(0), (by first | rfl | (simp; done) | (simp [*]; done)), H', ⟨Nat.le_refl _⟩, by repeat (first | exact Drawn0.refl _ | apply Drawn0.step)⟩
  case round =>
    clear H'
    try clear c1
    try clear p2
    obtain ⟨x7_1, rfl, HA, HK1, ⟨m1, rfl⟩⟩ := hrel
    cases gk with
    | zero => exact absurd HA.out (by simp [privityref53_Few.l0])
    | succ k1 =>
      have H := HA.out
      clear HA
      simp only [privityref53_Few.l0] at H
      have HC4 := Aside0.mk H
      clear H
      go_upto_region 2 with (fail)
      go_cut [18] (fun v18 wc => ∃ (kq : Nat) (x18_3 : Bool), v18 = .bool x18_3 ∧ Aside0 (privityref53_Few.j1 kq l0 a1 a2 x7_1 x18_3 = some r) ∧ Aside0 (kq ≤ k1) ∧ Drawn0 w wc)
      case first =>
        have H := HC4.out
        clear HC4
        by_cases c5 : x7_1 < (l0.length : Int)
        · rw [if_pos c5] at H
          have c5b0 : decide (x7_1 < (l0.length : Int)) = true := decide_eq_true c5
          clear c5
          (first | rw [c5b0] | (simp only [i64_w, i32_w]; rw [c5b0]) | skip)
          have H' := Aside0.mk H
          clear H
          go_wp2
          go_meet
          case rel => exact ⟨_, (decide (x7_1 ≤ a1)), (by first | rfl | (simp; done) | (simp [*]; done)), H', ⟨by have := HK1.out; first | omega | exact Nat.le_refl _⟩, by repeat (first | exact Drawn0.refl _ | apply Drawn0.step)⟩
        · rw [if_neg c5] at H
          have c5b0 : decide (x7_1 < (l0.length : Int)) = false := decide_eq_false c5
          clear c5
          (first | rw [c5b0] | (simp only [i64_w, i32_w]; rw [c5b0]) | skip)
          have H' := Aside0.mk H
          clear H
          go_wp2
          go_meet
          case rel => exact ⟨_, (false), (by first | rfl | (simp; done) | (simp [*]; done)), H', ⟨by have := HK1.out; first | omega | exact Nat.le_refl _⟩, by repeat (first | exact Drawn0.refl _ | apply Drawn0.step)⟩
      case rest =>
        clear HC4
        try clear c1
        try clear p2
        try clear c5
        try clear c5b0
        try clear p2
        obtain ⟨kq, x18_3, rfl, HA, HJ3, ⟨mc3, rfl⟩⟩ := hcut
        cases kq with
        | zero => exact absurd HA.out (by simp [privityref53_Few.j1])
        | succ kj3 =>
          have H := HA.out
          clear HA
          simp only [privityref53_Few.j1] at H
          by_cases c6 : x18_3 = true
          · subst c6
            have H1 : (if 0 ≤ x7_1 then (if x7_1 < (l0.length : Int) then (privityref53_Few.l1 kj3 l0 a1 a2 x7_1 (((rd_T36 l0 x7_1).f0).size : Int) 0) else (none)) else (none)) = some r := by rw [if_pos rfl] at H; exact H
            clear H
            have H := H1
            clear H1
            by_cases c7 : 0 ≤ x7_1
            · rw [if_pos c7] at H
              have c7b0 : decide (0 ≤ x7_1) = true := decide_eq_true c7
              clear c7
              by_cases c8 : x7_1 < (l0.length : Int)
              · rw [if_pos c8] at H
                have c8b0 : decide (x7_1 < (l0.length : Int)) = true := decide_eq_true c8
                clear c8
                have H' := Aside0.mk H
                clear H
                have p213 : 0 ≤ (x7_1 : Int) := of_decide_eq_true (by first | (with_reducible assumption) | assumption)
                have q213 : x7_1 < (l0.length : Int) := of_decide_eq_true (by first | (with_reducible assumption) | assumption)
                obtain ⟨ad213, A213_1, c213_1, e213, hx213_0, hx213_1, hl213_1, hi213_1⟩ := at_T36 HR0.out x7_1 p213 q213
                cases e213
                have HR213_1 := Aside0.mk hi213_1
                have HC213_1 := Aside0.mk hl213_1
                clear hi213_1 hl213_1
                replace p213 := eq_true p213
                replace q213 := eq_true q213
                go_wp2
                go_loopg [8, 9] kj3 (fun kq v8 v9 w' => ∃ (x8_3 : Int) (x9_3 : Int), v8 = .int .i64 x8_3 ∧ v9 = .int .i64 x9_3 ∧ Aside0 (privityref53_Few.l1 kq l0 a1 a2 x7_1 x8_3 x9_3 = some r) ∧ Aside0 (kq ≤ kj3) ∧ Drawn0 w w')
                case atStart => exact ⟨((((rd_T36 l0 x7_1).f0).size : Int)), (0), (by first | rfl | (simp; done) | (simp [*]; done)), (by first | rfl | (simp; done) | (simp [*]; done)), H', ⟨Nat.le_refl _⟩, by repeat (first | exact Drawn0.refl _ | apply Drawn0.step)⟩
                case round =>
                  clear H'
                  try clear c1
                  try clear c2
                  try clear p2
                  try clear q2
                  try clear hx2
                  try clear c3
                  try clear c5
                  try clear c5b0
                  try clear c6
                  try clear c7
                  try clear c7b0
                  try clear c8
                  try clear c8b0
                  try clear hx213_0
                  try clear hx213_1
                  try clear p2
                  try clear p213
                  try clear q213
                  obtain ⟨x8_3, x9_3, rfl, rfl, HA, HK3, ⟨m3, rfl⟩⟩ := hrel
                  cases gk with
                  | zero => exact absurd HA.out (by simp [privityref53_Few.l1])
                  | succ k3 =>
                    have H := HA.out
                    clear HA
                    simp only [privityref53_Few.l1] at H
                    by_cases c9 : 0 ≤ x7_1
                    · rw [if_pos c9] at H
                      have c9b0 : decide (0 ≤ x7_1) = true := decide_eq_true c9
                      clear c9
                      by_cases c10 : x7_1 < (l0.length : Int)
                      · rw [if_pos c10] at H
                        have c10b0 : decide (x7_1 < (l0.length : Int)) = true := decide_eq_true c10
                        clear c10
                        by_cases c11 : x9_3 < (((rd_T36 l0 x7_1).f1).length : Int)
                        · rw [if_pos c11] at H
                          have c11b0 : decide (x9_3 < (((rd_T36 l0 x7_1).f1).length : Int)) = true := decide_eq_true c11
                          clear c11
                          by_cases c12 : x9_3 ≤ 60
                          · rw [if_pos c12] at H
                            have c12b0 : decide (x9_3 ≤ 60) = true := decide_eq_true c12
                            clear c12
                            by_cases c13 : 0 ≤ x9_3
                            · rw [if_pos c13] at H
                              have c13b0 : decide (0 ≤ x9_3) = true := decide_eq_true c13
                              clear c13
                              have H' := Aside0.mk H
                              clear H
                              have p214 : 0 ≤ (x7_1 : Int) := of_decide_eq_true (by first | (with_reducible assumption) | assumption)
                              have q214 : x7_1 < (l0.length : Int) := of_decide_eq_true (by first | (with_reducible assumption) | assumption)
                              obtain ⟨ad214, A214_1, c214_1, e214, hx214_0, hx214_1, hl214_1, hi214_1⟩ := at_T36 HR0.out x7_1 p214 q214
                              obtain rfl : ad213 = ad214 := (by injection e214)
                              have HR214_1 := Aside0.mk hi214_1
                              have HC214_1 := Aside0.mk hl214_1
                              clear hi214_1 hl214_1
                              replace p214 := eq_true p214
                              replace q214 := eq_true q214
                              have p215 : 0 ≤ (x7_1 : Int) := of_decide_eq_true (by first | (with_reducible assumption) | assumption)
                              have q215 : x7_1 < (l0.length : Int) := of_decide_eq_true (by first | (with_reducible assumption) | assumption)
                              obtain ⟨ad215, A215_1, c215_1, e215, hx215_0, hx215_1, hl215_1, hi215_1⟩ := at_T36 HR0.out x7_1 p215 q215
                              obtain rfl : ad213 = ad215 := (by injection e215)
                              have HR215_1 := Aside0.mk hi215_1
                              have HC215_1 := Aside0.mk hl215_1
                              clear hi215_1 hl215_1
                              replace p215 := eq_true p215
                              replace q215 := eq_true q215
                              have ea_ := Option.some.inj (hx214_1.symm.trans hx215_1)
                              injection ea_ with ea_ en_ ec_
                              subst ea_
                              subst ec_
                              clear en_
                              have p216 : 0 ≤ (x9_3 : Int) := of_decide_eq_true (by first | (with_reducible assumption) | assumption)
                              have q216 : x9_3 < (((rd_T36 l0 x7_1).f1).length : Int) := of_decide_eq_true (by first | (with_reducible assumption) | assumption)
                              obtain ⟨ad216, e216, hx216_0⟩ := Kd.at_string HR215_1.out x9_3 p216 q216
                              cases e216
                              replace p216 := eq_true p216
                              replace q216 := eq_true q216
                              go_wp2
                              go_roundg k3
                              case measure => have := HK1.out; have := HJ3.out; have := HK3.out; omega
                              case rel => exact ⟨(wrap64 (x8_3 + ((rdOf ByteArray.empty ((rd_T36 l0 x7_1).f1) x9_3).size : Int))), (wrap64 (x9_3 + 1)), (by first | rfl | (simp; done) | (simp [*]; done)), (by first | rfl | (simp; done) | (simp [*]; done)), H', ⟨by have := HK1.out; have := HJ3.out; have := HK3.out; omega⟩, by repeat (first | exact Drawn0.refl _ | apply Drawn0.step)⟩
                            · rw [if_neg c13] at H
                              exact absurd H (by simp)
                          · rw [if_neg c12] at H
                            have c12b0 : decide (x9_3 ≤ 60) = false := decide_eq_false c12
                            clear c12
                            by_cases c14 : x8_3 > a2
                            · rw [if_pos c14] at H
                              have c14b0 : decide (a2 < x8_3) = true := decide_eq_true c14
                              clear c14
                              obtain rfl := Option.some.inj H
                              have p214 : 0 ≤ (x7_1 : Int) := of_decide_eq_true (by first | (with_reducible assumption) | assumption)
                              have q214 : x7_1 < (l0.length : Int) := of_decide_eq_true (by first | (with_reducible assumption) | assumption)
                              obtain ⟨ad214, A214_1, c214_1, e214, hx214_0, hx214_1, hl214_1, hi214_1⟩ := at_T36 HR0.out x7_1 p214 q214
                              obtain rfl : ad213 = ad214 := (by injection e214)
                              have HR214_1 := Aside0.mk hi214_1
                              have HC214_1 := Aside0.mk hl214_1
                              clear hi214_1 hl214_1
                              replace p214 := eq_true p214
                              replace q214 := eq_true q214
                              go_wp2
                              go_ret
                              exact ⟨by first | rfl | (simp; done) | (simp [*]; done), by repeat (first | exact Drawn0.refl _ | apply Drawn0.step)⟩
                            · rw [if_neg c14] at H
                              have c14b0 : decide (a2 < x8_3) = false := decide_eq_false c14
                              clear c14
                              by_cases c15 : (((rd_T36 l0 x7_1).f1).length : Int) > 60
                              · rw [if_pos c15] at H
                                have c15b0 : decide (60 < (((rd_T36 l0 x7_1).f1).length : Int)) = true := decide_eq_true c15
                                have c15b1 : decide (60 < ((rd_T36 l0 x7_1).f1).length) = true := decide_eq_true (by omega)
                                clear c15
                                obtain rfl := Option.some.inj H
                                have p214 : 0 ≤ (x7_1 : Int) := of_decide_eq_true (by first | (with_reducible assumption) | assumption)
                                have q214 : x7_1 < (l0.length : Int) := of_decide_eq_true (by first | (with_reducible assumption) | assumption)
                                obtain ⟨ad214, A214_1, c214_1, e214, hx214_0, hx214_1, hl214_1, hi214_1⟩ := at_T36 HR0.out x7_1 p214 q214
                                obtain rfl : ad213 = ad214 := (by injection e214)
                                have HR214_1 := Aside0.mk hi214_1
                                have HC214_1 := Aside0.mk hl214_1
                                clear hi214_1 hl214_1
                                replace p214 := eq_true p214
                                replace q214 := eq_true q214
                                have p217 : 0 ≤ (x7_1 : Int) := of_decide_eq_true (by first | (with_reducible assumption) | assumption)
                                have q217 : x7_1 < (l0.length : Int) := of_decide_eq_true (by first | (with_reducible assumption) | assumption)
                                obtain ⟨ad217, A217_1, c217_1, e217, hx217_0, hx217_1, hl217_1, hi217_1⟩ := at_T36 HR0.out x7_1 p217 q217
                                obtain rfl : ad213 = ad217 := (by injection e217)
                                have HR217_1 := Aside0.mk hi217_1
                                have HC217_1 := Aside0.mk hl217_1
                                clear hi217_1 hl217_1
                                replace p217 := eq_true p217
                                replace q217 := eq_true q217
                                have ea_ := Option.some.inj (hx214_1.symm.trans hx217_1)
                                injection ea_ with ea_ en_ ec_
                                subst ea_
                                subst ec_
                                clear en_
                                go_wp2
                                go_ret
                                exact ⟨by first | rfl | (simp; done) | (simp [*]; done), by repeat (first | exact Drawn0.refl _ | apply Drawn0.step)⟩
                              · rw [if_neg c15] at H
                                have c15b0 : decide (60 < (((rd_T36 l0 x7_1).f1).length : Int)) = false := decide_eq_false c15
                                have c15b1 : decide (60 < ((rd_T36 l0 x7_1).f1).length) = false := decide_eq_false (by omega)
                                clear c15
                                have H' := Aside0.mk H
                                clear H
                                have p214 : 0 ≤ (x7_1 : Int) := of_decide_eq_true (by first | (with_reducible assumption) | assumption)
                                have q214 : x7_1 < (l0.length : Int) := of_decide_eq_true (by first | (with_reducible assumption) | assumption)
                                obtain ⟨ad214, A214_1, c214_1, e214, hx214_0, hx214_1, hl214_1, hi214_1⟩ := at_T36 HR0.out x7_1 p214 q214
                                obtain rfl : ad213 = ad214 := (by injection e214)
                                have HR214_1 := Aside0.mk hi214_1
                                have HC214_1 := Aside0.mk hl214_1
                                clear hi214_1 hl214_1
                                replace p214 := eq_true p214
                                replace q214 := eq_true q214
                                have p217 : 0 ≤ (x7_1 : Int) := of_decide_eq_true (by first | (with_reducible assumption) | assumption)
                                have q217 : x7_1 < (l0.length : Int) := of_decide_eq_true (by first | (with_reducible assumption) | assumption)
                                obtain ⟨ad217, A217_1, c217_1, e217, hx217_0, hx217_1, hl217_1, hi217_1⟩ := at_T36 HR0.out x7_1 p217 q217
                                obtain rfl : ad213 = ad217 := (by injection e217)
                                have HR217_1 := Aside0.mk hi217_1
                                have HC217_1 := Aside0.mk hl217_1
                                clear hi217_1 hl217_1
                                replace p217 := eq_true p217
                                replace q217 := eq_true q217
                                have ea_ := Option.some.inj (hx214_1.symm.trans hx217_1)
                                injection ea_ with ea_ en_ ec_
                                subst ea_
                                subst ec_
                                clear en_
                                go_wp2
                                go_roundg k3
                                case measure => have := HK1.out; have := HJ3.out; have := HK3.out; omega
                                case rel => exact ⟨(wrap64 (x7_1 + 1)), (by first | rfl | (simp; done) | (simp [*]; done)), H', ⟨by have := HK1.out; have := HJ3.out; have := HK3.out; omega⟩, by repeat (first | exact Drawn0.refl _ | apply Drawn0.step)⟩
                        · rw [if_neg c11] at H
                          have c11b0 : decide (x9_3 < (((rd_T36 l0 x7_1).f1).length : Int)) = false := decide_eq_false c11
                          clear c11
                          by_cases c16 : x8_3 > a2
                          · rw [if_pos c16] at H
                            have c16b0 : decide (a2 < x8_3) = true := decide_eq_true c16
                            clear c16
                            obtain rfl := Option.some.inj H
                            have p214 : 0 ≤ (x7_1 : Int) := of_decide_eq_true (by first | (with_reducible assumption) | assumption)
                            have q214 : x7_1 < (l0.length : Int) := of_decide_eq_true (by first | (with_reducible assumption) | assumption)
                            obtain ⟨ad214, A214_1, c214_1, e214, hx214_0, hx214_1, hl214_1, hi214_1⟩ := at_T36 HR0.out x7_1 p214 q214
                            obtain rfl : ad213 = ad214 := (by injection e214)
                            have HR214_1 := Aside0.mk hi214_1
                            have HC214_1 := Aside0.mk hl214_1
                            clear hi214_1 hl214_1
                            replace p214 := eq_true p214
                            replace q214 := eq_true q214
                            go_wp2
                            go_ret
                            exact ⟨by first | rfl | (simp; done) | (simp [*]; done), by repeat (first | exact Drawn0.refl _ | apply Drawn0.step)⟩
                          · rw [if_neg c16] at H
                            have c16b0 : decide (a2 < x8_3) = false := decide_eq_false c16
                            clear c16
                            by_cases c17 : (((rd_T36 l0 x7_1).f1).length : Int) > 60
                            · rw [if_pos c17] at H
                              have c17b0 : decide (60 < (((rd_T36 l0 x7_1).f1).length : Int)) = true := decide_eq_true c17
                              have c17b1 : decide (60 < ((rd_T36 l0 x7_1).f1).length) = true := decide_eq_true (by omega)
                              clear c17
                              obtain rfl := Option.some.inj H
                              have p214 : 0 ≤ (x7_1 : Int) := of_decide_eq_true (by first | (with_reducible assumption) | assumption)
                              have q214 : x7_1 < (l0.length : Int) := of_decide_eq_true (by first | (with_reducible assumption) | assumption)
                              obtain ⟨ad214, A214_1, c214_1, e214, hx214_0, hx214_1, hl214_1, hi214_1⟩ := at_T36 HR0.out x7_1 p214 q214
                              obtain rfl : ad213 = ad214 := (by injection e214)
                              have HR214_1 := Aside0.mk hi214_1
                              have HC214_1 := Aside0.mk hl214_1
                              clear hi214_1 hl214_1
                              replace p214 := eq_true p214
                              replace q214 := eq_true q214
                              have p218 : 0 ≤ (x7_1 : Int) := of_decide_eq_true (by first | (with_reducible assumption) | assumption)
                              have q218 : x7_1 < (l0.length : Int) := of_decide_eq_true (by first | (with_reducible assumption) | assumption)
                              obtain ⟨ad218, A218_1, c218_1, e218, hx218_0, hx218_1, hl218_1, hi218_1⟩ := at_T36 HR0.out x7_1 p218 q218
                              obtain rfl : ad213 = ad218 := (by injection e218)
                              have HR218_1 := Aside0.mk hi218_1
                              have HC218_1 := Aside0.mk hl218_1
                              clear hi218_1 hl218_1
                              replace p218 := eq_true p218
                              replace q218 := eq_true q218
                              have ea_ := Option.some.inj (hx214_1.symm.trans hx218_1)
                              injection ea_ with ea_ en_ ec_
                              subst ea_
                              subst ec_
                              clear en_
                              go_wp2
                              go_ret
                              exact ⟨by first | rfl | (simp; done) | (simp [*]; done), by repeat (first | exact Drawn0.refl _ | apply Drawn0.step)⟩
                            · rw [if_neg c17] at H
                              have c17b0 : decide (60 < (((rd_T36 l0 x7_1).f1).length : Int)) = false := decide_eq_false c17
                              have c17b1 : decide (60 < ((rd_T36 l0 x7_1).f1).length) = false := decide_eq_false (by omega)
                              clear c17
                              have H' := Aside0.mk H
                              clear H
                              have p214 : 0 ≤ (x7_1 : Int) := of_decide_eq_true (by first | (with_reducible assumption) | assumption)
                              have q214 : x7_1 < (l0.length : Int) := of_decide_eq_true (by first | (with_reducible assumption) | assumption)
                              obtain ⟨ad214, A214_1, c214_1, e214, hx214_0, hx214_1, hl214_1, hi214_1⟩ := at_T36 HR0.out x7_1 p214 q214
                              obtain rfl : ad213 = ad214 := (by injection e214)
                              have HR214_1 := Aside0.mk hi214_1
                              have HC214_1 := Aside0.mk hl214_1
                              clear hi214_1 hl214_1
                              replace p214 := eq_true p214
                              replace q214 := eq_true q214
                              have p218 : 0 ≤ (x7_1 : Int) := of_decide_eq_true (by first | (with_reducible assumption) | assumption)
                              have q218 : x7_1 < (l0.length : Int) := of_decide_eq_true (by first | (with_reducible assumption) | assumption)
                              obtain ⟨ad218, A218_1, c218_1, e218, hx218_0, hx218_1, hl218_1, hi218_1⟩ := at_T36 HR0.out x7_1 p218 q218
                              obtain rfl : ad213 = ad218 := (by injection e218)
                              have HR218_1 := Aside0.mk hi218_1
                              have HC218_1 := Aside0.mk hl218_1
                              clear hi218_1 hl218_1
                              replace p218 := eq_true p218
                              replace q218 := eq_true q218
                              have ea_ := Option.some.inj (hx214_1.symm.trans hx218_1)
                              injection ea_ with ea_ en_ ec_
                              subst ea_
                              subst ec_
                              clear en_
                              go_wp2
                              go_roundg k3
                              case measure => have := HK1.out; have := HJ3.out; have := HK3.out; omega
                              case rel => exact ⟨(wrap64 (x7_1 + 1)), (by first | rfl | (simp; done) | (simp [*]; done)), H', ⟨by have := HK1.out; have := HJ3.out; have := HK3.out; omega⟩, by repeat (first | exact Drawn0.refl _ | apply Drawn0.step)⟩
                      · rw [if_neg c10] at H
                        exact absurd H (by simp)
                    · rw [if_neg c9] at H
                      exact absurd H (by simp)
              · rw [if_neg c8] at H
                exact absurd H (by simp)
            · rw [if_neg c7] at H
              exact absurd H (by simp)
          · replace c6 := Bool.eq_false_iff.mpr c6
            subst c6
            have H1 : (some (decide ((l0.length : Int) ≤ a1))) = some r := by rw [if_neg (show ¬ (false = true) by decide)] at H; exact H
            clear H
            have H := H1
            clear H1
            obtain rfl := Option.some.inj H
            go_wp2
            go_ret
            exact ⟨by first | rfl | (simp; done) | (simp [*]; done), by repeat (first | exact Drawn0.refl _ | apply Drawn0.step)⟩
end Go.Proofs.YtfgbdcpfbghdoaaGreatDoor.P
end
