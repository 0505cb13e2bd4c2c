/- What is proved here: a part of the proof of ElectionTally: Px40. No conditions beside those that each theorem states. -/
import Derived.Test.YtkgdhdjkpnalmaaGreatDoorKETly3
import Derived.Test.YtkgdhdjkpnalmaaGreatDoorKETly17
import Derived.Test.YtkgdhdjkpnalmaaGreatDoorKETly19
import Derived.Test.YtkgdhdjkpnalmaaGreatDoorKETly21
import Derived.Test.YtkgdhdjkpnalmaaGreatDoorKETly25
set_option linter.unusedVariables false
set_option linter.unusedSimpArgs false
section
namespace Go.Proofs.YtkgdhdjkpnalmaaGreatDoor.P
open Go.RowKit Go.Proofs.YtkgdhdjkpnalmaaGreatDoorW.PrintWords Go.Proofs.YtkgdhdjkpnalmaaGreatDoorW.PrintLast Go.Proofs.YtkgdhdjkpnalmaaGreatDoorW.PrintMore
attribute [local go_sem] zcd zcc zck zcl zb3 zb2 zca zcb
mutual
def zbh.l0 : Nat → Int → List (S50) → List (S87) → List (S114) → Option (Bool)
 | 0, _, _, _, _ => none
 | k + 1, x3, x476000, x476001, x476002 => if x3 < (x476000.length : Int) then (if 0 ≤ x3 then ((zb9.f k ((zaq x476000 x3).f0)).bind fun t478 => (if t478 = true then (if ((zaq x476000 x3).f1) < 1 then (none) else (if ((zaq x476000 x3).f1) > 13 then (none) else (if ((zaq x476000 x3).f2) < 1 then (none) else (if ((zaq x476000 x3).f2) > 16 then (none) else (if ((zaq x476000 x3).f3) < 0 then (none) else (if ((zaq x476000 x3).f3) > 64 then (none) else (zbh.l0 k (wrap64 (x3 + 1)) x476000 x476001 x476002))))))) else (none))) else (none)) else (zbh.l1 k 0 x476000 x476001 x476002)
def zbh.l1 : Nat → Int → List (S50) → List (S87) → List (S114) → Option (Bool)
 | 0, _, _, _, _ => none
 | k + 1, x5, x476000, x476001, x476002 => if x5 < (x476001.length : Int) then (none) else ((za9.f k x476002 1).bind fun t479 => (if t479 = true then ((za0.f k x476000 x476001 x476002).bind fun t480 => (some (decide ((t480.size : Int) ≤ 20000)))) else (some false)))
end
def zbh.f (k : Nat) (l0_0 : List (S50)) (l0_1 : List (S87)) (l0_2 : List (S114)) : Option (Bool) := zbh.l0 k 0 l0_0 l0_1 l0_2
theorem zbh.mono_l : ∀ k, (∀ y0 y1 y2 y3, LeO (zbh.l0 k y0 y1 y2 y3) (zbh.l0 (k + 1) y0 y1 y2 y3)) ∧ (∀ y0 y1 y2 y3, LeO (zbh.l1 k y0 y1 y2 y3) (zbh.l1 (k + 1) y0 y1 y2 y3))
 | 0 => ⟨fun _ _ _ _ r h => by simp [zbh.l0] at h, fun _ _ _ _ r h => by simp [zbh.l1] at h⟩
 | k + 1 => by
  obtain ⟨ih0, ih1⟩ := zbh.mono_l k; refine ⟨?_, ?_⟩
  ·intro y0 y1 y2 y3
   unfold zbh.l0
   exact (by repeat' first | with_reducible apply ih0 | with_reducible apply ih1 | with_reducible apply zb9.mono | with_reducible apply LeO.refl | with_reducible apply LeO.none | (with_reducible refine LeO.ite ?_ ?_) | (with_reducible refine LeO.bind ?_ (fun _ => ?_)))
  ·intro y0 y1 y2 y3
   unfold zbh.l1
   exact (by repeat' first | with_reducible apply ih0 | with_reducible apply ih1 | with_reducible apply za0.mono | with_reducible apply za9.mono | with_reducible apply LeO.refl | with_reducible apply LeO.none | (with_reducible refine LeO.ite ?_ ?_) | (with_reducible refine LeO.bind ?_ (fun _ => ?_)))
theorem zbh.mono : ∀ a0 a1 a2 k, LeO (zbh.f k a0 a1 a2) (zbh.f (k + 1) a0 a1 a2) := by
 intro a0 a1 a2 k; obtain ⟨ih0, ih1⟩ := zbh.mono_l k; unfold zbh.f
 exact yq36
set_option maxHeartbeats 8000000 in
set_option maxRecDepth 100000 in
theorem zbh.calls (k : Nat) (A0_0 : Option Addr) (c0_0 : Nat) (l0_0 : List (S50)) (A0_1 : Option Addr) (c0_1 : Nat) (l0_1 : List (S87)) (A0_2 : Option Addr) (c0_2 : Nat) (l0_2 : List (S114)) (r : Bool) (w : World) (hr0_0 : Kd.C k50 w A0_0 l0_0.length l0_0) (hc0_0 : l0_0.length ≤ c0_0) (hr0_1 : Kd.C k87 w A0_1 l0_1.length l0_1) (hc0_1 : l0_1.length ≤ c0_1) (hr0_2 : Kd.C k114 w A0_2 l0_2.length l0_2) (hc0_2 : l0_2.length ≤ c0_2) (h : zbh.f k l0_0 l0_1 l0_2 = some r) :
  Calls Tryz.prog 28 #[.agg #[.slice A0_0 l0_0.length c0_0, .slice A0_1 l0_1.length c0_1, .slice A0_2 l0_2.length c0_2]] w fun e w' => e = .returned (.bool r) ∧ Below w.heap.size w w' := by
 have hu33 := Tryz.underlying33; have hu50 := Tryz.underlying50; have hu87 := Tryz.underlying87; have HR0_0 := zA0 hr0_0; have HC0_0 := zA0 hc0_0; clear hr0_0 hc0_0; have HR0_1 := zA0 hr0_1; have HC0_1 := zA0 hc0_1; clear hr0_1 hc0_1; have HR0_2 := zA0 hr0_2; have HC0_2 := zA0 hc0_2; clear hr0_2 hc0_2; have HB := zA0 (Below.refl w.heap.size w); have H : (zbh.l0 k 0 l0_0 l0_1 l0_2) = some r := h; clear h; have H' := zA0 H; clear H; go_enter Tryz.func28, Tryz.ntmps28
 go_wp2_with (first | ((with_reducible refine zbl (N := 1) rfl ?_); (try (refine zda (by rfl) ?_; dsimp only)); refine zbk ?hg (N := 1) ?hd (cs := #[.slice A0_0 l0_0.length c0_0, .slice A0_1 l0_1.length c0_1, .slice A0_2 l0_2.length c0_2]) (t := 33) ?hr ?_; (case hd => rfl); (case hg => rfl); (case hr => first | (go_simp; done) | (go_simp; rfl)); intro gb475 hg w2 hbox hb; have n0_ := zA0 (zak (zs0 HB) hb); have n1_ := zA0 (hbox); have n2_ := zA0 ((yq33 : w.heap.size ≤ gb475)); have n3_ := zA0 ((yq33 : w.heap.size ≤ gb475)); clear HB; revert n0_ n1_ n2_ n3_; intro HB BK475 GW475 GE475; clear hb hbox hg))
 go_loopg [3] k (fun kq v3 w' => ∃ (x3_1 : Int), v3 = .int .i64 x3_1 ∧ Aside0 (zbh.l0 kq x3_1 l0_0 l0_1 l0_2 = some r) ∧ Aside0 (kq ≤ k) ∧ Aside0 (w'.heap[gb475]? = some (.cells #[(.slice A0_0 l0_0.length c0_0), (.slice A0_1 l0_1.length c0_1), (.slice A0_2 l0_2.length c0_2)] 33 (0, 0))) ∧ Aside0 (Below w.heap.size w w'))
 case atStart => exact ⟨(0), yq8, H', ⟨Nat.le_refl _⟩, ⟨yp2 BK475⟩, ⟨yq179⟩⟩
 case round =>
  clear H'; obtain ⟨x3_1, rfl, HA, HK1, BK475, HB⟩ := hrel
  cases gk with
  | zero => exact absurd HA.out (by simp [zbh.l0])
  | succ k1 =>
   have H := HA.out; clear HA; simp only [zbh.l0] at H
   by_cases c3 : x3_1 < (l0_0.length : Int)
   ·rw [if_pos c3] at H
    have c3b0 : decide (x3_1 < (l0_0.length : Int)) = true := decide_eq_true c3; clear c3
    by_cases c4 : 0 ≤ x3_1
    ·rw [if_pos c4] at H
     have c4b0 : decide (0 ≤ x3_1) = true := decide_eq_true c4; clear c4; replace H := Option.bind_eq_some_iff.mp H; obtain ⟨t478, A50, H⟩ := H; replace H : (if t478 = true then (if ((zaq l0_0 x3_1).f1) < 1 then (none) else (if ((zaq l0_0 x3_1).f1) > 13 then (none) else (if ((zaq l0_0 x3_1).f2) < 1 then (none) else (if ((zaq l0_0 x3_1).f2) > 16 then (none) else (if ((zaq l0_0 x3_1).f3) < 0 then (none) else (if ((zaq l0_0 x3_1).f3) > 64 then (none) else (zbh.l0 k1 (wrap64 (x3_1 + 1)) l0_0 l0_1 l0_2))))))) else (none)) = some r := H; have A5 := zA0 A50; clear A50
     by_cases c6 : t478 = true
     ·subst c6
      have H1 : (if ((zaq l0_0 x3_1).f1) < 1 then (none) else (if ((zaq l0_0 x3_1).f1) > 13 then (none) else (if ((zaq l0_0 x3_1).f2) < 1 then (none) else (if ((zaq l0_0 x3_1).f2) > 16 then (none) else (if ((zaq l0_0 x3_1).f3) < 0 then (none) else (if ((zaq l0_0 x3_1).f3) > 64 then (none) else (zbh.l0 k1 (wrap64 (x3_1 + 1)) l0_0 l0_1 l0_2))))))) = some r := yq37
      clear H; have H := H1; clear H1
      by_cases c7 : ((zaq l0_0 x3_1).f1) < 1
      ·rw [if_pos c7] at H
       exact absurd H (by simp)
      ·rw [if_neg c7] at H
       have c7b0 : decide (((zaq l0_0 x3_1).f1) < 1) = false := decide_eq_false c7; clear c7
       by_cases c8 : ((zaq l0_0 x3_1).f1) > 13
       ·rw [if_pos c8] at H
        exact absurd H (by simp)
       ·rw [if_neg c8] at H
        have c8b0 : decide (13 < ((zaq l0_0 x3_1).f1)) = false := decide_eq_false c8; clear c8
        by_cases c9 : ((zaq l0_0 x3_1).f2) < 1
        ·rw [if_pos c9] at H
         exact absurd H (by simp)
        ·rw [if_neg c9] at H
         have c9b0 : decide (((zaq l0_0 x3_1).f2) < 1) = false := decide_eq_false c9; clear c9
         by_cases c10 : ((zaq l0_0 x3_1).f2) > 16
         ·rw [if_pos c10] at H
          exact absurd H (by simp)
         ·rw [if_neg c10] at H
          have c10b0 : decide (16 < ((zaq l0_0 x3_1).f2)) = false := decide_eq_false c10; clear c10
          by_cases c11 : ((zaq l0_0 x3_1).f3) < 0
          ·rw [if_pos c11] at H
           exact absurd H (by simp)
          ·rw [if_neg c11] at H
           have c11b0 : decide (((zaq l0_0 x3_1).f3) < 0) = false := decide_eq_false c11; clear c11
           by_cases c12 : ((zaq l0_0 x3_1).f3) > 64
           ·rw [if_pos c12] at H
            exact absurd H (by simp)
           ·rw [if_neg c12] at H
            have c12b0 : decide (64 < ((zaq l0_0 x3_1).f3)) = false := decide_eq_false c12; clear c12; have H' := zA0 H; clear H; obtain ⟨_, _, _⟩ := zc3 BK475.out; obtain ⟨_, _, _⟩ := zf3 BK475.out; have p476 : 0 ≤ (x3_1 : Int) := of_decide_eq_true yq3; have q476 : x3_1 < (l0_0.length : Int) := of_decide_eq_true yq3; obtain ⟨ad476, e476, hx476_0, hx476_1, hx476_2, hx476_3⟩ := at_T50 HR0_0.out x3_1 p476 q476; cases e476; replace hx476_0 := (HB.out.cell (World.block_lt_of_cell? w _ hx476_0)).trans hx476_0; replace hx476_1 := (HB.out.cell (World.block_lt_of_cell? w _ hx476_1)).trans hx476_1; replace hx476_2 := (HB.out.cell (World.block_lt_of_cell? w _ hx476_2)).trans hx476_2; replace hx476_3 := (HB.out.cell (World.block_lt_of_cell? w _ hx476_3)).trans hx476_3; replace p476 := eq_true p476; replace q476 := eq_true q476
            go_wp2_with (first | ((with_reducible refine zbl (N := 4) rfl ?_); (try (refine zda (by rfl) ?_; dsimp only)); refine zbk ?hg (N := 4) ?hd (cs := #[.string (⟨#[]⟩ : ByteArray), .int .i64 0, .int .i64 0, .int .i64 0]) (t := 50) ?hr ?_; (case hd => rfl); (case hg => rfl); (case hr => first | (go_simp; done) | (go_simp; rfl)); intro gb477 hg w14 hbox hb; have n0_ := zA0 (za7 (g := gb475) (o := .cells #[.slice (some ad476) l0_0.length c0_0, .slice A0_1 l0_1.length c0_1, .slice A0_2 l0_2.length c0_2] 33 (0, 0)) (zb BK475) hb); have n1_ := zA0 (zak yq139 hb); have n2_ := zA0 (hbox); have n3_ := zA0 ((by rw [hg]; exact (zce yq139) : w.heap.size ≤ gb477)); have n4_ := zA0 ((by rw [hg]; exact (zce yq139) : w.heap.size ≤ gb477)); have n5_ := zA0 ((by rw [hg]; exact Nat.ne_of_lt (zcs (g := gb475) (o := .cells #[.slice (some ad476) l0_0.length c0_0, .slice A0_1 l0_1.length c0_1, .slice A0_2 l0_2.length c0_2] 33 (0, 0)) (zb BK475)) : gb475 ≠ gb477)); have n6_ := zA0 ((by rw [hg]; exact Nat.ne_of_gt (zcs (g := gb475) (o := .cells #[.slice (some ad476) l0_0.length c0_0, .slice A0_1 l0_1.length c0_1, .slice A0_2 l0_2.length c0_2] 33 (0, 0)) (zb BK475)) : gb477 ≠ gb475)); clear BK475 HB; revert n0_ n1_ n2_ n3_ n4_ n5_ n6_; intro BK475 HB BK477 GW477 GE477 NB475_477 NB477_475; clear hb hbox hg; have hnb15 := NB477_475.out; have hnc15 := NB475_477.out; obtain ⟨_, _, _, _⟩ := zc4 BK477.out; obtain ⟨_, _, _, _⟩ := zf4 BK477.out) | ((with_reducible refine zax (f := 44) rfl ?_); refine zcg (some 21) rfl rfl Tryz.func44 (by kernel_rfl) rfl #[.string ((zaq l0_0 x3_1).f0)] rfl zt ?_; (with_reducible refine (zb9.calls k1 ((zaq l0_0 x3_1).f0) true _ A5.out).mono ?_); rintro e w17 ⟨rfl, hb⟩; refine ⟨_, rfl, ?_⟩; have n0_ := zA0 (za7 (g := gb475) (o := .cells #[.slice (some ad476) l0_0.length c0_0, .slice A0_1 l0_1.length c0_1, .slice A0_2 l0_2.length c0_2] 33 (0, 0)) (by refine yb1 ?_; refine zbv ?_ NB475_477.out _; refine yb1 ?_; refine zbv ?_ NB475_477.out _; refine yb1 ?_; refine zbv ?_ NB475_477.out _; refine yb1 ?_; refine zbv ?_ NB475_477.out _; refine yb1 ?_; exact BK475.out) hb); have n1_ := zA0 (za7 (g := gb477) (o := .cells #[.string ((zaq l0_0 x3_1).f0), .int .i64 ((zaq l0_0 x3_1).f1), .int .i64 ((zaq l0_0 x3_1).f2), .int .i64 ((zaq l0_0 x3_1).f3)] 50 (0, 0)) (by refine yb1 ?_; refine zaz (cs := #[.string ((zaq l0_0 x3_1).f0), .int .i64 ((zaq l0_0 x3_1).f1), .int .i64 ((zaq l0_0 x3_1).f2), .int .i64 0]) ?_ 3 _ rfl; refine yb1 ?_; refine zaz (cs := #[.string ((zaq l0_0 x3_1).f0), .int .i64 ((zaq l0_0 x3_1).f1), .int .i64 0, .int .i64 0]) ?_ 2 _ rfl; refine yb1 ?_; refine zaz (cs := #[.string ((zaq l0_0 x3_1).f0), .int .i64 0, .int .i64 0, .int .i64 0]) ?_ 1 _ rfl; refine yb1 ?_; refine zaz (cs := #[.string (⟨#[]⟩ : ByteArray), .int .i64 0, .int .i64 0, .int .i64 0]) ?_ 0 _ rfl; refine yb1 ?_; exact BK477.out) hb); have n2_ := zA0 (zak (by first | exact zs2 HB GE475 GE477 | exact zs1 HB GE475 | exact zs0 HB) hb); clear BK475 BK477 HB; revert n0_ n1_ n2_; intro BK475 BK477 HB; clear hb; obtain ⟨_, _, _, _⟩ := zc4 BK477.out; obtain ⟨_, _, _, _⟩ := zf4 BK477.out))
            go_roundg k1
            case measure => have := HK1.out; omega
            case rel => exact ⟨(wrap64 (x3_1 + 1)), yq8, H', ⟨yq93⟩, ⟨yp2 BK475⟩, ⟨by repeat (first | (with_reducible first | exact HB.out | apply zbo | apply za5 | apply zbq | refine zba ?_ GE475.out | refine zba ?_ GE477.out) | exact HB.out)⟩⟩
     ·replace c6 := Bool.eq_false_iff.mpr c6
      subst c6
      have H1 : (none) = some r := yq12
      clear H; have H := H1; clear H1; exact absurd H (by simp)
    ·rw [if_neg c4] at H
     exact absurd H (by simp)
   ·rw [if_neg c3] at H
    have c3b0 : decide (x3_1 < (l0_0.length : Int)) = false := decide_eq_false c3; clear c3; have H' := zA0 H; clear H; obtain ⟨_, _, _⟩ := zc3 BK475.out; obtain ⟨_, _, _⟩ := zf3 BK475.out; go_wp2
    go_loopg [5] k1 (fun kq v5 w' => ∃ (x5_2 : Int), v5 = .int .i64 x5_2 ∧ Aside0 (zbh.l1 kq x5_2 l0_0 l0_1 l0_2 = some r) ∧ Aside0 (kq ≤ k1) ∧ Aside0 (w'.heap[gb475]? = some (.cells #[(.slice A0_0 l0_0.length c0_0), (.slice A0_1 l0_1.length c0_1), (.slice A0_2 l0_2.length c0_2)] 33 (0, 0))) ∧ Aside0 (Below w.heap.size w w'))
    case atStart => exact ⟨(0), yq8, H', ⟨Nat.le_refl _⟩, ⟨yp2 BK475⟩, ⟨yq179⟩⟩
    case round =>
     clear H'; (try clear q4); (try clear hx4); (try clear hx476_0); (try clear hx476_1); (try clear hx476_2); (try clear hx476_3); (try clear q476); obtain ⟨x5_2, rfl, HA, HK2, BK475, HB⟩ := hrel
     cases gk with
     | zero => exact absurd HA.out (by simp [zbh.l1])
     | succ k2 =>
      have H := HA.out; clear HA; simp only [zbh.l1] at H
      by_cases c20 : x5_2 < (l0_1.length : Int)
      ·rw [if_pos c20] at H
       exact absurd H (by simp)
      ·rw [if_neg c20] at H
       have c20b0 : decide (x5_2 < (l0_1.length : Int)) = false := decide_eq_false c20; clear c20; replace H := Option.bind_eq_some_iff.mp H; obtain ⟨t479, A210, H⟩ := H; replace H : (if t479 = true then ((za0.f k2 l0_0 l0_1 l0_2).bind fun t480 => (some (decide ((t480.size : Int) ≤ 20000)))) else (some false)) = some r := H; have A21 := zA0 A210; clear A210
       by_cases c22 : t479 = true
       ·subst c22
        have H1 : ((za0.f k2 l0_0 l0_1 l0_2).bind fun t480 => (some (decide ((t480.size : Int) ≤ 20000)))) = some r := yq37
        clear H; have H := H1; clear H1; replace H := Option.bind_eq_some_iff.mp H; obtain ⟨t480, A230, H⟩ := H; replace H : (some (decide ((t480.size : Int) ≤ 20000))) = some r := H; have A23 := zA0 A230; clear A230; obtain rfl := Option.some.inj H; obtain ⟨_, _, _⟩ := zc3 BK475.out; obtain ⟨_, _, _⟩ := zf3 BK475.out
        go_wp2_with (first | ((with_reducible refine zax (f := 45) rfl ?_); refine zcg (some 81) rfl rfl Tryz.func45 (by kernel_rfl) rfl #[.slice A0_2 l0_2.length c0_2, .int .i64 1] rfl zt ?_; (with_reducible refine (za9.calls k2 _ _ l0_2 1 true _ ?side1 ?side2 A21.out).mono ?_); (case side1 => exact yq105); (case side2 => exact HC0_2.out); rintro e w25 ⟨rfl, hb⟩; refine ⟨_, rfl, ?_⟩; have n0_ := zA0 (za7 (g := gb475) (o := .cells #[.slice A0_0 l0_0.length c0_0, .slice A0_1 l0_1.length c0_1, .slice A0_2 l0_2.length c0_2] 33 (0, 0)) (zb BK475) hb); have n1_ := zA0 (zak yq139 hb); clear BK475 HB; revert n0_ n1_; intro BK475 HB; clear hb; obtain ⟨_, _, _⟩ := zc3 BK475.out; obtain ⟨_, _, _⟩ := zf3 BK475.out) | (go_at_call 46; (with_reducible refine (za0.calls k2 _ _ l0_0 _ _ l0_1 _ _ l0_2 t480 _ ?side1 ?side2 ?side3 ?side4 ?side5 ?side6 A23.out).mono ?_); (case side1 => exact (by repeat (first | exact (Kd.C_below HR0_0.out HB.out) | (with_reducible refine Kd.C_alloc ?_ _) | (with_reducible refine Kd.C_drewN ?_ _) | (with_reducible refine Kd.C_drew ?_)))); (case side2 => exact HC0_0.out); (case side3 => exact (by repeat (first | exact (Kd.C_below HR0_1.out HB.out) | (with_reducible refine Kd.C_alloc ?_ _) | (with_reducible refine Kd.C_drewN ?_ _) | (with_reducible refine Kd.C_drew ?_)))); (case side4 => exact HC0_1.out); (case side5 => exact yq105); (case side6 => exact HC0_2.out); rintro e w27 ⟨rfl, hb⟩; have n0_ := zA0 (za7 (g := gb475) (o := .cells #[.slice A0_0 l0_0.length c0_0, .slice A0_1 l0_1.length c0_1, .slice A0_2 l0_2.length c0_2] 33 (0, 0)) (zb BK475) hb); have n1_ := zA0 (zak yq139 hb); clear BK475 HB; revert n0_ n1_; intro BK475 HB; clear hb))
        go_ret; exact ⟨yq6, yq139⟩
       ·replace c22 := Bool.eq_false_iff.mpr c22
        subst c22
        have H1 : (some false) = some r := yq12
        clear H; have H := H1; clear H1; obtain rfl := Option.some.inj H; obtain ⟨_, _, _⟩ := zc3 BK475.out; obtain ⟨_, _, _⟩ := zf3 BK475.out
        go_wp2_with (first | ((with_reducible refine zax (f := 45) rfl ?_); refine zcg (some 81) rfl rfl Tryz.func45 (by kernel_rfl) rfl #[.slice A0_2 l0_2.length c0_2, .int .i64 1] rfl zt ?_; (with_reducible refine (za9.calls k2 _ _ l0_2 1 false _ ?side1 ?side2 A21.out).mono ?_); (case side1 => exact yq105); (case side2 => exact HC0_2.out); rintro e w29 ⟨rfl, hb⟩; refine ⟨_, rfl, ?_⟩; have n0_ := zA0 (za7 (g := gb475) (o := .cells #[.slice A0_0 l0_0.length c0_0, .slice A0_1 l0_1.length c0_1, .slice A0_2 l0_2.length c0_2] 33 (0, 0)) (zb BK475) hb); have n1_ := zA0 (zak yq139 hb); clear BK475 HB; revert n0_ n1_; intro BK475 HB; clear hb))
        go_ret; exact ⟨yq6, yq139⟩
end Go.Proofs.YtkgdhdjkpnalmaaGreatDoor.P
end
