/- What is proved here: a part of the proof of ElectionTally: Px34, Px35. No conditions beside those that each theorem states. -/
import Derived.Test.YtkgdhdjkpnalmaaGreatDoorKETly3
import Derived.Test.YtkgdhdjkpnalmaaGreatDoorKETly21
set_option linter.unusedVariables false
set_option linter.unusedSimpArgs false
section
namespace Go.Proofs.YtkgdhdjkpnalmaaGreatDoor.P
open Go.RowKit Go.Proofs.YtkgdhdjkpnalmaaGreatDoorW.PrintWords Go.Proofs.YtkgdhdjkpnalmaaGreatDoorW.PrintLast Go.Proofs.YtkgdhdjkpnalmaaGreatDoorW.PrintMore
attribute [local go_sem] zcd zcc zck zcl zb3 zb2 zca zcb
def zc0.f (a0 : Int) : Option (ByteArray) := (some (([(⟨#[43]⟩ : ByteArray), (⟨#[45]⟩ : ByteArray), (⟨#[42]⟩ : ByteArray), (⟨#[60]⟩ : ByteArray), (⟨#[61, 61]⟩ : ByteArray), (⟨#[38]⟩ : ByteArray), (⟨#[124]⟩ : ByteArray)] : List ByteArray) : List ByteArray)).bind fun y443 => (if 0 ≤ (wrap64 (a0 - 1)) then (if (wrap64 (a0 - 1)) < (y443.length : Int) then (some (rdOf ByteArray.empty y443 (wrap64 (a0 - 1)))) else (none)) else (none))
set_option maxHeartbeats 8000000 in
set_option maxRecDepth 100000 in
theorem zc0.calls (a0 : Int) (r : ByteArray) (w : World) (h : zc0.f a0 = some r) :
  Calls Tryz.prog 89 #[.int .i64 a0] w fun e w' => e = .returned (.string r) ∧ Below w.heap.size w w' := by
 have HB := zA0 (Below.refl w.heap.size w); have H : ((some (([(⟨#[43]⟩ : ByteArray), (⟨#[45]⟩ : ByteArray), (⟨#[42]⟩ : ByteArray), (⟨#[60]⟩ : ByteArray), (⟨#[61, 61]⟩ : ByteArray), (⟨#[38]⟩ : ByteArray), (⟨#[124]⟩ : ByteArray)] : List ByteArray) : List ByteArray)).bind fun y443 => (if 0 ≤ (wrap64 (a0 - 1)) then (if (wrap64 (a0 - 1)) < (y443.length : Int) then (some (rdOf ByteArray.empty y443 (wrap64 (a0 - 1)))) else (none)) else (none))) = some r := h; clear h
 obtain ⟨y443, hy443⟩ : ∃ y_ : List ByteArray, y_ = (([(⟨#[43]⟩ : ByteArray), (⟨#[45]⟩ : ByteArray), (⟨#[42]⟩ : ByteArray), (⟨#[60]⟩ : ByteArray), (⟨#[61, 61]⟩ : ByteArray), (⟨#[38]⟩ : ByteArray), (⟨#[124]⟩ : ByteArray)] : List ByteArray)) := ⟨_, rfl⟩
 replace H : (if 0 ≤ (wrap64 (a0 - 1)) then (if (wrap64 (a0 - 1)) < (y443.length : Int) then (some (rdOf ByteArray.empty y443 (wrap64 (a0 - 1)))) else (none)) else (none)) = some r := yr hy443 H
 have Ny443 := zA0 hy443; clear hy443
 obtain ⟨ji2, hji2⟩ : ∃ j_ : Int, (wrap64 (a0 - 1)) = j_ := ⟨_, rfl⟩
 replace H : (if 0 ≤ (ji2) then (if (ji2) < (y443.length : Int) then (some (rdOf ByteArray.empty y443 (ji2))) else (none)) else (none)) = some r := by first | (rw [hji2] at H; exact H) | (simp only [hji2] at H ⊢; exact H)
 have hji2w : (IntKind.i64.wrap (a0 - 1)) = ji2 := (zc9 _).trans hji2
 by_cases c3 : 0 ≤ (ji2)
 ·rw [if_pos c3] at H
  have c3b0 : decide (0 ≤ (ji2)) = true := decide_eq_true c3; clear c3
  by_cases c4 : (ji2) < (y443.length : Int)
  ·rw [if_pos c4] at H
   have c4b0 : decide ((ji2) < (y443.length : Int)) = true := decide_eq_true c4; clear c4; obtain rfl := Option.some.inj H; go_enter Tryz.func89, Tryz.ntmps89
   go_wp2_with (first | ((with_reducible refine zbl (N := 4) rfl ?_); refine Kd.R_lit Kd.string _ 9 ?hg (N := 4) ?hd (xs := ([(⟨#[43]⟩ : ByteArray), (⟨#[45]⟩ : ByteArray), (⟨#[42]⟩ : ByteArray), (⟨#[60]⟩ : ByteArray), (⟨#[61, 61]⟩ : ByteArray), (⟨#[38]⟩ : ByteArray), (⟨#[124]⟩ : ByteArray)] : List ByteArray)) (inner := [.string (⟨#[43]⟩ : ByteArray), .string (⟨#[45]⟩ : ByteArray), .string (⟨#[42]⟩ : ByteArray), .string (⟨#[60]⟩ : ByteArray), .string (⟨#[61, 61]⟩ : ByteArray), .string (⟨#[38]⟩ : ByteArray), .string (⟨#[124]⟩ : ByteArray)]) (ok := fun _ => True) (okp := fun _ => True) ?hr ?hp (fun _ hk => hk) trivial (Below.refl _ _) (Nat.le_refl _) (by simp) ?_; (case hd => rfl); (case hg => rfl); (case hr => first | (go_simp; done) | (go_simp; rfl)); (case hp => exact (Reps.one (show Kd.M Kd.string _ _ _ (⟨#[43]⟩ : ByteArray) [.string (⟨#[43]⟩ : ByteArray)] from rfl) (Reps.one (show Kd.M Kd.string _ _ _ (⟨#[45]⟩ : ByteArray) [.string (⟨#[45]⟩ : ByteArray)] from rfl) (Reps.one (show Kd.M Kd.string _ _ _ (⟨#[42]⟩ : ByteArray) [.string (⟨#[42]⟩ : ByteArray)] from rfl) (Reps.one (show Kd.M Kd.string _ _ _ (⟨#[60]⟩ : ByteArray) [.string (⟨#[60]⟩ : ByteArray)] from rfl) (Reps.one (show Kd.M Kd.string _ _ _ (⟨#[61, 61]⟩ : ByteArray) [.string (⟨#[61, 61]⟩ : ByteArray)] from rfl) (Reps.one (show Kd.M Kd.string _ _ _ (⟨#[38]⟩ : ByteArray) [.string (⟨#[38]⟩ : ByteArray)] from rfl) (Reps.one (show Kd.M Kd.string _ _ _ (⟨#[124]⟩ : ByteArray) [.string (⟨#[124]⟩ : ByteArray)] from rfl) (Reps.none _ _))))))))); intro v444 w5 ho6 hb hg_ hnew_; clear hg_ hnew_; (first | rw [← Ny443.out] at ho6 | (simp only [Int.reduceToNat] at ho6; rw [← Ny443.out] at ho6)); have n0_ := zA0 (Kd.R_lower ho6 (zce (zs0 HB))); have n1_ := zA0 (zak (zs0 HB) hb); clear HB; revert n0_ n1_; intro HO445 HB; clear hb ho6; obtain ⟨Ao7, co7, eo7⟩ := Kd.R_slice HO445.out; subst eo7; have p446 : 0 ≤ ((ji2) : Int) := of_decide_eq_true yq3; have q446 : (ji2) < (y443.length : Int) := of_decide_eq_true yq3; obtain ⟨ad446, e446, hx446_0⟩ := Kd.at_string (Kd.R_reads' HO445.out).2.2 (ji2) p446 q446; cases e446; replace p446 := eq_true p446; replace q446 := eq_true q446))
   go_ret; exact ⟨by first | rfl | (simp [zdp, zdn] <;> rfl) | (simp only [← hji2]; first | rfl | (simp [zdp, zdn] <;> rfl)) | (simp [*, zdp, zdn] <;> rfl), zs0 HB⟩
  ·rw [if_neg c4] at H
   exact absurd H (by simp)
 ·rw [if_neg c3] at H
  exact absurd H (by simp)
mutual
def za6.f : Nat → Int → Int → Int → ByteArray → List (S117) → Int → Option (ByteArray)
 | 0, _, _, _, _, _, _ => none
 | k + 1, a0_0, a0_1, a0_2, a0_3, l0_4, a1 => (zcv.f a0_0 a0_1 a0_2 a0_3 l0_4).bind fun t448 => (if t448 < a1 then ((zat.f k a0_0 a0_1 a0_2 a0_3 l0_4).bind fun t449 => (if 1 + t449.size ≤ 9223372036854775807 then (if ((⟨#[40]⟩ : ByteArray) ++ t449).size + 1 ≤ 9223372036854775807 then (some (((⟨#[40]⟩ : ByteArray) ++ t449) ++ (⟨#[41]⟩ : ByteArray))) else (none)) else (none))) else ((zat.f k a0_0 a0_1 a0_2 a0_3 l0_4).bind fun t450 => (some t450)))
def zat.f : Nat → Int → Int → Int → ByteArray → List (S117) → Option (ByteArray)
 | 0, _, _, _, _, _ => none
 | k + 1, a0_0, a0_1, a0_2, a0_3, l0_4 => if a0_0 = 1 then ((za4.f k a0_2).bind fun t452 => (some t452)) else (if a0_0 = 2 then (some a0_3) else (if a0_0 = 3 then (none) else (if a0_0 = 5 then (none) else (if a0_0 = 6 then (if 0 < (l0_4.length : Int) then ((za6.f k ((zad l0_4 0).f0) ((zad l0_4 0).f1) ((zad l0_4 0).f2) ((zad l0_4 0).f3) ((zad l0_4 0).f4) 2).bind fun t454 => (if t454.size + 3 ≤ 9223372036854775807 then (if 1 < (l0_4.length : Int) then ((zat.f k ((zad l0_4 1).f0) ((zad l0_4 1).f1) ((zad l0_4 1).f2) ((zad l0_4 1).f3) ((zad l0_4 1).f4)).bind fun t456 => (if (t454 ++ (⟨#[32, 63, 32]⟩ : ByteArray)).size + t456.size ≤ 9223372036854775807 then (if ((t454 ++ (⟨#[32, 63, 32]⟩ : ByteArray)) ++ t456).size + 3 ≤ 9223372036854775807 then (if 2 < (l0_4.length : Int) then ((zat.f k ((zad l0_4 2).f0) ((zad l0_4 2).f1) ((zad l0_4 2).f2) ((zad l0_4 2).f3) ((zad l0_4 2).f4)).bind fun t458 => (if (((t454 ++ (⟨#[32, 63, 32]⟩ : ByteArray)) ++ t456) ++ (⟨#[32, 58, 32]⟩ : ByteArray)).size + t458.size ≤ 9223372036854775807 then (some ((((t454 ++ (⟨#[32, 63, 32]⟩ : ByteArray)) ++ t456) ++ (⟨#[32, 58, 32]⟩ : ByteArray)) ++ t458)) else (none))) else (none)) else (none)) else (none))) else (none)) else (none))) else (none)) else ((zcv.f a0_0 a0_1 a0_2 a0_3 l0_4).bind fun t459 => (if 0 < (l0_4.length : Int) then ((za6.f k ((zad l0_4 0).f0) ((zad l0_4 0).f1) ((zad l0_4 0).f2) ((zad l0_4 0).f3) ((zad l0_4 0).f4) t459).bind fun t461 => (if t461.size + 1 ≤ 9223372036854775807 then ((zc0.f a0_1).bind fun t462 => (if (t461 ++ (⟨#[32]⟩ : ByteArray)).size + t462.size ≤ 9223372036854775807 then (if ((t461 ++ (⟨#[32]⟩ : ByteArray)) ++ t462).size + 1 ≤ 9223372036854775807 then (if 1 < (l0_4.length : Int) then ((za6.f k ((zad l0_4 1).f0) ((zad l0_4 1).f1) ((zad l0_4 1).f2) ((zad l0_4 1).f3) ((zad l0_4 1).f4) (wrap64 (t459 + 1))).bind fun t464 => (if (((t461 ++ (⟨#[32]⟩ : ByteArray)) ++ t462) ++ (⟨#[32]⟩ : ByteArray)).size + t464.size ≤ 9223372036854775807 then (some ((((t461 ++ (⟨#[32]⟩ : ByteArray)) ++ t462) ++ (⟨#[32]⟩ : ByteArray)) ++ t464)) else (none))) else (none)) else (none)) else (none))) else (none))) else (none)))))))
end
mutual
theorem za6.mono_l : ∀ k, (∀ y0 y1 y2 y3 y4 y5, LeO (za6.f k y0 y1 y2 y3 y4 y5) (za6.f (k + 1) y0 y1 y2 y3 y4 y5))
 | 0 => fun _ _ _ _ _ _ r h => by simp [za6.f] at h
 | k + 1 => by
  have ihm78 := zat.mono_l k; have ih0 := za6.mono_l k
  ·intro y0 y1 y2 y3 y4 y5
   unfold za6.f
   exact (by repeat' first | with_reducible apply ih0 | with_reducible apply ihm78 | apply ihm78 | with_reducible apply LeO.refl | with_reducible apply LeO.none | (with_reducible refine LeO.ite ?_ ?_) | (with_reducible refine LeO.bind ?_ (fun _ => ?_)))
theorem zat.mono_l : ∀ k, (∀ y0 y1 y2 y3 y4, LeO (zat.f k y0 y1 y2 y3 y4) (zat.f (k + 1) y0 y1 y2 y3 y4))
 | 0 => fun _ _ _ _ _ r h => by simp [zat.f] at h
 | k + 1 => by
  have ihm87 := za6.mono_l k; have ih0 := zat.mono_l k
  ·intro y0 y1 y2 y3 y4
   unfold zat.f
   exact (by repeat' first | with_reducible apply ih0 | with_reducible apply ihm87 | apply ihm87 | with_reducible apply za4.mono | with_reducible apply LeO.refl | with_reducible apply LeO.none | (with_reducible refine LeO.ite ?_ ?_) | (with_reducible refine LeO.bind ?_ (fun _ => ?_)))
end
theorem zat.mono : ∀ a0 a1 a2 a3 a4 k, LeO (zat.f k a0 a1 a2 a3 a4) (zat.f (k + 1) a0 a1 a2 a3 a4) := by
 intro a0 a1 a2 a3 a4 k; have ih0 := zat.mono_l k; exact ih0 a0 a1 a2 a3 a4
abbrev za6.C (k : Nat) : Prop := ∀ (a0_0 : Int) (a0_1 : Int) (a0_2 : Int) (a0_3 : ByteArray) (A0_4 : Option Addr) (c0_4 : Nat) (l0_4 : List (S117)) (a1 : Int) (r : ByteArray) (w : World) (hr0_4 : Kd.C k117 w A0_4 l0_4.length l0_4) (hc0_4 : l0_4.length ≤ c0_4) (h : za6.f k a0_0 a0_1 a0_2 a0_3 l0_4 a1 = some r),
  Calls Tryz.prog 87 #[.agg #[.int .i64 a0_0, .int .i64 a0_1, .int .u64 a0_2, .string a0_3, .slice A0_4 l0_4.length c0_4], .int .i64 a1] w fun e w' => e = .returned (.string r) ∧ Below w.heap.size w w'
abbrev zat.C (k : Nat) : Prop := ∀ (a0_0 : Int) (a0_1 : Int) (a0_2 : Int) (a0_3 : ByteArray) (A0_4 : Option Addr) (c0_4 : Nat) (l0_4 : List (S117)) (r : ByteArray) (w : World) (hr0_4 : Kd.C k117 w A0_4 l0_4.length l0_4) (hc0_4 : l0_4.length ≤ c0_4) (h : zat.f k a0_0 a0_1 a0_2 a0_3 l0_4 = some r),
  Calls Tryz.prog 78 #[.agg #[.int .i64 a0_0, .int .i64 a0_1, .int .u64 a0_2, .string a0_3, .slice A0_4 l0_4.length c0_4]] w fun e w' => e = .returned (.string r) ∧ Below w.heap.size w w'
set_option maxHeartbeats 8000000 in
set_option maxRecDepth 100000 in
theorem za6.step (k : Nat) (ih : ∀ m, m < k → za6.C m) (ih78 : ∀ m, m < k → zat.C m) : za6.C k := by
 intro a0_0 a0_1 a0_2 a0_3 A0_4 c0_4 l0_4 a1 r w hr0_4 hc0_4 h
 cases k with
 | zero => exact absurd h (by simp [za6.f])
 | succ k =>
 simp only [za6.f] at h; have hu117 := Tryz.underlying117; have HR0_4 := zA0 hr0_4; have HC0_4 := zA0 hc0_4; clear hr0_4 hc0_4; have HB := zA0 (Below.refl w.heap.size w); have H : ((zcv.f a0_0 a0_1 a0_2 a0_3 l0_4).bind fun t448 => (if t448 < a1 then ((zat.f k a0_0 a0_1 a0_2 a0_3 l0_4).bind fun t449 => (if 1 + t449.size ≤ 9223372036854775807 then (if ((⟨#[40]⟩ : ByteArray) ++ t449).size + 1 ≤ 9223372036854775807 then (some (((⟨#[40]⟩ : ByteArray) ++ t449) ++ (⟨#[41]⟩ : ByteArray))) else (none)) else (none))) else ((zat.f k a0_0 a0_1 a0_2 a0_3 l0_4).bind fun t450 => (some t450)))) = some r := h; clear h; replace H := Option.bind_eq_some_iff.mp H; obtain ⟨t448, A30, H⟩ := H; replace H : (if t448 < a1 then ((zat.f k a0_0 a0_1 a0_2 a0_3 l0_4).bind fun t449 => (if 1 + t449.size ≤ 9223372036854775807 then (if ((⟨#[40]⟩ : ByteArray) ++ t449).size + 1 ≤ 9223372036854775807 then (some (((⟨#[40]⟩ : ByteArray) ++ t449) ++ (⟨#[41]⟩ : ByteArray))) else (none)) else (none))) else ((zat.f k a0_0 a0_1 a0_2 a0_3 l0_4).bind fun t450 => (some t450))) = some r := H; have A3 := zA0 A30; clear A30
 by_cases c4 : t448 < a1
 ·rw [if_pos c4] at H
  have c4b0 : decide (t448 < a1) = true := decide_eq_true c4; clear c4; replace H := Option.bind_eq_some_iff.mp H; obtain ⟨t449, A50, H⟩ := H; replace H : (if 1 + t449.size ≤ 9223372036854775807 then (if ((⟨#[40]⟩ : ByteArray) ++ t449).size + 1 ≤ 9223372036854775807 then (some (((⟨#[40]⟩ : ByteArray) ++ t449) ++ (⟨#[41]⟩ : ByteArray))) else (none)) else (none)) = some r := H; have A5 := zA0 A50; clear A50
  by_cases c6 : 1 + t449.size ≤ 9223372036854775807
  ·rw [if_pos c6] at H
   have c6b0 := eq_true c6; have c6b1 : decide (1 + t449.size ≤ 9223372036854775807) = true := decide_eq_true c6; (try have c6b2 : (9223372036854775807 < 1 + t449.size) = False := eq_false (Nat.not_lt.2 c6))
   by_cases c7 : ((⟨#[40]⟩ : ByteArray) ++ t449).size + 1 ≤ 9223372036854775807
   ·rw [if_pos c7] at H
    have c7b0 := eq_true c7; have c7b1 : decide (((⟨#[40]⟩ : ByteArray) ++ t449).size + 1 ≤ 9223372036854775807) = true := decide_eq_true c7; (try have c7b2 : (9223372036854775807 < ((⟨#[40]⟩ : ByteArray) ++ t449).size + 1) = False := eq_false (Nat.not_lt.2 c7))
    try have c7b3 : (9223372036854775807 < 1 + t449.size + 1) = False := by have h_ := c7b2; simp only [ByteArray.size_append] at h_; exact h_
    obtain rfl := Option.some.inj H; go_enter Tryz.func87, Tryz.ntmps87
    go_wp2_with (first | ((with_reducible refine zbl (N := 2) rfl ?_); refine zbk ?hg (N := 2) ?hd (cs := #[.int .i64 a0_0, .int .i64 a0_1, .int .u64 a0_2, .string a0_3, .slice A0_4 l0_4.length c0_4]) (t := 117) ?hr ?_; (case hd => rfl); (case hg => rfl); (case hr => first | (go_simp; done) | (go_simp; rfl)); intro gb447 hg w8 hbox hb; have n0_ := zA0 (zak (zs0 HB) hb); have n1_ := zA0 (hbox); have n2_ := zA0 ((yq33 : w.heap.size ≤ gb447)); have n3_ := zA0 ((yq33 : w.heap.size ≤ gb447)); clear HB; revert n0_ n1_ n2_ n3_; intro HB BK447 GW447 GE447; clear hb hbox hg; obtain ⟨_, _, _, _, _⟩ := zc5 BK447.out; obtain ⟨_, _, _, _, _⟩ := zf5 BK447.out) | ((with_reducible refine zax (f := 88) rfl ?_); refine zcg (some 6) rfl rfl Tryz.func88 (by kernel_rfl) rfl #[.agg #[.int .i64 a0_0, .int .i64 a0_1, .int .u64 a0_2, .string a0_3, .slice A0_4 l0_4.length c0_4]] rfl zt ?_; (with_reducible refine (zcv.calls a0_0 a0_1 a0_2 a0_3 _ _ l0_4 t448 _ ?side1 ?side2 A3.out).mono ?_); (case side1 => exact yq60); (case side2 => exact HC0_4.out); rintro e w10 ⟨rfl, hb⟩; refine ⟨_, rfl, ?_⟩; have n0_ := zA0 (za7 (g := gb447) (o := .cells #[.int .i64 a0_0, .int .i64 a0_1, .int .u64 a0_2, .string a0_3, .slice A0_4 l0_4.length c0_4] 117 (0, 0)) (zb BK447) hb); have n1_ := zA0 (zak yq166 hb); clear BK447 HB; revert n0_ n1_; intro BK447 HB; clear hb; obtain ⟨_, _, _, _, _⟩ := zc5 BK447.out; obtain ⟨_, _, _, _, _⟩ := zf5 BK447.out) | ((with_reducible refine zax (f := 78) rfl ?_); refine zcg (some 10) rfl rfl Tryz.func78 (by kernel_rfl) rfl #[.agg #[.int .i64 a0_0, .int .i64 a0_1, .int .u64 a0_2, .string a0_3, .slice A0_4 l0_4.length c0_4]] rfl zt ?_; (with_reducible refine (ih78 k (by omega) a0_0 a0_1 a0_2 a0_3 _ _ l0_4 t449 _ ?side1 ?side2 A5.out).mono ?_); (case side1 => exact yq60); (case side2 => exact HC0_4.out); rintro e w12 ⟨rfl, hb⟩; refine ⟨_, rfl, ?_⟩; have n0_ := zA0 (za7 (g := gb447) (o := .cells #[.int .i64 a0_0, .int .i64 a0_1, .int .u64 a0_2, .string a0_3, .slice A0_4 l0_4.length c0_4] 117 (0, 0)) (zb BK447) hb); have n1_ := zA0 (zak yq166 hb); clear BK447 HB; revert n0_ n1_; intro BK447 HB; clear hb))
    go_ret; exact ⟨yq6, yq166⟩
   ·rw [if_neg c7] at H
    exact absurd H (by simp)
  ·rw [if_neg c6] at H
   exact absurd H (by simp)
 ·rw [if_neg c4] at H
  have c4b0 : decide (t448 < a1) = false := decide_eq_false c4; clear c4; replace H := Option.bind_eq_some_iff.mp H; obtain ⟨t450, A130, H⟩ := H; replace H : (some t450) = some r := H; have A13 := zA0 A130; clear A130; obtain rfl := Option.some.inj H; go_enter Tryz.func87, Tryz.ntmps87
  go_wp2_with (first | ((with_reducible refine zbl (N := 2) rfl ?_); refine zbk ?hg (N := 2) ?hd (cs := #[.int .i64 a0_0, .int .i64 a0_1, .int .u64 a0_2, .string a0_3, .slice A0_4 l0_4.length c0_4]) (t := 117) ?hr ?_; (case hd => rfl); (case hg => rfl); (case hr => first | (go_simp; done) | (go_simp; rfl)); intro gb447 hg w14 hbox hb; have n0_ := zA0 (zak (zs0 HB) hb); have n1_ := zA0 (hbox); have n2_ := zA0 ((yq33 : w.heap.size ≤ gb447)); have n3_ := zA0 ((yq33 : w.heap.size ≤ gb447)); clear HB; revert n0_ n1_ n2_ n3_; intro HB BK447 GW447 GE447; clear hb hbox hg; obtain ⟨_, _, _, _, _⟩ := zc5 BK447.out; obtain ⟨_, _, _, _, _⟩ := zf5 BK447.out) | ((with_reducible refine zax (f := 88) rfl ?_); refine zcg (some 6) rfl rfl Tryz.func88 (by kernel_rfl) rfl #[.agg #[.int .i64 a0_0, .int .i64 a0_1, .int .u64 a0_2, .string a0_3, .slice A0_4 l0_4.length c0_4]] rfl zt ?_; (with_reducible refine (zcv.calls a0_0 a0_1 a0_2 a0_3 _ _ l0_4 t448 _ ?side1 ?side2 A3.out).mono ?_); (case side1 => exact yq60); (case side2 => exact HC0_4.out); rintro e w16 ⟨rfl, hb⟩; refine ⟨_, rfl, ?_⟩; have n0_ := zA0 (za7 (g := gb447) (o := .cells #[.int .i64 a0_0, .int .i64 a0_1, .int .u64 a0_2, .string a0_3, .slice A0_4 l0_4.length c0_4] 117 (0, 0)) (zb BK447) hb); have n1_ := zA0 (zak yq166 hb); clear BK447 HB; revert n0_ n1_; intro BK447 HB; clear hb; obtain ⟨_, _, _, _, _⟩ := zc5 BK447.out; obtain ⟨_, _, _, _, _⟩ := zf5 BK447.out) | ((with_reducible refine zax (f := 78) rfl ?_); refine zcg (some 14) rfl rfl Tryz.func78 (by kernel_rfl) rfl #[.agg #[.int .i64 a0_0, .int .i64 a0_1, .int .u64 a0_2, .string a0_3, .slice A0_4 l0_4.length c0_4]] rfl zt ?_; (with_reducible refine (ih78 k (by omega) a0_0 a0_1 a0_2 a0_3 _ _ l0_4 t450 _ ?side1 ?side2 A13.out).mono ?_); (case side1 => exact yq60); (case side2 => exact HC0_4.out); rintro e w18 ⟨rfl, hb⟩; refine ⟨_, rfl, ?_⟩; have n0_ := zA0 (za7 (g := gb447) (o := .cells #[.int .i64 a0_0, .int .i64 a0_1, .int .u64 a0_2, .string a0_3, .slice A0_4 l0_4.length c0_4] 117 (0, 0)) (zb BK447) hb); have n1_ := zA0 (zak yq166 hb); clear BK447 HB; revert n0_ n1_; intro BK447 HB; clear hb))
  go_ret; exact ⟨yq6, yq166⟩
end Go.Proofs.YtkgdhdjkpnalmaaGreatDoor.P
end
