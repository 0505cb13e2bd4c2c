-- Written by a program of this session (wip/gen.py, over the kit's print).
import Derived.Test.YtaalmmnjehfimaaPx0
import Derived.Test.YtaalmmnjehfimaaPx3
import Derived.Test.YtaalmmnjehfimaaPx6
import Derived.Test.YtaalmmnjehfimaaPx9
import Derived.Test.YtaalmmnjehfimaaPx10
import Derived.Test.YtaalmmnjehfimaaPx11
import Derived.Test.YtaalmmnjehfimaaJawk
namespace Go.Proofs.Ytaalmmnjehfimaa.P
open Go.RowKit Go.Proofs.YtaalmmnjehfimaaW.PrintWords Go.Proofs.YtaalmmnjehfimaaW.PrintLast Go.Proofs.YtaalmmnjehfimaaW.PrintMore
attribute [local go_sem] max2_int min2_int max_two min_two max_three min_three max_four min_four   -- for this text's walks alone
set_option linter.unusedVariables false
set_option linter.unusedSimpArgs false

/-! ### privitylaw48_JournalTruncation: function 5 -/
mutual
def privitylaw48_JournalTruncation.j0 : Nat → List (List Int) → Int → Bool → Option (Bool)
  | 0, _, _, _ => none
  | k + 1, x0, x1, x22 => if x22 = true then (some true) else ((journal_Encode.f k x0).bind fun t297 => ((privityref48_Total.f k x0 4000).bind fun t298 => (if (t297.size : Int) = t298 then (privitylaw48_JournalTruncation.l0 k x0 x1 t297 0 0 0) else (some false))))
def privitylaw48_JournalTruncation.l0 : Nat → List (List Int) → Int → ByteArray → Int → Int → Int → Option (Bool)
  | 0, _, _, _, _, _, _ => none
  | k + 1, x0, x1, x5, x6, x7, x8 => if x8 < (x0.length : Int) then (if 0 ≤ x8 then (if (wrap64 ((wrap64 (x7 + 16)) + (wrap64 (8 * ((rd_L1 x0 x8).length : Int))))) ≤ (wrap64 (x1)) then (privitylaw48_JournalTruncation.l0 k x0 x1 x5 (wrap64 (x6 + 1)) (wrap64 ((wrap64 (x7 + 16)) + (wrap64 (8 * ((rd_L1 x0 x8).length : Int))))) (wrap64 (x8 + 1))) else (if 0 ≤ x1 then (if x1 ≤ (x5.size : Int) then ((journal_Decode.f k (x5.extract 0 (x1 : Int).toNat)).bind fun bt301 => (if 0 ≤ x6 then (if x6 ≤ (x0.length : Int) then ((privityref48_Same.f k bt301.1 (x0.take (x6 : Int).toNat)).bind fun t309 => (if t309 = true then (some (bt301.2 == (wrap64 ((wrap64 (x1)) - x7)))) else (some false))) else (none)) else (none))) else (none)) else (none))) else (none)) else (if 0 ≤ x1 then (if x1 ≤ (x5.size : Int) then ((journal_Decode.f k (x5.extract 0 (x1 : Int).toNat)).bind fun bt310 => (if 0 ≤ x6 then (if x6 ≤ (x0.length : Int) then ((privityref48_Same.f k bt310.1 (x0.take (x6 : Int).toNat)).bind fun t318 => (if t318 = true then (some (bt310.2 == (wrap64 ((wrap64 (x1)) - x7)))) else (some false))) else (none)) else (none))) else (none)) else (none))
end
def privitylaw48_JournalTruncation.f (k : Nat) (l0 : List (List Int)) (a1 : Int) : Option (Bool) := (privitylaw48_awake.f k).bind fun t294 => (if t294 = true then ((privityref48_Total.f k l0 4000).bind fun t295 => (if t295 > 4000 then (privitylaw48_JournalTruncation.j0 k l0 a1 true) else ((privityref48_Total.f k l0 4000).bind fun t296 => (privitylaw48_JournalTruncation.j0 k l0 a1 (decide ((wrap64 (a1)) > t296)))))) else (some false))
theorem privitylaw48_JournalTruncation.mono_l : ∀ k, (∀ y0 y1 y2, LeO (privitylaw48_JournalTruncation.j0 k y0 y1 y2) (privitylaw48_JournalTruncation.j0 (k + 1) y0 y1 y2)) ∧ (∀ y0 y1 y2 y3 y4 y5, LeO (privitylaw48_JournalTruncation.l0 k y0 y1 y2 y3 y4 y5) (privitylaw48_JournalTruncation.l0 (k + 1) y0 y1 y2 y3 y4 y5))
  | 0 => ⟨fun _ _ _ r h => by simp [privitylaw48_JournalTruncation.j0] at h, fun _ _ _ _ _ _ r h => by simp [privitylaw48_JournalTruncation.l0] at h⟩
  | k + 1 => by
    obtain ⟨ih0, ih1⟩ := privitylaw48_JournalTruncation.mono_l k
    refine ⟨?_, ?_⟩
    · intro y0 y1 y2
      unfold privitylaw48_JournalTruncation.j0
      repeat' first
      | (with_reducible exact ih0 _ _ _)
      | (with_reducible exact ih1 _ _ _ _ _ _)
      | (with_reducible exact journal_Decode.mono _ _)
      | (with_reducible exact journal_Encode.mono _ _)
      | (with_reducible exact privitylaw48_awake.mono _)
      | (with_reducible exact privityref48_Same.mono _ _ _)
      | (with_reducible exact privityref48_Total.mono _ _ _)
      | (with_reducible exact LeO.refl _)
      | (with_reducible exact LeO.none _)
      | (with_reducible refine LeO.ite ?_ ?_)
      | (with_reducible refine LeO.bind ?_ (fun _ => ?_))
      | exact ih0 _ _ _
      | exact ih1 _ _ _ _ _ _
      | exact journal_Decode.mono _ _
      | exact journal_Encode.mono _ _
      | exact privitylaw48_awake.mono _
      | exact privityref48_Same.mono _ _ _
      | exact privityref48_Total.mono _ _ _
      | exact LeO.none _
      | refine LeO.ite ?_ ?_
      | refine LeO.bind ?_ (fun _ => ?_)
    · intro y0 y1 y2 y3 y4 y5
      unfold privitylaw48_JournalTruncation.l0
      repeat' first
      | (with_reducible exact ih0 _ _ _)
      | (with_reducible exact ih1 _ _ _ _ _ _)
      | (with_reducible exact journal_Decode.mono _ _)
      | (with_reducible exact journal_Encode.mono _ _)
      | (with_reducible exact privitylaw48_awake.mono _)
      | (with_reducible exact privityref48_Same.mono _ _ _)
      | (with_reducible exact privityref48_Total.mono _ _ _)
      | (with_reducible exact LeO.refl _)
      | (with_reducible exact LeO.none _)
      | (with_reducible refine LeO.ite ?_ ?_)
      | (with_reducible refine LeO.bind ?_ (fun _ => ?_))
      | exact ih0 _ _ _
      | exact ih1 _ _ _ _ _ _
      | exact journal_Decode.mono _ _
      | exact journal_Encode.mono _ _
      | exact privitylaw48_awake.mono _
      | exact privityref48_Same.mono _ _ _
      | exact privityref48_Total.mono _ _ _
      | exact LeO.none _
      | refine LeO.ite ?_ ?_
      | refine LeO.bind ?_ (fun _ => ?_)
theorem privitylaw48_JournalTruncation.mono : ∀ a0 a1 k, LeO (privitylaw48_JournalTruncation.f k a0 a1) (privitylaw48_JournalTruncation.f (k + 1) a0 a1) := by
  intro a0 a1 k
  obtain ⟨ih0, ih1⟩ := privitylaw48_JournalTruncation.mono_l k
  unfold privitylaw48_JournalTruncation.f
  repeat' first
      | (with_reducible exact ih0 _ _ _)
      | (with_reducible exact ih1 _ _ _ _ _ _)
      | (with_reducible exact journal_Decode.mono _ _)
      | (with_reducible exact journal_Encode.mono _ _)
      | (with_reducible exact privitylaw48_awake.mono _)
      | (with_reducible exact privityref48_Same.mono _ _ _)
      | (with_reducible exact privityref48_Total.mono _ _ _)
      | (with_reducible exact LeO.refl _)
      | (with_reducible exact LeO.none _)
      | (with_reducible refine LeO.ite ?_ ?_)
      | (with_reducible refine LeO.bind ?_ (fun _ => ?_))
      | exact ih0 _ _ _
      | exact ih1 _ _ _ _ _ _
      | exact journal_Decode.mono _ _
      | exact journal_Encode.mono _ _
      | exact privitylaw48_awake.mono _
      | exact privityref48_Same.mono _ _ _
      | exact privityref48_Total.mono _ _ _
      | exact LeO.none _
      | refine LeO.ite ?_ ?_
      | refine LeO.bind ?_ (fun _ => ?_)
set_option maxHeartbeats 8000000 in
set_option maxRecDepth 100000 in
theorem privitylaw48_JournalTruncation.callsT (k : Nat) (A0 : Option Addr) (c0 : Nat) (l0 : List (List Int)) (a1 : Int) (r : Bool) (w : World) (hr0 : Kd.C (Kd.slice 39 (Kd.int .u64)) w A0 l0.length l0) (hc0 : l0.length ≤ c0) (hrT : r = true) (h : privitylaw48_JournalTruncation.f k l0 a1 = some r) :
    Calls Try.prog 5 #[.slice A0 l0.length c0, .int .u16 a1] w fun e w' => e = .returned (.bool r) ∧ Below w.heap.size w w' := by
  have HRT := Aside0.mk hrT
  clear hrT
  have HR0 := Aside0.mk hr0
  have HC0 := Aside0.mk hc0
  clear hr0 hc0
  have HB := Aside0.mk (Below.refl w.heap.size w)
  have H : ((privitylaw48_awake.f k).bind fun t294 => (if t294 = true then ((privityref48_Total.f k l0 4000).bind fun t295 => (if t295 > 4000 then (privitylaw48_JournalTruncation.j0 k l0 a1 true) else ((privityref48_Total.f k l0 4000).bind fun t296 => (privitylaw48_JournalTruncation.j0 k l0 a1 (decide ((wrap64 (a1)) > t296)))))) else (some false))) = some r := h
  clear h
  replace H := Option.bind_eq_some_iff.mp H
  obtain ⟨t294, A30, H⟩ := H
  replace H : (if t294 = true then ((privityref48_Total.f k l0 4000).bind fun t295 => (if t295 > 4000 then (privitylaw48_JournalTruncation.j0 k l0 a1 true) else ((privityref48_Total.f k l0 4000).bind fun t296 => (privitylaw48_JournalTruncation.j0 k l0 a1 (decide ((wrap64 (a1)) > t296)))))) else (some false)) = some r := H
  have A3 := Aside0.mk A30
  clear A30
  by_cases c4 : t294 = true
  · subst c4
    have H1 : ((privityref48_Total.f k l0 4000).bind fun t295 => (if t295 > 4000 then (privitylaw48_JournalTruncation.j0 k l0 a1 true) else ((privityref48_Total.f k l0 4000).bind fun t296 => (privitylaw48_JournalTruncation.j0 k l0 a1 (decide ((wrap64 (a1)) > t296)))))) = some r := by rw [if_pos rfl] at H; exact H
    clear H
    have H := H1
    clear H1
    have HC5 := Aside0.mk H
    clear H
    go_enter Try.func5, Try.ntmps5
    go_upto_region 3 with (first | ((with_reducible refine gate_callee (f := 9) rfl ?_); refine goesL_ (some 11) rfl rfl Try.func9 (by kernel_rfl) rfl #[] rfl (by (try simp only [List.map_toArray, List.map_cons, List.map_nil]); first | done | rfl | (simp only [List.length_drop, List.length_take]; rfl)) ?_; (with_reducible refine (privitylaw48_awake.calls k  true _ A3.out).mono ?_); rintro e w6 ⟨rfl, hb⟩; refine ⟨_, rfl, ?_⟩; have n0_ := Aside0.mk (below_step (by repeat (first | (with_reducible first | exact HB.out | apply below_alloc | apply pw_below_drewN | apply below_drew1) | exact HB.out)) hb); clear HB; have HB := n0_; clear n0_; (try clear hb); (try clear hb2); (try clear hk); (try clear hi)))
    (try simp only [Act.put, List.setIfInBounds_toArray, List.set_cons_zero, List.set_cons_succ])
    go_cut [22] (fun v22 wc => ∃ (kq : Nat) (x22_4 : Bool), v22 = .bool x22_4 ∧ Aside0 (privitylaw48_JournalTruncation.j0 kq l0 a1 x22_4 = some r) ∧ Aside0 (kq ≤ k) ∧ Aside0 (Below w.heap.size w wc))
    case first =>
      have H := HC5.out
      clear HC5
      replace H := Option.bind_eq_some_iff.mp H
      obtain ⟨t295, A70, H⟩ := H
      replace H : (if t295 > 4000 then (privitylaw48_JournalTruncation.j0 k l0 a1 true) else ((privityref48_Total.f k l0 4000).bind fun t296 => (privitylaw48_JournalTruncation.j0 k l0 a1 (decide ((wrap64 (a1)) > t296))))) = some r := H
      have A7 := Aside0.mk A70
      clear A70
      by_cases c8 : t295 > 4000
      · rw [if_pos c8] at H
        have c8b0 : decide (4000 < t295) = true := decide_eq_true c8
        clear c8
        (first | rw [c8b0] | (simp only [i64_w, i32_w]; rw [c8b0]) | skip)
        have H' := Aside0.mk H
        clear H
        go_wp2_with (first | ((with_reducible refine gate_callee (f := 10) rfl ?_); refine goesL_ (some 14) rfl rfl Try.func10 (by kernel_rfl) rfl #[.slice A0 l0.length c0, .int .i64 4000] rfl (by (try simp only [List.map_toArray, List.map_cons, List.map_nil]); first | done | rfl | (simp only [List.length_drop, List.length_take]; rfl)) ?_; (with_reducible refine (privityref48_Total.calls k _ _ l0 4000 t295 _ ?side1 ?side2 A7.out).mono ?_); (case side1 => repeat (first | exact (Kd.C_below HR0.out HB.out) | (with_reducible refine Kd.C_alloc ?_ _) | (with_reducible refine Kd.C_drewN ?_ _) | (with_reducible refine Kd.C_drew ?_))); (case side2 => exact HC0.out); rintro e w' ⟨rfl, ⟨nd, rfl⟩⟩; refine ⟨_, rfl, ?_⟩))
        go_meet
        case rel => exact ⟨_, (true), (by first | rfl | (simp; done) | (simp [*]; done)), H', ⟨by first | omega | exact Nat.le_refl _⟩, ⟨by repeat (first | (with_reducible first | exact HB.out | apply below_alloc | apply pw_below_drewN | apply below_drew1) | exact HB.out)⟩⟩
      · rw [if_neg c8] at H
        have c8b0 : decide (4000 < t295) = false := decide_eq_false c8
        clear c8
        (first | rw [c8b0] | (simp only [i64_w, i32_w]; rw [c8b0]) | skip)
        replace H := Option.bind_eq_some_iff.mp H
        obtain ⟨t296, A90, H⟩ := H
        replace H : (privitylaw48_JournalTruncation.j0 k l0 a1 (decide ((wrap64 (a1)) > t296))) = some r := H
        have A9 := Aside0.mk A90
        clear A90
        have H' := Aside0.mk H
        clear H
        go_wp2_with (first | ((with_reducible refine gate_callee (f := 10) rfl ?_); refine goesL_ (some 14) rfl rfl Try.func10 (by kernel_rfl) rfl #[.slice A0 l0.length c0, .int .i64 4000] rfl (by (try simp only [List.map_toArray, List.map_cons, List.map_nil]); first | done | rfl | (simp only [List.length_drop, List.length_take]; rfl)) ?_; (with_reducible refine (privityref48_Total.calls k _ _ l0 4000 t295 _ ?side1 ?side2 A7.out).mono ?_); (case side1 => repeat (first | exact (Kd.C_below HR0.out HB.out) | (with_reducible refine Kd.C_alloc ?_ _) | (with_reducible refine Kd.C_drewN ?_ _) | (with_reducible refine Kd.C_drew ?_))); (case side2 => exact HC0.out); rintro e w' ⟨rfl, ⟨nd, rfl⟩⟩; refine ⟨_, rfl, ?_⟩) | (go_at_call 10; (with_reducible refine (privityref48_Total.calls k _ _ l0 4000 t296 _ ?side1 ?side2 A9.out).mono ?_); (case side1 => repeat (first | exact (Kd.C_below HR0.out (by repeat (first | (with_reducible first | exact HB.out | apply below_alloc | apply pw_below_drewN | apply below_drew1) | exact HB.out))) | (with_reducible refine Kd.C_alloc ?_ _) | (with_reducible refine Kd.C_drewN ?_ _) | (with_reducible refine Kd.C_drew ?_))); (case side2 => exact HC0.out); rintro e w' ⟨rfl, ⟨nd, rfl⟩⟩))
        go_meet
        case rel => exact ⟨_, (decide ((wrap64 (a1)) > t296)), (by first | rfl | (simp; done) | (simp [*]; done)), H', ⟨by first | omega | exact Nat.le_refl _⟩, ⟨by repeat (first | (with_reducible first | exact HB.out | apply below_alloc | apply pw_below_drewN | apply below_drew1) | exact HB.out)⟩⟩
    case rest =>
      clear HC5
      try clear c1
      try clear p2
      try clear c4
      try clear c5
      try clear p6
      try clear c8
      try clear c8b0
      try clear c9
      obtain ⟨kq, x22_4, rfl, HA, HJ4, HB⟩ := hcut
      cases kq with
      | zero => exact absurd HA.out (by simp [privitylaw48_JournalTruncation.j0])
      | succ kj4 =>
        have H := HA.out
        clear HA
        simp only [privitylaw48_JournalTruncation.j0] at H
        by_cases c10 : x22_4 = true
        · subst c10
          have H1 : (some true) = some r := by rw [if_pos rfl] at H; exact H
          clear H
          have H := H1
          clear H1
          obtain rfl := Option.some.inj H
          go_wp2
          go_ret
          exact ⟨by first | rfl | (simp [errW_none, errW_some] <;> rfl) | (simp [*, errW_none, errW_some] <;> rfl), by repeat (first | (with_reducible first | exact HB.out | apply below_alloc | apply pw_below_drewN | apply below_drew1) | exact HB.out)⟩
        · replace c10 := Bool.eq_false_iff.mpr c10
          subst c10
          have H1 : ((journal_Encode.f kj4 l0).bind fun t297 => ((privityref48_Total.f kj4 l0 4000).bind fun t298 => (if (t297.size : Int) = t298 then (privitylaw48_JournalTruncation.l0 kj4 l0 a1 t297 0 0 0) else (some false)))) = some r := by rw [if_neg (show ¬ (false = true) by decide)] at H; exact H
          clear H
          have H := H1
          clear H1
          replace H := Option.bind_eq_some_iff.mp H
          obtain ⟨t297, A110, H⟩ := H
          replace H : ((privityref48_Total.f kj4 l0 4000).bind fun t298 => (if (t297.size : Int) = t298 then (privitylaw48_JournalTruncation.l0 kj4 l0 a1 t297 0 0 0) else (some false))) = some r := H
          have A11 := Aside0.mk A110
          clear A110
          replace H := Option.bind_eq_some_iff.mp H
          obtain ⟨t298, A120, H⟩ := H
          replace H : (if (t297.size : Int) = t298 then (privitylaw48_JournalTruncation.l0 kj4 l0 a1 t297 0 0 0) else (some false)) = some r := H
          have A12 := Aside0.mk A120
          clear A120
          by_cases c13 : (t297.size : Int) = t298
          · rw [if_pos c13] at H
            have c13b0 : ((t297.size : Int) == t298) = true := beq_iff_eq.mpr c13
            have c13b1 : ((t297.size : Int) != t298) = false := bne_eq_false_iff_eq.mpr c13
            clear c13
            have H' := Aside0.mk H
            clear H
            go_wp2_with (first | ((with_reducible refine gate_callee (f := 11) rfl ?_); refine goesL_ (some 24) rfl rfl Try.func11 (by kernel_rfl) rfl #[.slice A0 l0.length c0] rfl (by (try simp only [List.map_toArray, List.map_cons, List.map_nil]); first | done | rfl | (simp only [List.length_drop, List.length_take]; rfl)) ?_; (with_reducible refine (journal_Encode.calls kj4 _ _ l0 t297 _ ?side1 ?side2 A11.out).mono ?_); (case side1 => repeat (first | exact (Kd.C_below HR0.out HB.out) | (with_reducible refine Kd.C_alloc ?_ _) | (with_reducible refine Kd.C_drewN ?_ _) | (with_reducible refine Kd.C_drew ?_))); (case side2 => exact HC0.out); rintro e w14 ⟨rfl, hb⟩; refine ⟨_, rfl, ?_⟩; have n0_ := Aside0.mk (below_step (by repeat (first | (with_reducible first | exact HB.out | apply below_alloc | apply pw_below_drewN | apply below_drew1) | exact HB.out)) hb); clear HB; have HB := n0_; clear n0_; (try clear hb); (try clear hb2); (try clear hk); (try clear hi)) | ((with_reducible refine gate_callee (f := 10) rfl ?_); refine goesL_ (some 28) rfl rfl Try.func10 (by kernel_rfl) rfl #[.slice A0 l0.length c0, .int .i64 4000] rfl (by (try simp only [List.map_toArray, List.map_cons, List.map_nil]); first | done | rfl | (simp only [List.length_drop, List.length_take]; rfl)) ?_; (with_reducible refine (privityref48_Total.calls kj4 _ _ l0 4000 t298 _ ?side1 ?side2 A12.out).mono ?_); (case side1 => repeat (first | exact (Kd.C_below HR0.out HB.out) | (with_reducible refine Kd.C_alloc ?_ _) | (with_reducible refine Kd.C_drewN ?_ _) | (with_reducible refine Kd.C_drew ?_))); (case side2 => exact HC0.out); rintro e w' ⟨rfl, ⟨nd, rfl⟩⟩; refine ⟨_, rfl, ?_⟩))
            go_loopg [6, 7, 8] kj4 (fun kq v6 v7 v8 w' => ∃ (x6_2 : Int) (x7_2 : Int) (x8_2 : Int), v6 = .int .i64 x6_2 ∧ v7 = .int .i64 x7_2 ∧ v8 = .int .i64 x8_2 ∧ Aside0 (privitylaw48_JournalTruncation.l0 kq l0 a1 t297 x6_2 x7_2 x8_2 = some r) ∧ Aside0 (kq ≤ kj4) ∧ Aside0 (Below w.heap.size w w'))
            case atStart => exact ⟨(0), (0), (0), (by first | rfl | (simp; done) | (simp [*]; done)), (by first | rfl | (simp; done) | (simp [*]; done)), (by first | rfl | (simp; done) | (simp [*]; done)), H', ⟨Nat.le_refl _⟩, ⟨by repeat (first | (with_reducible first | exact HB.out | apply below_alloc | apply pw_below_drewN | apply below_drew1) | exact HB.out)⟩⟩
            case round =>
              clear H'
              try clear c1
              try clear p2
              try clear c4
              try clear c5
              try clear p6
              try clear c8
              try clear c8b0
              try clear c9
              try clear c10
              try clear c11
              try clear c13
              try clear c13b0
              try clear c13b1
              try clear p2
              try clear p6
              obtain ⟨x6_2, x7_2, x8_2, rfl, rfl, rfl, HA, HK2, HB⟩ := hrel
              cases gk with
              | zero => exact absurd HA.out (by simp [privitylaw48_JournalTruncation.l0])
              | succ k2 =>
                have H := HA.out
                clear HA
                simp only [privitylaw48_JournalTruncation.l0] at H
                by_cases c15 : x8_2 < (l0.length : Int)
                · rw [if_pos c15] at H
                  have c15b0 : decide (x8_2 < (l0.length : Int)) = true := decide_eq_true c15
                  clear c15
                  by_cases c16 : 0 ≤ x8_2
                  · rw [if_pos c16] at H
                    have c16b0 : decide (0 ≤ x8_2) = true := decide_eq_true c16
                    clear c16
                    by_cases c17 : (wrap64 ((wrap64 (x7_2 + 16)) + (wrap64 (8 * ((rd_L1 l0 x8_2).length : Int))))) ≤ (wrap64 (a1))
                    · rw [if_pos c17] at H
                      have c17b0 : decide ((wrap64 ((wrap64 (x7_2 + 16)) + (wrap64 (8 * ((rd_L1 l0 x8_2).length : Int))))) ≤ (wrap64 (a1))) = true := decide_eq_true c17
                      clear c17
                      have H' := Aside0.mk H
                      clear H
                      have p299 : 0 ≤ (x8_2 : Int) := of_decide_eq_true (by first | (with_reducible assumption) | assumption)
                      have q299 : x8_2 < (l0.length : Int) := of_decide_eq_true (by first | (with_reducible assumption) | assumption)
                      obtain ⟨ad299, A299_0, c299_0, e299, hx299_0, hl299_0, hi299_0⟩ := at_L1 HR0.out x8_2 p299 q299
                      cases e299
                      replace hx299_0 := (HB.out.cell (World.block_lt_of_cell? w _ hx299_0)).trans hx299_0
                      have HR299_0 := Aside0.mk hi299_0
                      have HC299_0 := Aside0.mk hl299_0
                      clear hi299_0 hl299_0
                      replace p299 := eq_true p299
                      replace q299 := eq_true q299
                      have p300 : 0 ≤ (x8_2 : Int) := of_decide_eq_true (by first | (with_reducible assumption) | assumption)
                      have q300 : x8_2 < (l0.length : Int) := of_decide_eq_true (by first | (with_reducible assumption) | assumption)
                      obtain ⟨ad300, A300_0, c300_0, e300, hx300_0, hl300_0, hi300_0⟩ := at_L1 HR0.out x8_2 p300 q300
                      obtain rfl : ad299 = ad300 := (by injection e300)
                      replace hx300_0 := (HB.out.cell (World.block_lt_of_cell? w _ hx300_0)).trans hx300_0
                      have HR300_0 := Aside0.mk hi300_0
                      have HC300_0 := Aside0.mk hl300_0
                      clear hi300_0 hl300_0
                      replace p300 := eq_true p300
                      replace q300 := eq_true q300
                      have ea_ := Option.some.inj (hx299_0.symm.trans hx300_0)
                      injection ea_ with ea_ en_ ec_
                      subst ea_
                      subst ec_
                      clear en_
                      go_wp2
                      go_roundg k2
                      case measure => have := HJ4.out; have := HK2.out; omega
                      case rel => exact ⟨(wrap64 (x6_2 + 1)), (wrap64 ((wrap64 (x7_2 + 16)) + (wrap64 (8 * ((rd_L1 l0 x8_2).length : Int))))), (wrap64 (x8_2 + 1)), (by first | rfl | (simp; done) | (simp [*]; done)), (by first | rfl | (simp; done) | (simp [*]; done)), (by first | rfl | (simp; done) | (simp [*]; done)), H', ⟨by have := HJ4.out; have := HK2.out; omega⟩, ⟨by repeat (first | (with_reducible first | exact HB.out | apply below_alloc | apply pw_below_drewN | apply below_drew1) | exact HB.out)⟩⟩
                    · rw [if_neg c17] at H
                      have c17b0 : decide ((wrap64 ((wrap64 (x7_2 + 16)) + (wrap64 (8 * ((rd_L1 l0 x8_2).length : Int))))) ≤ (wrap64 (a1))) = false := decide_eq_false c17
                      clear c17
                      by_cases c18 : 0 ≤ a1
                      · rw [if_pos c18] at H
                        have c18b0 := eq_true c18
                        have c18b1 : decide (0 ≤ a1) = true := decide_eq_true c18
                        clear c18
                        by_cases c19 : a1 ≤ (t297.size : Int)
                        · rw [if_pos c19] at H
                          have c19b0 := eq_true c19
                          have c19b1 : decide (a1 ≤ (t297.size : Int)) = true := decide_eq_true c19
                          clear c19
                          replace H := Option.bind_eq_some_iff.mp H
                          obtain ⟨⟨t301, t304⟩, A200, H⟩ := H
                          replace H : (if 0 ≤ x6_2 then (if x6_2 ≤ (l0.length : Int) then ((privityref48_Same.f k2 t301 (l0.take (x6_2 : Int).toNat)).bind fun t309 => (if t309 = true then (some (t304 == (wrap64 ((wrap64 (a1)) - x7_2)))) else (some false))) else (none)) else (none)) = some r := H
                          have A20 := Aside0.mk A200
                          clear A200
                          by_cases c21 : 0 ≤ x6_2
                          · rw [if_pos c21] at H
                            have c21b0 := eq_true c21
                            have c21b1 : decide (0 ≤ x6_2) = true := decide_eq_true c21
                            clear c21
                            by_cases c22 : x6_2 ≤ (l0.length : Int)
                            · rw [if_pos c22] at H
                              have c22b0 := eq_true c22
                              have c22b1 : decide (x6_2 ≤ (l0.length : Int)) = true := decide_eq_true c22
                              clear c22
                              obtain ⟨y305, hy305⟩ : ∃ y_ : List (List Int), y_ = (l0.take (x6_2 : Int).toNat) := ⟨_, rfl⟩
                              replace H : ((privityref48_Same.f k2 t301 y305).bind fun t309 => (if t309 = true then (some (t304 == (wrap64 ((wrap64 (a1)) - x7_2)))) else (some false))) = some r := by first | (rw [hy305]; with_reducible exact H) | (have H2_ := (Option.bind_some _ _).symm.trans H; rw [hy305]; with_reducible exact H2_) | (have H2_ := (Option.bind_some _ _).symm.trans H; with_reducible exact H2_) | with_reducible exact H | (rw [hy305]; exact H) | exact H
                              have Ny305 := Aside0.mk hy305
                              clear hy305
                              replace H := Option.bind_eq_some_iff.mp H
                              obtain ⟨t309, A230, H⟩ := H
                              replace H : (if t309 = true then (some (t304 == (wrap64 ((wrap64 (a1)) - x7_2)))) else (some false)) = some r := H
                              have A23 := Aside0.mk A230
                              clear A230
                              by_cases c24 : t309 = true
                              · subst c24
                                have H1 : (some (t304 == (wrap64 ((wrap64 (a1)) - x7_2)))) = some r := by rw [if_pos rfl] at H; exact H
                                clear H
                                have H := H1
                                clear H1
                                obtain rfl := Option.some.inj H
                                have p299 : 0 ≤ (x8_2 : Int) := of_decide_eq_true (by first | (with_reducible assumption) | assumption)
                                have q299 : x8_2 < (l0.length : Int) := of_decide_eq_true (by first | (with_reducible assumption) | assumption)
                                obtain ⟨ad299, A299_0, c299_0, e299, hx299_0, hl299_0, hi299_0⟩ := at_L1 HR0.out x8_2 p299 q299
                                cases e299
                                replace hx299_0 := (HB.out.cell (World.block_lt_of_cell? w _ hx299_0)).trans hx299_0
                                have HR299_0 := Aside0.mk hi299_0
                                have HC299_0 := Aside0.mk hl299_0
                                clear hi299_0 hl299_0
                                replace p299 := eq_true p299
                                replace q299 := eq_true q299
                                go_wp2_with (first | ((with_reducible refine gate_callee (f := 13) rfl ?_); refine goesL_ (some 65) rfl rfl Try.func13 (by kernel_rfl) rfl #[.string (t297.extract 0 (a1 : Int).toNat)] rfl (by (try simp only [List.map_toArray, List.map_cons, List.map_nil]); first | done | rfl | (simp only [List.length_drop, List.length_take]; rfl)) ?_; (with_reducible refine (journal_Decode.calls k2 (t297.extract 0 (a1 : Int).toNat) t301 t304 _ A20.out).mono ?_); rintro e w25 ⟨v302, rfl, ho0, hb⟩; refine ⟨_, rfl, ?_⟩; have n0_ := Aside0.mk (Kd.N_lower (Kd.N_mono (ok' := fun k_ => True) ho0 (fun k_ hk_ => trivial)) (below_size (by repeat (first | (with_reducible first | exact HB.out | apply below_alloc | apply pw_below_drewN | apply below_drew1) | exact HB.out)))); have n1_ := Aside0.mk (below_step (by repeat (first | (with_reducible first | exact HB.out | apply below_alloc | apply pw_below_drewN | apply below_drew1) | exact HB.out)) hb); clear HB; have HO303 := n0_; have HB := n1_; clear n0_ n1_; (try clear hb); (try clear hb2); (try clear hk); (try clear hi); (try clear ho0); have q26 : (x6_2 : Int) ≤ ((l0.length : Int) : Int) := of_decide_eq_true (by first | (with_reducible assumption) | assumption); obtain ⟨i026, hi026, _, hsz26, _⟩ := info_parts info27; have hroom26 : l0.length ≤ c0 := HC0.out; have hC26 : Kd.C (Kd.slice 39 (Kd.int .u64)) _ (some ad299) l0.length l0 := HR0.out; have hcut26 := cut_to (P := Try.prog) 22 27 .i64 Try.underlying22 hi026 (some ad299) l0.length c0 x6_2 (of_decide_eq_true (by first | (with_reducible assumption) | assumption)) q26 hroom26; have hr26 := Kd.C_take (m := (x6_2 : Int).toNat) hC26 (by omega); have hy26 : y305.length = (x6_2 : Int).toNat := (by rw [Ny305.out, List.length_take]; omega); rw [← Ny305.out] at hr26; rw [← hy26] at hcut26; have HR308 := Aside0.mk hr26; have HC308 := Aside0.mk (show y305.length ≤ c0 from by omega); clear hr26 hC26 hroom26 hi026 hsz26; have KY26 := Aside0.mk hy26; clear hy26; replace q26 := eq_true q26; obtain ⟨Ao27, co27, eo27⟩ := Kd.N_slice HO303.out; subst eo27) | ((with_reducible refine gate_callee (f := 15) rfl ?_); refine goesL_ (some 72) rfl rfl Try.func15 (by kernel_rfl) rfl #[.slice Ao27 t301.length co27, .slice (some ad299) y305.length c0] rfl (by (try simp only [List.map_toArray, List.map_cons, List.map_nil]); first | done | rfl | (simp only [List.length_drop, List.length_take]; rfl)) ?_; (with_reducible refine (privityref48_Same.calls k2 _ _ t301 _ _ y305 true _ ?side1 ?side2 ?side3 ?side4 A23.out).mono ?_); (case side1 => repeat (first | exact (Kd.N_reads' HO303.out).2.2 | (with_reducible refine Kd.C_alloc ?_ _) | (with_reducible refine Kd.C_drewN ?_ _) | (with_reducible refine Kd.C_drew ?_))); (case side2 => exact (Kd.N_reads' HO303.out).2.1); (case side3 => repeat (first | exact (Kd.C_below HR308.out HB.out) | (with_reducible refine Kd.C_alloc ?_ _) | (with_reducible refine Kd.C_drewN ?_ _) | (with_reducible refine Kd.C_drew ?_))); (case side4 => exact HC308.out); rintro e w' ⟨rfl, ⟨nd, rfl⟩⟩; refine ⟨_, rfl, ?_⟩))
                                go_ret
                                exact ⟨by first | rfl | (simp [errW_none, errW_some] <;> rfl) | (simp [*, errW_none, errW_some] <;> rfl), by repeat (first | (with_reducible first | exact HB.out | apply below_alloc | apply pw_below_drewN | apply below_drew1) | exact HB.out)⟩
                              · replace c24 := Bool.eq_false_iff.mpr c24
                                subst c24
                                have H1 : (some false) = some r := by rw [if_neg (show ¬ (false = true) by decide)] at H; exact H
                                clear H
                                have H := H1
                                clear H1
                                obtain rfl := Option.some.inj H
                                have p299 : 0 ≤ (x8_2 : Int) := of_decide_eq_true (by first | (with_reducible assumption) | assumption)
                                have q299 : x8_2 < (l0.length : Int) := of_decide_eq_true (by first | (with_reducible assumption) | assumption)
                                obtain ⟨ad299, A299_0, c299_0, e299, hx299_0, hl299_0, hi299_0⟩ := at_L1 HR0.out x8_2 p299 q299
                                cases e299
                                replace hx299_0 := (HB.out.cell (World.block_lt_of_cell? w _ hx299_0)).trans hx299_0
                                have HR299_0 := Aside0.mk hi299_0
                                have HC299_0 := Aside0.mk hl299_0
                                clear hi299_0 hl299_0
                                replace p299 := eq_true p299
                                replace q299 := eq_true q299
                                go_wp2_with (first | ((with_reducible refine gate_callee (f := 13) rfl ?_); refine goesL_ (some 65) rfl rfl Try.func13 (by kernel_rfl) rfl #[.string (t297.extract 0 (a1 : Int).toNat)] rfl (by (try simp only [List.map_toArray, List.map_cons, List.map_nil]); first | done | rfl | (simp only [List.length_drop, List.length_take]; rfl)) ?_; (with_reducible refine (journal_Decode.calls k2 (t297.extract 0 (a1 : Int).toNat) t301 t304 _ A20.out).mono ?_); rintro e w28 ⟨v302, rfl, ho0, hb⟩; refine ⟨_, rfl, ?_⟩; have n0_ := Aside0.mk (Kd.N_lower (Kd.N_mono (ok' := fun k_ => True) ho0 (fun k_ hk_ => trivial)) (below_size (by repeat (first | (with_reducible first | exact HB.out | apply below_alloc | apply pw_below_drewN | apply below_drew1) | exact HB.out)))); have n1_ := Aside0.mk (below_step (by repeat (first | (with_reducible first | exact HB.out | apply below_alloc | apply pw_below_drewN | apply below_drew1) | exact HB.out)) hb); clear HB; have HO303 := n0_; have HB := n1_; clear n0_ n1_; (try clear hb); (try clear hb2); (try clear hk); (try clear hi); (try clear ho0); have q29 : (x6_2 : Int) ≤ ((l0.length : Int) : Int) := of_decide_eq_true (by first | (with_reducible assumption) | assumption); obtain ⟨i029, hi029, _, hsz29, _⟩ := info_parts info27; have hroom29 : l0.length ≤ c0 := HC0.out; have hC29 : Kd.C (Kd.slice 39 (Kd.int .u64)) _ (some ad299) l0.length l0 := HR0.out; have hcut29 := cut_to (P := Try.prog) 22 27 .i64 Try.underlying22 hi029 (some ad299) l0.length c0 x6_2 (of_decide_eq_true (by first | (with_reducible assumption) | assumption)) q29 hroom29; have hr29 := Kd.C_take (m := (x6_2 : Int).toNat) hC29 (by omega); have hy29 : y305.length = (x6_2 : Int).toNat := (by rw [Ny305.out, List.length_take]; omega); rw [← Ny305.out] at hr29; rw [← hy29] at hcut29; have HR308 := Aside0.mk hr29; have HC308 := Aside0.mk (show y305.length ≤ c0 from by omega); clear hr29 hC29 hroom29 hi029 hsz29; have KY29 := Aside0.mk hy29; clear hy29; replace q29 := eq_true q29; obtain ⟨Ao30, co30, eo30⟩ := Kd.N_slice HO303.out; subst eo30) | ((with_reducible refine gate_callee (f := 15) rfl ?_); refine goesL_ (some 72) rfl rfl Try.func15 (by kernel_rfl) rfl #[.slice Ao30 t301.length co30, .slice (some ad299) y305.length c0] rfl (by (try simp only [List.map_toArray, List.map_cons, List.map_nil]); first | done | rfl | (simp only [List.length_drop, List.length_take]; rfl)) ?_; (with_reducible refine (privityref48_Same.calls k2 _ _ t301 _ _ y305 false _ ?side1 ?side2 ?side3 ?side4 A23.out).mono ?_); (case side1 => repeat (first | exact (Kd.N_reads' HO303.out).2.2 | (with_reducible refine Kd.C_alloc ?_ _) | (with_reducible refine Kd.C_drewN ?_ _) | (with_reducible refine Kd.C_drew ?_))); (case side2 => exact (Kd.N_reads' HO303.out).2.1); (case side3 => repeat (first | exact (Kd.C_below HR308.out HB.out) | (with_reducible refine Kd.C_alloc ?_ _) | (with_reducible refine Kd.C_drewN ?_ _) | (with_reducible refine Kd.C_drew ?_))); (case side4 => exact HC308.out); rintro e w' ⟨rfl, ⟨nd, rfl⟩⟩; refine ⟨_, rfl, ?_⟩))
                                go_ret
                                exact ⟨by first | rfl | (simp [errW_none, errW_some] <;> rfl) | (simp [*, errW_none, errW_some] <;> rfl), by repeat (first | (with_reducible first | exact HB.out | apply below_alloc | apply pw_below_drewN | apply below_drew1) | exact HB.out)⟩
                            · rw [if_neg c22] at H
                              exact absurd H (by simp)
                          · rw [if_neg c21] at H
                            exact absurd H (by simp)
                        · rw [if_neg c19] at H
                          exact absurd H (by simp)
                      · rw [if_neg c18] at H
                        exact absurd H (by simp)
                  · rw [if_neg c16] at H
                    exact absurd H (by simp)
                · rw [if_neg c15] at H
                  have c15b0 : decide (x8_2 < (l0.length : Int)) = false := decide_eq_false c15
                  clear c15
                  by_cases c31 : 0 ≤ a1
                  · rw [if_pos c31] at H
                    have c31b0 := eq_true c31
                    have c31b1 : decide (0 ≤ a1) = true := decide_eq_true c31
                    clear c31
                    by_cases c32 : a1 ≤ (t297.size : Int)
                    · rw [if_pos c32] at H
                      have c32b0 := eq_true c32
                      have c32b1 : decide (a1 ≤ (t297.size : Int)) = true := decide_eq_true c32
                      clear c32
                      replace H := Option.bind_eq_some_iff.mp H
                      obtain ⟨⟨t310, t313⟩, A330, H⟩ := H
                      replace H : (if 0 ≤ x6_2 then (if x6_2 ≤ (l0.length : Int) then ((privityref48_Same.f k2 t310 (l0.take (x6_2 : Int).toNat)).bind fun t318 => (if t318 = true then (some (t313 == (wrap64 ((wrap64 (a1)) - x7_2)))) else (some false))) else (none)) else (none)) = some r := H
                      have A33 := Aside0.mk A330
                      clear A330
                      by_cases c34 : 0 ≤ x6_2
                      · rw [if_pos c34] at H
                        have c34b0 := eq_true c34
                        have c34b1 : decide (0 ≤ x6_2) = true := decide_eq_true c34
                        clear c34
                        by_cases c35 : x6_2 ≤ (l0.length : Int)
                        · rw [if_pos c35] at H
                          have c35b0 := eq_true c35
                          have c35b1 : decide (x6_2 ≤ (l0.length : Int)) = true := decide_eq_true c35
                          clear c35
                          obtain ⟨y314, hy314⟩ : ∃ y_ : List (List Int), y_ = (l0.take (x6_2 : Int).toNat) := ⟨_, rfl⟩
                          replace H : ((privityref48_Same.f k2 t310 y314).bind fun t318 => (if t318 = true then (some (t313 == (wrap64 ((wrap64 (a1)) - x7_2)))) else (some false))) = some r := by first | (rw [hy314]; with_reducible exact H) | (have H2_ := (Option.bind_some _ _).symm.trans H; rw [hy314]; with_reducible exact H2_) | (have H2_ := (Option.bind_some _ _).symm.trans H; with_reducible exact H2_) | with_reducible exact H | (rw [hy314]; exact H) | exact H
                          have Ny314 := Aside0.mk hy314
                          clear hy314
                          replace H := Option.bind_eq_some_iff.mp H
                          obtain ⟨t318, A360, H⟩ := H
                          replace H : (if t318 = true then (some (t313 == (wrap64 ((wrap64 (a1)) - x7_2)))) else (some false)) = some r := H
                          have A36 := Aside0.mk A360
                          clear A360
                          by_cases c37 : t318 = true
                          · subst c37
                            have H1 : (some (t313 == (wrap64 ((wrap64 (a1)) - x7_2)))) = some r := by rw [if_pos rfl] at H; exact H
                            clear H
                            have H := H1
                            clear H1
                            obtain rfl := Option.some.inj H
                            go_wp2_with (first | ((with_reducible refine gate_callee (f := 13) rfl ?_); refine goesL_ (some 65) rfl rfl Try.func13 (by kernel_rfl) rfl #[.string (t297.extract 0 (a1 : Int).toNat)] rfl (by (try simp only [List.map_toArray, List.map_cons, List.map_nil]); first | done | rfl | (simp only [List.length_drop, List.length_take]; rfl)) ?_; (with_reducible refine (journal_Decode.calls k2 (t297.extract 0 (a1 : Int).toNat) t310 t313 _ A33.out).mono ?_); rintro e w38 ⟨v311, rfl, ho0, hb⟩; refine ⟨_, rfl, ?_⟩; have n0_ := Aside0.mk (Kd.N_lower (Kd.N_mono (ok' := fun k_ => True) ho0 (fun k_ hk_ => trivial)) (below_size (by repeat (first | (with_reducible first | exact HB.out | apply below_alloc | apply pw_below_drewN | apply below_drew1) | exact HB.out)))); have n1_ := Aside0.mk (below_step (by repeat (first | (with_reducible first | exact HB.out | apply below_alloc | apply pw_below_drewN | apply below_drew1) | exact HB.out)) hb); clear HB; have HO312 := n0_; have HB := n1_; clear n0_ n1_; (try clear hb); (try clear hb2); (try clear hk); (try clear hi); (try clear ho0); have q39 : (x6_2 : Int) ≤ ((l0.length : Int) : Int) := of_decide_eq_true (by first | (with_reducible assumption) | assumption); obtain ⟨i039, hi039, _, hsz39, _⟩ := info_parts info27; have hroom39 : l0.length ≤ c0 := HC0.out; have hC39 : Kd.C (Kd.slice 39 (Kd.int .u64)) _ A0 l0.length l0 := HR0.out; have hcut39 := cut_to (P := Try.prog) 22 27 .i64 Try.underlying22 hi039 A0 l0.length c0 x6_2 (of_decide_eq_true (by first | (with_reducible assumption) | assumption)) q39 hroom39; have hr39 := Kd.C_take (m := (x6_2 : Int).toNat) hC39 (by omega); have hy39 : y314.length = (x6_2 : Int).toNat := (by rw [Ny314.out, List.length_take]; omega); rw [← Ny314.out] at hr39; rw [← hy39] at hcut39; have HR317 := Aside0.mk hr39; have HC317 := Aside0.mk (show y314.length ≤ c0 from by omega); clear hr39 hC39 hroom39 hi039 hsz39; have KY39 := Aside0.mk hy39; clear hy39; replace q39 := eq_true q39; obtain ⟨Ao40, co40, eo40⟩ := Kd.N_slice HO312.out; subst eo40) | ((with_reducible refine gate_callee (f := 15) rfl ?_); refine goesL_ (some 72) rfl rfl Try.func15 (by kernel_rfl) rfl #[.slice Ao40 t310.length co40, .slice A0 y314.length c0] rfl (by (try simp only [List.map_toArray, List.map_cons, List.map_nil]); first | done | rfl | (simp only [List.length_drop, List.length_take]; rfl)) ?_; (with_reducible refine (privityref48_Same.calls k2 _ _ t310 _ _ y314 true _ ?side1 ?side2 ?side3 ?side4 A36.out).mono ?_); (case side1 => repeat (first | exact (Kd.N_reads' HO312.out).2.2 | (with_reducible refine Kd.C_alloc ?_ _) | (with_reducible refine Kd.C_drewN ?_ _) | (with_reducible refine Kd.C_drew ?_))); (case side2 => exact (Kd.N_reads' HO312.out).2.1); (case side3 => repeat (first | exact (Kd.C_below HR317.out HB.out) | (with_reducible refine Kd.C_alloc ?_ _) | (with_reducible refine Kd.C_drewN ?_ _) | (with_reducible refine Kd.C_drew ?_))); (case side4 => exact HC317.out); rintro e w' ⟨rfl, ⟨nd, rfl⟩⟩; refine ⟨_, rfl, ?_⟩))
                            go_ret
                            exact ⟨by first | rfl | (simp [errW_none, errW_some] <;> rfl) | (simp [*, errW_none, errW_some] <;> rfl), by repeat (first | (with_reducible first | exact HB.out | apply below_alloc | apply pw_below_drewN | apply below_drew1) | exact HB.out)⟩
                          · replace c37 := Bool.eq_false_iff.mpr c37
                            subst c37
                            have H1 : (some false) = some r := by rw [if_neg (show ¬ (false = true) by decide)] at H; exact H
                            clear H
                            have H := H1
                            clear H1
                            obtain rfl := Option.some.inj H
                            go_wp2_with (first | ((with_reducible refine gate_callee (f := 13) rfl ?_); refine goesL_ (some 65) rfl rfl Try.func13 (by kernel_rfl) rfl #[.string (t297.extract 0 (a1 : Int).toNat)] rfl (by (try simp only [List.map_toArray, List.map_cons, List.map_nil]); first | done | rfl | (simp only [List.length_drop, List.length_take]; rfl)) ?_; (with_reducible refine (journal_Decode.calls k2 (t297.extract 0 (a1 : Int).toNat) t310 t313 _ A33.out).mono ?_); rintro e w41 ⟨v311, rfl, ho0, hb⟩; refine ⟨_, rfl, ?_⟩; have n0_ := Aside0.mk (Kd.N_lower (Kd.N_mono (ok' := fun k_ => True) ho0 (fun k_ hk_ => trivial)) (below_size (by repeat (first | (with_reducible first | exact HB.out | apply below_alloc | apply pw_below_drewN | apply below_drew1) | exact HB.out)))); have n1_ := Aside0.mk (below_step (by repeat (first | (with_reducible first | exact HB.out | apply below_alloc | apply pw_below_drewN | apply below_drew1) | exact HB.out)) hb); clear HB; have HO312 := n0_; have HB := n1_; clear n0_ n1_; (try clear hb); (try clear hb2); (try clear hk); (try clear hi); (try clear ho0); have q42 : (x6_2 : Int) ≤ ((l0.length : Int) : Int) := of_decide_eq_true (by first | (with_reducible assumption) | assumption); obtain ⟨i042, hi042, _, hsz42, _⟩ := info_parts info27; have hroom42 : l0.length ≤ c0 := HC0.out; have hC42 : Kd.C (Kd.slice 39 (Kd.int .u64)) _ A0 l0.length l0 := HR0.out; have hcut42 := cut_to (P := Try.prog) 22 27 .i64 Try.underlying22 hi042 A0 l0.length c0 x6_2 (of_decide_eq_true (by first | (with_reducible assumption) | assumption)) q42 hroom42; have hr42 := Kd.C_take (m := (x6_2 : Int).toNat) hC42 (by omega); have hy42 : y314.length = (x6_2 : Int).toNat := (by rw [Ny314.out, List.length_take]; omega); rw [← Ny314.out] at hr42; rw [← hy42] at hcut42; have HR317 := Aside0.mk hr42; have HC317 := Aside0.mk (show y314.length ≤ c0 from by omega); clear hr42 hC42 hroom42 hi042 hsz42; have KY42 := Aside0.mk hy42; clear hy42; replace q42 := eq_true q42; obtain ⟨Ao43, co43, eo43⟩ := Kd.N_slice HO312.out; subst eo43) | ((with_reducible refine gate_callee (f := 15) rfl ?_); refine goesL_ (some 72) rfl rfl Try.func15 (by kernel_rfl) rfl #[.slice Ao43 t310.length co43, .slice A0 y314.length c0] rfl (by (try simp only [List.map_toArray, List.map_cons, List.map_nil]); first | done | rfl | (simp only [List.length_drop, List.length_take]; rfl)) ?_; (with_reducible refine (privityref48_Same.calls k2 _ _ t310 _ _ y314 false _ ?side1 ?side2 ?side3 ?side4 A36.out).mono ?_); (case side1 => repeat (first | exact (Kd.N_reads' HO312.out).2.2 | (with_reducible refine Kd.C_alloc ?_ _) | (with_reducible refine Kd.C_drewN ?_ _) | (with_reducible refine Kd.C_drew ?_))); (case side2 => exact (Kd.N_reads' HO312.out).2.1); (case side3 => repeat (first | exact (Kd.C_below HR317.out HB.out) | (with_reducible refine Kd.C_alloc ?_ _) | (with_reducible refine Kd.C_drewN ?_ _) | (with_reducible refine Kd.C_drew ?_))); (case side4 => exact HC317.out); rintro e w' ⟨rfl, ⟨nd, rfl⟩⟩; refine ⟨_, rfl, ?_⟩))
                            go_ret
                            exact ⟨by first | rfl | (simp [errW_none, errW_some] <;> rfl) | (simp [*, errW_none, errW_some] <;> rfl), by repeat (first | (with_reducible first | exact HB.out | apply below_alloc | apply pw_below_drewN | apply below_drew1) | exact HB.out)⟩
                        · rw [if_neg c35] at H
                          exact absurd H (by simp)
                      · rw [if_neg c34] at H
                        exact absurd H (by simp)
                    · rw [if_neg c32] at H
                      exact absurd H (by simp)
                  · rw [if_neg c31] at H
                    exact absurd H (by simp)
          · rw [if_neg c13] at H
            exact absurd ((Option.some.inj H).trans HRT.out) Bool.false_ne_true
  · replace c4 := Bool.eq_false_iff.mpr c4
    subst c4
    have H1 : (some false) = some r := by rw [if_neg (show ¬ (false = true) by decide)] at H; exact H
    clear H
    have H := H1
    clear H1
    obtain rfl := Option.some.inj H
    go_enter Try.func5, Try.ntmps5
    go_wp2_with (first | ((with_reducible refine gate_callee (f := 9) rfl ?_); refine goesL_ (some 11) rfl rfl Try.func9 (by kernel_rfl) rfl #[] rfl (by (try simp only [List.map_toArray, List.map_cons, List.map_nil]); first | done | rfl | (simp only [List.length_drop, List.length_take]; rfl)) ?_; (with_reducible refine (privitylaw48_awake.calls k  false _ A3.out).mono ?_); rintro e w45 ⟨rfl, hb⟩; refine ⟨_, rfl, ?_⟩; have n0_ := Aside0.mk (below_step (by repeat (first | (with_reducible first | exact HB.out | apply below_alloc | apply pw_below_drewN | apply below_drew1) | exact HB.out)) hb); clear HB; have HB := n0_; clear n0_; (try clear hb); (try clear hb2); (try clear hk); (try clear hi)))
    go_ret
    exact ⟨by first | rfl | (simp [errW_none, errW_some] <;> rfl) | (simp [*, errW_none, errW_some] <;> rfl), by repeat (first | (with_reducible first | exact HB.out | apply below_alloc | apply pw_below_drewN | apply below_drew1) | exact HB.out)⟩

end Go.Proofs.Ytaalmmnjehfimaa.P
