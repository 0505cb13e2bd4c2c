-- Written by a program of this session (wip/gen.py, over the kit's print).
import Derived.Test.YtaalmmnjehfimaaPx0
import Derived.Test.YtaalmmnjehfimaaPx14
import Derived.Test.YtaalmmnjehfimaaPx19
namespace Go.Proofs.Ytaalmmnjehfimaa.P
open Go.RowKit Go.Proofs.YtaalmmnjehfimaaW.PrintWords Go.Proofs.YtaalmmnjehfimaaW.PrintLast Go.Proofs.YtaalmmnjehfimaaW.PrintMore
attribute [local go_sem] max2_int min2_int max_two min_two max_three min_three max_four min_four   -- for this text's walks alone
set_option linter.unusedVariables false
set_option linter.unusedSimpArgs false

/-! ### privityref48_Decode: function 16 -/
mutual
def privityref48_Decode.l0 : Nat → ByteArray → List (List Int) → Int → Option ((List (List Int)) × Int)
  | 0, _, _, _ => none
  | k + 1, x0, x4, x5 => if (wrap64 (x5 + 16)) ≤ (x0.size : Int) then (if 0 ≤ x5 then (if x5 ≤ (wrap64 (x5 + 8)) then (if (wrap64 (x5 + 8)) ≤ (x0.size : Int) then ((privityref03_DecodeWords.f k (x0.extract (x5 : Int).toNat ((wrap64 (x5 + 8)) : Int).toNat)).bind fun bt262 => (if 0 < (bt262.1.length : Int) then (if (rd bt262.1 0) > (IntKind.u64.wrap ((x0.size : Int))) then (privityref48_Decode.j1 k x0 x4 x5 bt262.1 true) else (privityref48_Decode.j1 k x0 x4 x5 bt262.1 (decide ((wrap64 ((wrap64 (x5 + 16)) + (wrap64 (8 * (wrap64 (rd bt262.1 0)))))) > (x0.size : Int))))) else (none))) else (none)) else (none)) else (none)) else (some (x4, wrap64 ((x0.size : Int) - x5)))
def privityref48_Decode.j1 : Nat → ByteArray → List (List Int) → Int → List Int → Bool → Option ((List (List Int)) × Int)
  | 0, _, _, _, _, _ => none
  | k + 1, x0, x4, x5, x6, x45 => if x45 = true then (some (x4, wrap64 ((x0.size : Int) - x5))) else (if 0 < (x6.length : Int) then (if 0 ≤ x5 then (if x5 ≤ (wrap64 ((wrap64 (x5 + 16)) + (wrap64 (8 * (wrap64 (rd x6 0)))))) then (if (wrap64 ((wrap64 (x5 + 16)) + (wrap64 (8 * (wrap64 (rd x6 0)))))) ≤ (x0.size : Int) then ((privityref03_DecodeWords.f k (x0.extract (x5 : Int).toNat ((wrap64 ((wrap64 (x5 + 16)) + (wrap64 (8 * (wrap64 (rd x6 0)))))) : Int).toNat)).bind fun bt269 => (if 1 ≤ (wrap64 ((bt269.1.length : Int) - 1)) then (if (wrap64 ((bt269.1.length : Int) - 1)) ≤ (bt269.1.length : Int) then ((some ((bt269.1.take ((wrap64 ((bt269.1.length : Int) - 1)) : Int).toNat).drop 1 : List Int)).bind fun y273 => ((privityref48_mark.f k y273).bind fun t278 => (if 0 ≤ (wrap64 ((bt269.1.length : Int) - 1)) then (if (wrap64 ((bt269.1.length : Int) - 1)) < (bt269.1.length : Int) then (if t278 = (rd bt269.1 (wrap64 ((bt269.1.length : Int) - 1))) then (if x4.length < 5864062014805 then (privityref48_Decode.l0 k x0 (x4 ++ [y273]) (wrap64 ((wrap64 (x5 + 16)) + (wrap64 (8 * (wrap64 (rd x6 0))))))) else (none)) else (some (x4, wrap64 ((x0.size : Int) - x5)))) else (none)) else (none)))) else (none)) else (none))) else (none)) else (none)) else (none)) else (none))
end
def privityref48_Decode.f (k : Nat) (a0 : ByteArray) : Option ((List (List Int)) × Int) := privityref48_Decode.l0 k a0 ([] : List (List Int)) 0
theorem privityref48_Decode.mono_l : ∀ k, (∀ y0 y1 y2, LeO (privityref48_Decode.l0 k y0 y1 y2) (privityref48_Decode.l0 (k + 1) y0 y1 y2)) ∧ (∀ y0 y1 y2 y3 y4, LeO (privityref48_Decode.j1 k y0 y1 y2 y3 y4) (privityref48_Decode.j1 (k + 1) y0 y1 y2 y3 y4))
  | 0 => ⟨fun _ _ _ r h => by simp [privityref48_Decode.l0] at h, fun _ _ _ _ _ r h => by simp [privityref48_Decode.j1] at h⟩
  | k + 1 => by
    obtain ⟨ih0, ih1⟩ := privityref48_Decode.mono_l k
    refine ⟨?_, ?_⟩
    · intro y0 y1 y2
      unfold privityref48_Decode.l0
      repeat' first
      | (with_reducible exact ih0 _ _ _)
      | (with_reducible exact ih1 _ _ _ _ _)
      | (with_reducible exact privityref03_DecodeWords.mono _ _)
      | (with_reducible exact privityref48_mark.mono _ _)
      | (with_reducible exact LeO.refl _)
      | (with_reducible exact LeO.none _)
      | (with_reducible refine LeO.ite ?_ ?_)
      | (with_reducible refine LeO.bind ?_ (fun _ => ?_))
      | exact ih0 _ _ _
      | exact ih1 _ _ _ _ _
      | exact privityref03_DecodeWords.mono _ _
      | exact privityref48_mark.mono _ _
      | exact LeO.none _
      | refine LeO.ite ?_ ?_
      | refine LeO.bind ?_ (fun _ => ?_)
    · intro y0 y1 y2 y3 y4
      unfold privityref48_Decode.j1
      repeat' first
      | (with_reducible exact ih0 _ _ _)
      | (with_reducible exact ih1 _ _ _ _ _)
      | (with_reducible exact privityref03_DecodeWords.mono _ _)
      | (with_reducible exact privityref48_mark.mono _ _)
      | (with_reducible exact LeO.refl _)
      | (with_reducible exact LeO.none _)
      | (with_reducible refine LeO.ite ?_ ?_)
      | (with_reducible refine LeO.bind ?_ (fun _ => ?_))
      | exact ih0 _ _ _
      | exact ih1 _ _ _ _ _
      | exact privityref03_DecodeWords.mono _ _
      | exact privityref48_mark.mono _ _
      | exact LeO.none _
      | refine LeO.ite ?_ ?_
      | refine LeO.bind ?_ (fun _ => ?_)
theorem privityref48_Decode.mono : ∀ a0 k, LeO (privityref48_Decode.f k a0) (privityref48_Decode.f (k + 1) a0) := by
  intro a0 k
  obtain ⟨ih0, ih1⟩ := privityref48_Decode.mono_l k
  unfold privityref48_Decode.f
  repeat' first
      | (with_reducible exact ih0 _ _ _)
      | (with_reducible exact ih1 _ _ _ _ _)
      | (with_reducible exact privityref03_DecodeWords.mono _ _)
      | (with_reducible exact privityref48_mark.mono _ _)
      | (with_reducible exact LeO.refl _)
      | (with_reducible exact LeO.none _)
      | (with_reducible refine LeO.ite ?_ ?_)
      | (with_reducible refine LeO.bind ?_ (fun _ => ?_))
      | exact ih0 _ _ _
      | exact ih1 _ _ _ _ _
      | exact privityref03_DecodeWords.mono _ _
      | exact privityref48_mark.mono _ _
      | exact LeO.none _
      | refine LeO.ite ?_ ?_
      | refine LeO.bind ?_ (fun _ => ?_)
set_option maxHeartbeats 8000000 in
set_option maxRecDepth 100000 in
theorem privityref48_Decode.calls (k : Nat) (a0 : ByteArray) (r1 : List (List Int)) (r2 : Int) (w : World) (h : privityref48_Decode.f k a0 = some (r1, r2)) :
    Calls Try.prog 16 #[.string a0] w fun e w' => ∃ v0_ : Value, e = .returned (.tuple #[v0_, .int .i64 r2]) ∧ Kd.N (Kd.slice 39 (Kd.int .u64)) 27 w' w.heap.size (fun k_ => (w.heap.size ≤ k_)) v0_ r1 ∧ Below w.heap.size w w' := by
  have HB := Aside0.mk (Below.refl w.heap.size w)
  have H : (privityref48_Decode.l0 k a0 ([] : List (List Int)) 0) = some (r1, r2) := h
  clear h
  have H' := Aside0.mk H
  clear H
  go_enter Try.func16, Try.ntmps16
  go_wp2
  repeat (go_quiet (fail); try go_wp2)
  go_loopg [4, 5] k (fun kq v4 v5 w' => ∃ (x4_1 : List (List Int)) (x5_1 : Int), v5 = .int .i64 x5_1 ∧ Aside0 (privityref48_Decode.l0 kq a0 x4_1 x5_1 = some (r1, r2)) ∧ Aside0 (kq ≤ k) ∧ Aside0 (Kd.N (Kd.slice 39 (Kd.int .u64)) 27 w' w.heap.size (fun k_ => (w.heap.size ≤ k_)) v4 x4_1) ∧ Aside0 (Below w.heap.size w w'))
  case atStart => exact ⟨(([] : List (List Int))), (0), (by first | rfl | (simp; done) | (simp [*]; done)), H', ⟨Nat.le_refl _⟩, ⟨by first | exact Kd.S_nil _ _ _ _ _ | exact Kd.N_nil _ _ _ _ _ | exact Kd.V_nil _ _ _ _ _ | exact Kd.Q_nil _ _ _ _ _ | exact Kd.R_nil _ _ _ _ _⟩, ⟨by repeat (first | (with_reducible first | exact HB.out | apply below_alloc | apply pw_below_drewN | apply below_drew1) | exact HB.out)⟩⟩
  case round =>
    clear H'
    try clear c1
    obtain ⟨x4_1, x5_1, rfl, HA, HK1, HO_4, HB⟩ := hrel
    cases gk with
    | zero => exact absurd HA.out (by simp [privityref48_Decode.l0])
    | succ k1 =>
      have H := HA.out
      clear HA
      simp only [privityref48_Decode.l0] at H
      by_cases c2 : (wrap64 (x5_1 + 16)) ≤ (a0.size : Int)
      · rw [if_pos c2] at H
        have c2b0 : decide ((wrap64 (x5_1 + 16)) ≤ (a0.size : Int)) = true := decide_eq_true c2
        clear c2
        by_cases c3 : 0 ≤ x5_1
        · rw [if_pos c3] at H
          have c3b0 := eq_true c3
          have c3b1 : decide (0 ≤ x5_1) = true := decide_eq_true c3
          clear c3
          by_cases c4 : x5_1 ≤ (wrap64 (x5_1 + 8))
          · rw [if_pos c4] at H
            have c4b0 := eq_true c4
            have c4b1 : decide (x5_1 ≤ (wrap64 (x5_1 + 8))) = true := decide_eq_true c4
            by_cases c5 : (wrap64 (x5_1 + 8)) ≤ (a0.size : Int)
            · rw [if_pos c5] at H
              have c5b0 := eq_true c5
              have c5b1 : decide ((wrap64 (x5_1 + 8)) ≤ (a0.size : Int)) = true := decide_eq_true c5
              replace H := Option.bind_eq_some_iff.mp H
              obtain ⟨⟨t262, t263⟩, A60, H⟩ := H
              replace H : (if 0 < (t262.length : Int) then (if (rd t262 0) > (IntKind.u64.wrap ((a0.size : Int))) then (privityref48_Decode.j1 k1 a0 x4_1 x5_1 t262 true) else (privityref48_Decode.j1 k1 a0 x4_1 x5_1 t262 (decide ((wrap64 ((wrap64 (x5_1 + 16)) + (wrap64 (8 * (wrap64 (rd t262 0)))))) > (a0.size : Int))))) else (none)) = some (r1, r2) := H
              have A6 := Aside0.mk A60
              clear A60
              have HC7 := Aside0.mk H
              clear H
              go_upto_region 5 with (first | (go_at_call 22; (with_reducible refine (privityref03_DecodeWords.calls k1 (a0.extract (x5_1 : Int).toNat ((wrap64 (x5_1 + 8)) : Int).toNat) t262 t263 _ A6.out).mono ?_); rintro e w8 ⟨v264, rfl, ho0, hb⟩; have n0_ := Aside0.mk (Kd.N_elder' (by (with_reducible repeat (first | apply Kd.N_alloc | apply Kd.N_drewN | apply Kd.N_drew)); exact HO_4.out) (Kd.R_base ho0) hb); have n1_ := Aside0.mk (Kd.R_lower (Kd.R_newM (M := fun k_ => (w.heap.size ≤ k_)) ho0 (below_size (by repeat (first | (with_reducible first | exact HB.out | apply below_alloc | apply pw_below_drewN | apply below_drew1) | exact HB.out))) (fun k_ h_ => h_)) (below_size (by repeat (first | (with_reducible first | exact HB.out | apply below_alloc | apply pw_below_drewN | apply below_drew1) | exact HB.out)))); have n2_ := Aside0.mk (below_step (by repeat (first | (with_reducible first | exact HB.out | apply below_alloc | apply pw_below_drewN | apply below_drew1) | exact HB.out)) hb); clear HO_4; clear HB; have HO_4 := n0_; have HO265 := n1_; have HB := n2_; clear n0_ n1_ n2_; (try clear hb); (try clear hb2); (try clear hk); (try clear hi); (try clear ho0)))
              repeat (go_quiet (first | (go_at_call 22; (with_reducible refine (privityref03_DecodeWords.calls k1 (a0.extract (x5_1 : Int).toNat ((wrap64 (x5_1 + 8)) : Int).toNat) t262 t263 _ A6.out).mono ?_); rintro e w8 ⟨v264, rfl, ho0, hb⟩; have n0_ := Aside0.mk (Kd.N_elder' (by (with_reducible repeat (first | apply Kd.N_alloc | apply Kd.N_drewN | apply Kd.N_drew)); exact HO_4.out) (Kd.R_base ho0) hb); have n1_ := Aside0.mk (Kd.R_lower (Kd.R_newM (M := fun k_ => (w.heap.size ≤ k_)) ho0 (below_size (by repeat (first | (with_reducible first | exact HB.out | apply below_alloc | apply pw_below_drewN | apply below_drew1) | exact HB.out))) (fun k_ h_ => h_)) (below_size (by repeat (first | (with_reducible first | exact HB.out | apply below_alloc | apply pw_below_drewN | apply below_drew1) | exact HB.out)))); have n2_ := Aside0.mk (below_step (by repeat (first | (with_reducible first | exact HB.out | apply below_alloc | apply pw_below_drewN | apply below_drew1) | exact HB.out)) hb); clear HO_4; clear HB; have HO_4 := n0_; have HO265 := n1_; have HB := n2_; clear n0_ n1_ n2_; (try clear hb); (try clear hb2); (try clear hk); (try clear hi); (try clear ho0))); go_upto_region 5 with (first | (go_at_call 22; (with_reducible refine (privityref03_DecodeWords.calls k1 (a0.extract (x5_1 : Int).toNat ((wrap64 (x5_1 + 8)) : Int).toNat) t262 t263 _ A6.out).mono ?_); rintro e w8 ⟨v264, rfl, ho0, hb⟩; have n0_ := Aside0.mk (Kd.N_elder' (by (with_reducible repeat (first | apply Kd.N_alloc | apply Kd.N_drewN | apply Kd.N_drew)); exact HO_4.out) (Kd.R_base ho0) hb); have n1_ := Aside0.mk (Kd.R_lower (Kd.R_newM (M := fun k_ => (w.heap.size ≤ k_)) ho0 (below_size (by repeat (first | (with_reducible first | exact HB.out | apply below_alloc | apply pw_below_drewN | apply below_drew1) | exact HB.out))) (fun k_ h_ => h_)) (below_size (by repeat (first | (with_reducible first | exact HB.out | apply below_alloc | apply pw_below_drewN | apply below_drew1) | exact HB.out)))); have n2_ := Aside0.mk (below_step (by repeat (first | (with_reducible first | exact HB.out | apply below_alloc | apply pw_below_drewN | apply below_drew1) | exact HB.out)) hb); clear HO_4; clear HB; have HO_4 := n0_; have HO265 := n1_; have HB := n2_; clear n0_ n1_ n2_; (try clear hb); (try clear hb2); (try clear hk); (try clear hi); (try clear ho0))))
              (try simp only [Act.put, List.setIfInBounds_toArray, List.set_cons_zero, List.set_cons_succ])
              go_cut [45] (fun v45 wc => ∃ (kq : Nat) (x45_6 : Bool), v45 = .bool x45_6 ∧ Aside0 (privityref48_Decode.j1 kq a0 x4_1 x5_1 t262 x45_6 = some (r1, r2)) ∧ Aside0 (kq ≤ k1) ∧ Aside0 (Kd.N (Kd.slice 39 (Kd.int .u64)) 27 wc w.heap.size (fun k_ => (w.heap.size ≤ k_) ∧ some k_ ≠ (v264 : Value).ownBlock) u4 x4_1) ∧ Aside0 (Kd.R (Kd.int .u64) 39 wc w.heap.size (fun k_ => (w.heap.size ≤ k_)) v264 t262) ∧ Aside0 (Below w.heap.size w wc))
              case first =>
                have H := HC7.out
                clear HC7
                by_cases c9 : 0 < (t262.length : Int)
                · rw [if_pos c9] at H
                  have c9b0 : decide (0 < (t262.length : Int)) = true := decide_eq_true c9
                  have c9b1 : decide (0 < t262.length) = true := decide_eq_true (by omega)
                  clear c9
                  (first | rw [c9b0] | (simp only [i64_w, i32_w]; rw [c9b0]) | skip)
                  by_cases c10 : (rd t262 0) > (IntKind.u64.wrap ((a0.size : Int)))
                  · rw [if_pos c10] at H
                    have c10b0 : decide ((IntKind.u64.wrap ((a0.size : Int))) < (rd t262 0)) = true := decide_eq_true c10
                    clear c10
                    have H' := Aside0.mk H
                    clear H
                    obtain ⟨Ao11, co11, eo11⟩ := Kd.R_slice HO265.out
                    subst eo11
                    have p266 : 0 ≤ (0 : Int) := (by omega)
                    have q266 : 0 < (t262.length : Int) := of_decide_eq_true (by first | (with_reducible assumption) | assumption)
                    obtain ⟨ad266, e266, hx266_0⟩ := Kd.at_int (Kd.R_reads' HO265.out).2.2 0 p266 q266
                    cases e266
                    have qi266 : (0 < t262.length) = True := eq_true (by omega)
                    (try rw [show ((0 : Int)).toNat = 0 from rfl] at hx266_0)
                    (try rw [Addr.add_zero'] at hx266_0)
                    replace p266 := eq_true p266
                    replace q266 := eq_true q266
                    go_wp2
                    repeat (go_quiet (fail); try go_wp2)
                    go_meet
                    case rel => exact ⟨_, (true), (by first | rfl | (simp; done) | (simp [*]; done)), H', ⟨by have := HK1.out; first | omega | exact Nat.le_refl _⟩, ⟨by (with_reducible repeat (first | apply Kd.N_alloc | apply Kd.N_drewN | apply Kd.N_drew)); exact HO_4.out⟩, ⟨by (with_reducible repeat (first | apply Kd.R_alloc | apply Kd.R_drewN | apply Kd.R_drew)); exact Kd.R_mono HO265.out (fun _ hk => hk.1)⟩, ⟨by repeat (first | (with_reducible first | exact HB.out | apply below_alloc | apply pw_below_drewN | apply below_drew1) | exact HB.out)⟩⟩
                  · rw [if_neg c10] at H
                    have c10b0 : decide ((IntKind.u64.wrap ((a0.size : Int))) < (rd t262 0)) = false := decide_eq_false c10
                    clear c10
                    have H' := Aside0.mk H
                    clear H
                    obtain ⟨Ao12, co12, eo12⟩ := Kd.R_slice HO265.out
                    subst eo12
                    have p266 : 0 ≤ (0 : Int) := (by omega)
                    have q266 : 0 < (t262.length : Int) := of_decide_eq_true (by first | (with_reducible assumption) | assumption)
                    obtain ⟨ad266, e266, hx266_0⟩ := Kd.at_int (Kd.R_reads' HO265.out).2.2 0 p266 q266
                    cases e266
                    have qi266 : (0 < t262.length) = True := eq_true (by omega)
                    (try rw [show ((0 : Int)).toNat = 0 from rfl] at hx266_0)
                    (try rw [Addr.add_zero'] at hx266_0)
                    replace p266 := eq_true p266
                    replace q266 := eq_true q266
                    have p267 : 0 ≤ (0 : Int) := (by omega)
                    have q267 : 0 < (t262.length : Int) := of_decide_eq_true (by first | (with_reducible assumption) | assumption)
                    obtain ⟨ad267, e267, hx267_0⟩ := Kd.at_int (Kd.R_reads' HO265.out).2.2 0 p267 q267
                    obtain rfl : ad266 = ad267 := (by injection e267)
                    have qi267 : (0 < t262.length) = True := eq_true (by omega)
                    (try rw [show ((0 : Int)).toNat = 0 from rfl] at hx267_0)
                    (try rw [Addr.add_zero'] at hx267_0)
                    replace p267 := eq_true p267
                    replace q267 := eq_true q267
                    go_wp2
                    repeat (go_quiet (fail); try go_wp2)
                    go_meet
                    case rel => exact ⟨_, (decide ((wrap64 ((wrap64 (x5_1 + 16)) + (wrap64 (8 * (wrap64 (rd t262 0)))))) > (a0.size : Int))), (by first | rfl | (simp; done) | (simp [*]; done)), H', ⟨by have := HK1.out; first | omega | exact Nat.le_refl _⟩, ⟨by (with_reducible repeat (first | apply Kd.N_alloc | apply Kd.N_drewN | apply Kd.N_drew)); exact HO_4.out⟩, ⟨by (with_reducible repeat (first | apply Kd.R_alloc | apply Kd.R_drewN | apply Kd.R_drew)); exact Kd.R_mono HO265.out (fun _ hk => hk.1)⟩, ⟨by repeat (first | (with_reducible first | exact HB.out | apply below_alloc | apply pw_below_drewN | apply below_drew1) | exact HB.out)⟩⟩
                · rw [if_neg c9] at H
                  exact absurd H (by simp)
              case rest =>
                clear HC7
                try clear c1
                try clear c2
                try clear c2b0
                try clear p2
                try clear q2
                try clear hx2
                try clear qi2
                try clear c3
                try clear c3b0
                try clear c3b1
                try clear c4
                try clear c4b0
                try clear c4b1
                try clear c5
                try clear c5b0
                try clear c5b1
                try clear p6
                try clear c9
                try clear c9b0
                try clear c9b1
                try clear c10
                try clear c10b0
                try clear hx266_0
                try clear hx267_0
                try clear p266
                try clear p267
                try clear q266
                try clear q267
                obtain ⟨kq, x45_6, rfl, HA, HJ6, HO_4, HO_6, HB⟩ := hcut
                cases kq with
                | zero => exact absurd HA.out (by simp [privityref48_Decode.j1])
                | succ kj6 =>
                  have H := HA.out
                  clear HA
                  simp only [privityref48_Decode.j1] at H
                  by_cases c13 : x45_6 = true
                  · subst c13
                    have H1 : (some (x4_1, wrap64 ((a0.size : Int) - x5_1))) = some (r1, r2) := by rw [if_pos rfl] at H; exact H
                    clear H
                    have H := H1
                    clear H1
                    simp only [Option.some.injEq, Prod.mk.injEq] at H
                    obtain ⟨rfl, rfl⟩ := H
                    go_wp2
                    repeat (go_quiet (fail); try go_wp2)
                    go_ret2
                    exact ⟨_, by first | rfl | (simp [errW_none, errW_some] <;> rfl) | (simp [*, errW_none, errW_some] <;> rfl), by (with_reducible repeat (first | apply Kd.N_alloc | apply Kd.N_drewN | apply Kd.N_drew)); exact Kd.N_mono HO_4.out (fun _ hk => hk.1), by repeat (first | (with_reducible first | exact HB.out | apply below_alloc | apply pw_below_drewN | apply below_drew1) | exact HB.out)⟩
                  · replace c13 := Bool.eq_false_iff.mpr c13
                    subst c13
                    have H1 : (if 0 < (t262.length : Int) then (if 0 ≤ x5_1 then (if x5_1 ≤ (wrap64 ((wrap64 (x5_1 + 16)) + (wrap64 (8 * (wrap64 (rd t262 0)))))) then (if (wrap64 ((wrap64 (x5_1 + 16)) + (wrap64 (8 * (wrap64 (rd t262 0)))))) ≤ (a0.size : Int) then ((privityref03_DecodeWords.f kj6 (a0.extract (x5_1 : Int).toNat ((wrap64 ((wrap64 (x5_1 + 16)) + (wrap64 (8 * (wrap64 (rd t262 0)))))) : Int).toNat)).bind fun bt269 => (if 1 ≤ (wrap64 ((bt269.1.length : Int) - 1)) then (if (wrap64 ((bt269.1.length : Int) - 1)) ≤ (bt269.1.length : Int) then ((some ((bt269.1.take ((wrap64 ((bt269.1.length : Int) - 1)) : Int).toNat).drop 1 : List Int)).bind fun y273 => ((privityref48_mark.f kj6 y273).bind fun t278 => (if 0 ≤ (wrap64 ((bt269.1.length : Int) - 1)) then (if (wrap64 ((bt269.1.length : Int) - 1)) < (bt269.1.length : Int) then (if t278 = (rd bt269.1 (wrap64 ((bt269.1.length : Int) - 1))) then (if x4_1.length < 5864062014805 then (privityref48_Decode.l0 kj6 a0 (x4_1 ++ [y273]) (wrap64 ((wrap64 (x5_1 + 16)) + (wrap64 (8 * (wrap64 (rd t262 0))))))) else (none)) else (some (x4_1, wrap64 ((a0.size : Int) - x5_1)))) else (none)) else (none)))) else (none)) else (none))) else (none)) else (none)) else (none)) else (none)) = some (r1, r2) := by rw [if_neg (show ¬ (false = true) by decide)] at H; exact H
                    clear H
                    have H := H1
                    clear H1
                    by_cases c14 : 0 < (t262.length : Int)
                    · rw [if_pos c14] at H
                      have c14b0 : decide (0 < (t262.length : Int)) = true := decide_eq_true c14
                      have c14b1 : decide (0 < t262.length) = true := decide_eq_true (by omega)
                      clear c14
                      by_cases c15 : 0 ≤ x5_1
                      · rw [if_pos c15] at H
                        have c15b0 := eq_true c15
                        have c15b1 : decide (0 ≤ x5_1) = true := decide_eq_true c15
                        clear c15
                        by_cases c16 : x5_1 ≤ (wrap64 ((wrap64 (x5_1 + 16)) + (wrap64 (8 * (wrap64 (rd t262 0))))))
                        · rw [if_pos c16] at H
                          have c16b0 := eq_true c16
                          have c16b1 : decide (x5_1 ≤ (wrap64 ((wrap64 (x5_1 + 16)) + (wrap64 (8 * (wrap64 (rd t262 0))))))) = true := decide_eq_true c16
                          by_cases c17 : (wrap64 ((wrap64 (x5_1 + 16)) + (wrap64 (8 * (wrap64 (rd t262 0)))))) ≤ (a0.size : Int)
                          · rw [if_pos c17] at H
                            have c17b0 := eq_true c17
                            have c17b1 : decide ((wrap64 ((wrap64 (x5_1 + 16)) + (wrap64 (8 * (wrap64 (rd t262 0)))))) ≤ (a0.size : Int)) = true := decide_eq_true c17
                            replace H := Option.bind_eq_some_iff.mp H
                            obtain ⟨⟨t269, t270⟩, A180, H⟩ := H
                            replace H : (if 1 ≤ (wrap64 ((t269.length : Int) - 1)) then (if (wrap64 ((t269.length : Int) - 1)) ≤ (t269.length : Int) then ((some ((t269.take ((wrap64 ((t269.length : Int) - 1)) : Int).toNat).drop 1 : List Int)).bind fun y273 => ((privityref48_mark.f kj6 y273).bind fun t278 => (if 0 ≤ (wrap64 ((t269.length : Int) - 1)) then (if (wrap64 ((t269.length : Int) - 1)) < (t269.length : Int) then (if t278 = (rd t269 (wrap64 ((t269.length : Int) - 1))) then (if x4_1.length < 5864062014805 then (privityref48_Decode.l0 kj6 a0 (x4_1 ++ [y273]) (wrap64 ((wrap64 (x5_1 + 16)) + (wrap64 (8 * (wrap64 (rd t262 0))))))) else (none)) else (some (x4_1, wrap64 ((a0.size : Int) - x5_1)))) else (none)) else (none)))) else (none)) else (none)) = some (r1, r2) := H
                            have A18 := Aside0.mk A180
                            clear A180
                            by_cases c19 : 1 ≤ (wrap64 ((t269.length : Int) - 1))
                            · rw [if_pos c19] at H
                              have c19b0 := eq_true c19
                              have c19b1 : decide (1 ≤ (wrap64 ((t269.length : Int) - 1))) = true := decide_eq_true c19
                              clear c19
                              by_cases c20 : (wrap64 ((t269.length : Int) - 1)) ≤ (t269.length : Int)
                              · rw [if_pos c20] at H
                                have c20b0 := eq_true c20
                                have c20b1 : decide ((wrap64 ((t269.length : Int) - 1)) ≤ (t269.length : Int)) = true := decide_eq_true c20
                                clear c20
                                obtain ⟨y273, hy273⟩ : ∃ y_ : List Int, y_ = ((t269.take ((wrap64 ((t269.length : Int) - 1)) : Int).toNat).drop 1) := ⟨_, rfl⟩
                                replace H : ((privityref48_mark.f kj6 y273).bind fun t278 => (if 0 ≤ (wrap64 ((t269.length : Int) - 1)) then (if (wrap64 ((t269.length : Int) - 1)) < (t269.length : Int) then (if t278 = (rd t269 (wrap64 ((t269.length : Int) - 1))) then (if x4_1.length < 5864062014805 then (privityref48_Decode.l0 kj6 a0 (x4_1 ++ [y273]) (wrap64 ((wrap64 (x5_1 + 16)) + (wrap64 (8 * (wrap64 (rd t262 0))))))) else (none)) else (some (x4_1, wrap64 ((a0.size : Int) - x5_1)))) else (none)) else (none))) = some (r1, r2) := by first | (rw [hy273]; with_reducible exact H) | (have H2_ := (Option.bind_some _ _).symm.trans H; rw [hy273]; with_reducible exact H2_) | (have H2_ := (Option.bind_some _ _).symm.trans H; with_reducible exact H2_) | with_reducible exact H | (rw [hy273]; exact H) | exact H
                                have Ny273 := Aside0.mk hy273
                                clear hy273
                                replace H := Option.bind_eq_some_iff.mp H
                                obtain ⟨t278, A210, H⟩ := H
                                replace H : (if 0 ≤ (wrap64 ((t269.length : Int) - 1)) then (if (wrap64 ((t269.length : Int) - 1)) < (t269.length : Int) then (if t278 = (rd t269 (wrap64 ((t269.length : Int) - 1))) then (if x4_1.length < 5864062014805 then (privityref48_Decode.l0 kj6 a0 (x4_1 ++ [y273]) (wrap64 ((wrap64 (x5_1 + 16)) + (wrap64 (8 * (wrap64 (rd t262 0))))))) else (none)) else (some (x4_1, wrap64 ((a0.size : Int) - x5_1)))) else (none)) else (none)) = some (r1, r2) := H
                                have A21 := Aside0.mk A210
                                clear A210
                                obtain ⟨ji22, hji22⟩ : ∃ j_ : Int, (wrap64 ((t269.length : Int) - 1)) = j_ := ⟨_, rfl⟩
                                replace H : (if 0 ≤ (ji22) then (if (ji22) < (t269.length : Int) then (if t278 = (rd t269 (ji22)) then (if x4_1.length < 5864062014805 then (privityref48_Decode.l0 kj6 a0 (x4_1 ++ [y273]) (wrap64 ((wrap64 (x5_1 + 16)) + (wrap64 (8 * (wrap64 (rd t262 0))))))) else (none)) else (some (x4_1, wrap64 ((a0.size : Int) - x5_1)))) else (none)) else (none)) = some (r1, r2) := by first | (rw [hji22] at H; exact H) | (simp only [hji22] at H ⊢; exact H)
                                (try rw [hji22] at c19b0)
                                (try rw [hji22] at c19b1)
                                (try rw [hji22] at c20b0)
                                (try rw [hji22] at c20b1)
                                (try rw [hji22] at A18)
                                (try rw [hji22] at Ny273)
                                (try rw [hji22] at A21)
                                have hji22w : (IntKind.i64.wrap ((t269.length : Int) - 1)) = ji22 := (i64_w _).trans hji22
                                by_cases c23 : 0 ≤ (ji22)
                                · rw [if_pos c23] at H
                                  have c23b0 : decide (0 ≤ (ji22)) = true := decide_eq_true c23
                                  clear c23
                                  by_cases c24 : (ji22) < (t269.length : Int)
                                  · rw [if_pos c24] at H
                                    have c24b0 : decide ((ji22) < (t269.length : Int)) = true := decide_eq_true c24
                                    clear c24
                                    by_cases c25 : t278 = (rd t269 (ji22))
                                    · rw [if_pos c25] at H
                                      have c25b0 : (t278 == (rd t269 (ji22))) = true := beq_iff_eq.mpr c25
                                      have c25b1 : (t278 != (rd t269 (ji22))) = false := bne_eq_false_iff_eq.mpr c25
                                      clear c25
                                      by_cases c26 : x4_1.length < 5864062014805
                                      · rw [if_pos c26] at H
                                        have LMc26 := Aside0.mk c26
                                        clear c26
                                        obtain ⟨y280, hy280⟩ : ∃ y_ : List (List Int), y_ = (x4_1 ++ [y273]) := ⟨_, rfl⟩
                                        replace H : (privityref48_Decode.l0 kj6 a0 y280 (wrap64 ((wrap64 (x5_1 + 16)) + (wrap64 (8 * (wrap64 (rd t262 0))))))) = some (r1, r2) := by first | (rw [hy280]; with_reducible exact H) | (have H2_ := (Option.bind_some _ _).symm.trans H; rw [hy280]; with_reducible exact H2_) | (have H2_ := (Option.bind_some _ _).symm.trans H; with_reducible exact H2_) | with_reducible exact H | (rw [hy280]; exact H) | exact H
                                        have Ny280 := Aside0.mk hy280
                                        clear hy280
                                        have H' := Aside0.mk H
                                        clear H
                                        obtain ⟨Ao27, co27, eo27⟩ := Kd.R_slice HO_6.out
                                        subst eo27
                                        have p268 : 0 ≤ (0 : Int) := (by omega)
                                        have q268 : 0 < (t262.length : Int) := of_decide_eq_true (by first | (with_reducible assumption) | assumption)
                                        obtain ⟨ad268, e268, hx268_0⟩ := Kd.at_int (Kd.R_reads' HO_6.out).2.2 0 p268 q268
                                        cases e268
                                        have qi268 : (0 < t262.length) = True := eq_true (by omega)
                                        (try rw [show ((0 : Int)).toNat = 0 from rfl] at hx268_0)
                                        (try rw [Addr.add_zero'] at hx268_0)
                                        replace p268 := eq_true p268
                                        replace q268 := eq_true q268
                                        go_wp2_with (first | (go_at_call 22; (with_reducible refine (privityref03_DecodeWords.calls kj6 (a0.extract (x5_1 : Int).toNat ((wrap64 ((wrap64 (x5_1 + 16)) + (wrap64 (8 * (wrap64 (rd t262 0)))))) : Int).toNat) t269 t270 _ A18.out).mono ?_); rintro e w28 ⟨v271, rfl, ho0, hb⟩; have n0_ := Aside0.mk (Kd.N_elder' (by (with_reducible repeat (first | apply Kd.N_alloc | apply Kd.N_drewN | apply Kd.N_drew)); exact HO_4.out) (Kd.R_base ho0) hb); have n1_ := Aside0.mk (Kd.R_elder' (by (with_reducible repeat (first | apply Kd.R_alloc | apply Kd.R_drewN | apply Kd.R_drew)); exact HO_6.out) (Kd.R_base ho0) hb); have n2_ := Aside0.mk (Kd.R_lower (Kd.R_new' (Kd.R_newM (M := fun k_ => (w.heap.size ≤ k_)) ho0 (below_size (by repeat (first | (with_reducible first | exact HB.out | apply below_alloc | apply pw_below_drewN | apply below_drew1) | exact HB.out))) (fun k_ h_ => h_)) (Kd.R_lt (by (with_reducible repeat (first | apply Kd.R_alloc | apply Kd.R_drewN | apply Kd.R_drew)); exact HO_6.out))) (below_size (by repeat (first | (with_reducible first | exact HB.out | apply below_alloc | apply pw_below_drewN | apply below_drew1) | exact HB.out)))); have n3_ := Aside0.mk (below_step (by repeat (first | (with_reducible first | exact HB.out | apply below_alloc | apply pw_below_drewN | apply below_drew1) | exact HB.out)) hb); clear HO_4; clear HO_6; clear HB; have HO_4 := n0_; have HO_6 := n1_; have HO272 := n2_; have HB := n3_; clear n0_ n1_ n2_ n3_; (try clear hb); (try clear hb2); (try clear hk); (try clear hi); (try clear ho0); obtain ⟨Ao29, co29, eo29⟩ := Kd.R_slice HO272.out; subst eo29; have q30 : ((ji22) : Int) ≤ ((t269.length : Int) : Int) := of_decide_eq_true (by first | (with_reducible assumption) | assumption); obtain ⟨i030, hi030, _, hsz30, _⟩ := info_parts info39; have hroom30 : t269.length ≤ co29 := (Kd.R_reads' HO272.out).2.1; have hC30 : Kd.F (Kd.int .u64) _ _ Ao29 t269.length t269 := (Kd.V_at (base := w.heap.size) (Kd.R_V (Kd.R_apart' (HO272.out) (Kd.N_typed HO_4.out) (by decide)))).2.2; have ql30 : (1 : Int) ≤ ((ji22) : Int) := of_decide_eq_true (by first | (with_reducible assumption) | assumption); have hcut30 := cut_mid (P := Try.prog) 27 39 .i64 .i64 Try.underlying27 hi030 1 hsz30 Ao29 t269.length co29 1 (ji22) (by omega) ql30 q30 hroom30; have hr30 := Kd.F_mid (lo := (1 : Int).toNat) (hi := ((ji22) : Int).toNat) (c := co29) hC30 (by omega) (by omega) hroom30; obtain ⟨A30, hA30⟩ : ∃ A1, A1 = (if co29 = (1 : Int).toNat then Ao29 else (Ao29 : Option Addr).map (·.add ((1 : Int).toNat * 1))) := ⟨_, rfl⟩; obtain ⟨c30, hc30⟩ : ∃ c1, c1 = co29 - (1 : Int).toNat := ⟨_, rfl⟩; have hy30 : y273.length = ((ji22) : Int).toNat - (1 : Int).toNat := (by rw [Ny273.out, List.length_drop, List.length_take] <;> omega); rw [show ((t269).take ((ji22) : Int).toNat).drop (1 : Int).toNat = y273 from Ny273.out.symm] at hr30; replace hr30 : Kd.F (Kd.int .u64) _ _ A30 y273.length y273 := (by rw [hA30]; exact hr30); rw [← hy30, ← hA30, ← hc30] at hcut30; have HO277 := Aside0.mk (show Kd.V (Kd.int .u64) 39 _ w.heap.size _ (.slice A30 y273.length c30) y273 from Kd.V_mk (by rw [hy30, hc30]; exact Nat.sub_le_sub_right (Nat.le_trans (by omega) hroom30) _) hr30); have HC277 := Aside0.mk (show y273.length ≤ c30 from by rw [hy30, hc30]; exact Nat.sub_le_sub_right (Nat.le_trans (by omega) hroom30) _); clear hr30 hC30 hroom30 hi030 hsz30 hc30; have KY30 := Aside0.mk hy30; have KA30 := Aside0.mk hA30; clear hy30 hA30; replace q30 := eq_true q30) | (go_at_call 23; (with_reducible refine (privityref48_mark.calls kj6 _ _ y273 t278 _ ?side1 ?side2 A21.out).mono ?_); (case side1 => repeat (first | exact (Kd.V_reads' HO277.out).2.2 | (with_reducible refine Kd.C_alloc ?_ _) | (with_reducible refine Kd.C_drewN ?_ _) | (with_reducible refine Kd.C_drew ?_))); (case side2 => exact (Kd.V_reads' HO277.out).2.1); rintro e w' ⟨rfl, ⟨nd, rfl⟩⟩; (try first | exact ⟨rfl, _, World.drewN_drewN _ _ _⟩ | exact ⟨rfl, _, Eq.trans (World.drewN_drewN _ _ _) (congrArg (World.drewN _) (Nat.add_assoc _ _ _))⟩); have p279 : 0 ≤ ((ji22) : Int) := of_decide_eq_true (by first | (with_reducible assumption) | assumption); have q279 : (ji22) < (t269.length : Int) := of_decide_eq_true (by first | (with_reducible assumption) | assumption); obtain ⟨ad279, e279, hx279_0⟩ := Kd.at_int (Kd.R_reads' HO272.out).2.2 (ji22) p279 q279; cases e279; replace p279 := eq_true p279; replace q279 := eq_true q279) | ((with_reducible refine gate_builtin (b := .append) (xs := #[.tmp 76, .tmp 78]) rfl ?_); (try (refine gate_guard (by rfl) ?_; dsimp only)); at_builtin; refine Kd.N_append (Kd.slice 39 (Kd.int .u64)) (w0 := w) w.heap.size rfl (.tmp 76) (.tmp 78) 22 27 (.slice none 0 0) 24 rfl Try.underlying22 info27 rfl (by decide) (by omega) u4 x4_1 y273 [.slice A30 y273.length c30] (fun k_ => (w.heap.size ≤ k_) ∧ some k_ ≠ (.slice (some ad268) t262.length co27 : Value).ownBlock) (fun k_ => ((fun k_ => (w.heap.size ≤ k_) ∧ some k_ ≠ (.slice (some ad268) t262.length co27 : Value).ownBlock)) k_ ∧ some k_ ≠ (u4 : Value).ownBlock) rfl rfl ?aP (fun _ hk => hk) ?aF ?aO ?aB ?aS ?aL ?_; (case aP => exact (Kd.FK_slice_mk (Kd.V_reads' (Kd.V_mono (ok' := (fun k_ => ((fun k_ => (w.heap.size ≤ k_) ∧ some k_ ≠ (.slice (some ad268) t262.length co27 : Value).ownBlock)) k_ ∧ some k_ ≠ (u4 : Value).ownBlock)) (HO277.out) (fun k_ hk => ⟨⟨hk.1.1.1, hk.1.2⟩, hk.2⟩))).2.1 (Kd.V_F (Kd.V_mono (ok' := (fun k_ => ((fun k_ => (w.heap.size ≤ k_) ∧ some k_ ≠ (.slice (some ad268) t262.length co27 : Value).ownBlock)) k_ ∧ some k_ ≠ (u4 : Value).ownBlock)) (by (with_reducible repeat (first | apply Kd.V_alloc | apply Kd.V_drewN | apply Kd.V_drew)); exact HO277.out) (fun k_ hk => by exact ⟨⟨hk.1.1.1, hk.1.2⟩, hk.2⟩))))); (case aB => exact (by repeat (first | (with_reducible first | exact HB.out | apply below_alloc | apply pw_below_drewN | apply below_drew1) | exact HB.out))); (case aF => exact (fun k_ hk => ⟨(Nat.le_trans (below_size (by repeat (first | (with_reducible first | exact HB.out | apply below_alloc | apply pw_below_drewN | apply below_drew1) | exact HB.out))) hk), Kd.fresh' (Kd.R_lt (by (with_reducible repeat (first | apply Kd.R_alloc | apply Kd.R_drewN | apply Kd.R_drew)); exact HO_6.out)) k_ hk⟩)); (case aO => exact (by (with_reducible repeat (first | apply Kd.N_alloc | apply Kd.N_drewN | apply Kd.N_drew)); exact Kd.N_mono HO_4.out (fun _ hk => ⟨hk.1.1, hk.1.2⟩))); (case aS => exact (below_size (by repeat (first | (with_reducible first | exact HB.out | apply below_alloc | apply pw_below_drewN | apply below_drew1) | exact HB.out)))); (case aL => have := LMc26.out; omega); intro v281 w31 ho hb hg hat; rw [← Ny280.out] at ho; have n0_ := Aside0.mk (Kd.R_over' (by (with_reducible repeat (first | apply Kd.R_alloc | apply Kd.R_drewN | apply Kd.R_drew)); exact HO_6.out) (Kd.N_typed (by (with_reducible repeat (first | apply Kd.N_alloc | apply Kd.N_drewN | apply Kd.N_drew)); exact HO_4.out)) (by decide) hg); have n1_ := Aside0.mk (Kd.R_over' (by (with_reducible repeat (first | apply Kd.R_alloc | apply Kd.R_drewN | apply Kd.R_drew)); exact HO272.out) (Kd.N_typed (by (with_reducible repeat (first | apply Kd.N_alloc | apply Kd.N_drewN | apply Kd.N_drew)); exact HO_4.out)) (by decide) hg); have n2_ := Aside0.mk (Kd.V_afterv (ok := (fun k_ => (w.heap.size ≤ k_) ∧ some k_ ≠ (.slice (some ad268) t262.length co27 : Value).ownBlock)) (by (with_reducible repeat (first | apply Kd.V_alloc | apply Kd.V_drewN | apply Kd.V_drew)); exact Kd.V_mono HO277.out (fun _ hk => ⟨⟨hk.1.1.1, hk.1.2⟩, hk.2⟩)) hg hat); have n3_ := Aside0.mk (hb); have n4_ := Aside0.mk (ho); clear HO_6; clear HO272; clear HO277; clear HB; clear HO_4; have HO_6 := n0_; have HO272 := n1_; have HO277 := n2_; have HB := n3_; have HO282 := n4_; clear n0_ n1_ n2_ n3_ n4_; clear ho hb hg hat))
                                        repeat (go_quiet (first | (go_at_call 22; (with_reducible refine (privityref03_DecodeWords.calls kj6 (a0.extract (x5_1 : Int).toNat ((wrap64 ((wrap64 (x5_1 + 16)) + (wrap64 (8 * (wrap64 (rd t262 0)))))) : Int).toNat) t269 t270 _ A18.out).mono ?_); rintro e w28 ⟨v271, rfl, ho0, hb⟩; have n0_ := Aside0.mk (Kd.N_elder' (by (with_reducible repeat (first | apply Kd.N_alloc | apply Kd.N_drewN | apply Kd.N_drew)); exact HO_4.out) (Kd.R_base ho0) hb); have n1_ := Aside0.mk (Kd.R_elder' (by (with_reducible repeat (first | apply Kd.R_alloc | apply Kd.R_drewN | apply Kd.R_drew)); exact HO_6.out) (Kd.R_base ho0) hb); have n2_ := Aside0.mk (Kd.R_lower (Kd.R_new' (Kd.R_newM (M := fun k_ => (w.heap.size ≤ k_)) ho0 (below_size (by repeat (first | (with_reducible first | exact HB.out | apply below_alloc | apply pw_below_drewN | apply below_drew1) | exact HB.out))) (fun k_ h_ => h_)) (Kd.R_lt (by (with_reducible repeat (first | apply Kd.R_alloc | apply Kd.R_drewN | apply Kd.R_drew)); exact HO_6.out))) (below_size (by repeat (first | (with_reducible first | exact HB.out | apply below_alloc | apply pw_below_drewN | apply below_drew1) | exact HB.out)))); have n3_ := Aside0.mk (below_step (by repeat (first | (with_reducible first | exact HB.out | apply below_alloc | apply pw_below_drewN | apply below_drew1) | exact HB.out)) hb); clear HO_4; clear HO_6; clear HB; have HO_4 := n0_; have HO_6 := n1_; have HO272 := n2_; have HB := n3_; clear n0_ n1_ n2_ n3_; (try clear hb); (try clear hb2); (try clear hk); (try clear hi); (try clear ho0); obtain ⟨Ao29, co29, eo29⟩ := Kd.R_slice HO272.out; subst eo29; have q30 : ((ji22) : Int) ≤ ((t269.length : Int) : Int) := of_decide_eq_true (by first | (with_reducible assumption) | assumption); obtain ⟨i030, hi030, _, hsz30, _⟩ := info_parts info39; have hroom30 : t269.length ≤ co29 := (Kd.R_reads' HO272.out).2.1; have hC30 : Kd.F (Kd.int .u64) _ _ Ao29 t269.length t269 := (Kd.V_at (base := w.heap.size) (Kd.R_V (Kd.R_apart' (HO272.out) (Kd.N_typed HO_4.out) (by decide)))).2.2; have ql30 : (1 : Int) ≤ ((ji22) : Int) := of_decide_eq_true (by first | (with_reducible assumption) | assumption); have hcut30 := cut_mid (P := Try.prog) 27 39 .i64 .i64 Try.underlying27 hi030 1 hsz30 Ao29 t269.length co29 1 (ji22) (by omega) ql30 q30 hroom30; have hr30 := Kd.F_mid (lo := (1 : Int).toNat) (hi := ((ji22) : Int).toNat) (c := co29) hC30 (by omega) (by omega) hroom30; obtain ⟨A30, hA30⟩ : ∃ A1, A1 = (if co29 = (1 : Int).toNat then Ao29 else (Ao29 : Option Addr).map (·.add ((1 : Int).toNat * 1))) := ⟨_, rfl⟩; obtain ⟨c30, hc30⟩ : ∃ c1, c1 = co29 - (1 : Int).toNat := ⟨_, rfl⟩; have hy30 : y273.length = ((ji22) : Int).toNat - (1 : Int).toNat := (by rw [Ny273.out, List.length_drop, List.length_take] <;> omega); rw [show ((t269).take ((ji22) : Int).toNat).drop (1 : Int).toNat = y273 from Ny273.out.symm] at hr30; replace hr30 : Kd.F (Kd.int .u64) _ _ A30 y273.length y273 := (by rw [hA30]; exact hr30); rw [← hy30, ← hA30, ← hc30] at hcut30; have HO277 := Aside0.mk (show Kd.V (Kd.int .u64) 39 _ w.heap.size _ (.slice A30 y273.length c30) y273 from Kd.V_mk (by rw [hy30, hc30]; exact Nat.sub_le_sub_right (Nat.le_trans (by omega) hroom30) _) hr30); have HC277 := Aside0.mk (show y273.length ≤ c30 from by rw [hy30, hc30]; exact Nat.sub_le_sub_right (Nat.le_trans (by omega) hroom30) _); clear hr30 hC30 hroom30 hi030 hsz30 hc30; have KY30 := Aside0.mk hy30; have KA30 := Aside0.mk hA30; clear hy30 hA30; replace q30 := eq_true q30) | (go_at_call 23; (with_reducible refine (privityref48_mark.calls kj6 _ _ y273 t278 _ ?side1 ?side2 A21.out).mono ?_); (case side1 => repeat (first | exact (Kd.V_reads' HO277.out).2.2 | (with_reducible refine Kd.C_alloc ?_ _) | (with_reducible refine Kd.C_drewN ?_ _) | (with_reducible refine Kd.C_drew ?_))); (case side2 => exact (Kd.V_reads' HO277.out).2.1); rintro e w' ⟨rfl, ⟨nd, rfl⟩⟩; (try first | exact ⟨rfl, _, World.drewN_drewN _ _ _⟩ | exact ⟨rfl, _, Eq.trans (World.drewN_drewN _ _ _) (congrArg (World.drewN _) (Nat.add_assoc _ _ _))⟩); have p279 : 0 ≤ ((ji22) : Int) := of_decide_eq_true (by first | (with_reducible assumption) | assumption); have q279 : (ji22) < (t269.length : Int) := of_decide_eq_true (by first | (with_reducible assumption) | assumption); obtain ⟨ad279, e279, hx279_0⟩ := Kd.at_int (Kd.R_reads' HO272.out).2.2 (ji22) p279 q279; cases e279; replace p279 := eq_true p279; replace q279 := eq_true q279) | ((with_reducible refine gate_builtin (b := .append) (xs := #[.tmp 76, .tmp 78]) rfl ?_); (try (refine gate_guard (by rfl) ?_; dsimp only)); at_builtin; refine Kd.N_append (Kd.slice 39 (Kd.int .u64)) (w0 := w) w.heap.size rfl (.tmp 76) (.tmp 78) 22 27 (.slice none 0 0) 24 rfl Try.underlying22 info27 rfl (by decide) (by omega) u4 x4_1 y273 [.slice A30 y273.length c30] (fun k_ => (w.heap.size ≤ k_) ∧ some k_ ≠ (.slice (some ad268) t262.length co27 : Value).ownBlock) (fun k_ => ((fun k_ => (w.heap.size ≤ k_) ∧ some k_ ≠ (.slice (some ad268) t262.length co27 : Value).ownBlock)) k_ ∧ some k_ ≠ (u4 : Value).ownBlock) rfl rfl ?aP (fun _ hk => hk) ?aF ?aO ?aB ?aS ?aL ?_; (case aP => exact (Kd.FK_slice_mk (Kd.V_reads' (Kd.V_mono (ok' := (fun k_ => ((fun k_ => (w.heap.size ≤ k_) ∧ some k_ ≠ (.slice (some ad268) t262.length co27 : Value).ownBlock)) k_ ∧ some k_ ≠ (u4 : Value).ownBlock)) (HO277.out) (fun k_ hk => ⟨⟨hk.1.1.1, hk.1.2⟩, hk.2⟩))).2.1 (Kd.V_F (Kd.V_mono (ok' := (fun k_ => ((fun k_ => (w.heap.size ≤ k_) ∧ some k_ ≠ (.slice (some ad268) t262.length co27 : Value).ownBlock)) k_ ∧ some k_ ≠ (u4 : Value).ownBlock)) (by (with_reducible repeat (first | apply Kd.V_alloc | apply Kd.V_drewN | apply Kd.V_drew)); exact HO277.out) (fun k_ hk => by exact ⟨⟨hk.1.1.1, hk.1.2⟩, hk.2⟩))))); (case aB => exact (by repeat (first | (with_reducible first | exact HB.out | apply below_alloc | apply pw_below_drewN | apply below_drew1) | exact HB.out))); (case aF => exact (fun k_ hk => ⟨(Nat.le_trans (below_size (by repeat (first | (with_reducible first | exact HB.out | apply below_alloc | apply pw_below_drewN | apply below_drew1) | exact HB.out))) hk), Kd.fresh' (Kd.R_lt (by (with_reducible repeat (first | apply Kd.R_alloc | apply Kd.R_drewN | apply Kd.R_drew)); exact HO_6.out)) k_ hk⟩)); (case aO => exact (by (with_reducible repeat (first | apply Kd.N_alloc | apply Kd.N_drewN | apply Kd.N_drew)); exact Kd.N_mono HO_4.out (fun _ hk => ⟨hk.1.1, hk.1.2⟩))); (case aS => exact (below_size (by repeat (first | (with_reducible first | exact HB.out | apply below_alloc | apply pw_below_drewN | apply below_drew1) | exact HB.out)))); (case aL => have := LMc26.out; omega); intro v281 w31 ho hb hg hat; rw [← Ny280.out] at ho; have n0_ := Aside0.mk (Kd.R_over' (by (with_reducible repeat (first | apply Kd.R_alloc | apply Kd.R_drewN | apply Kd.R_drew)); exact HO_6.out) (Kd.N_typed (by (with_reducible repeat (first | apply Kd.N_alloc | apply Kd.N_drewN | apply Kd.N_drew)); exact HO_4.out)) (by decide) hg); have n1_ := Aside0.mk (Kd.R_over' (by (with_reducible repeat (first | apply Kd.R_alloc | apply Kd.R_drewN | apply Kd.R_drew)); exact HO272.out) (Kd.N_typed (by (with_reducible repeat (first | apply Kd.N_alloc | apply Kd.N_drewN | apply Kd.N_drew)); exact HO_4.out)) (by decide) hg); have n2_ := Aside0.mk (Kd.V_afterv (ok := (fun k_ => (w.heap.size ≤ k_) ∧ some k_ ≠ (.slice (some ad268) t262.length co27 : Value).ownBlock)) (by (with_reducible repeat (first | apply Kd.V_alloc | apply Kd.V_drewN | apply Kd.V_drew)); exact Kd.V_mono HO277.out (fun _ hk => ⟨⟨hk.1.1.1, hk.1.2⟩, hk.2⟩)) hg hat); have n3_ := Aside0.mk (hb); have n4_ := Aside0.mk (ho); clear HO_6; clear HO272; clear HO277; clear HB; clear HO_4; have HO_6 := n0_; have HO272 := n1_; have HO277 := n2_; have HB := n3_; have HO282 := n4_; clear n0_ n1_ n2_ n3_ n4_; clear ho hb hg hat)); try go_wp2_with (first | (go_at_call 22; (with_reducible refine (privityref03_DecodeWords.calls kj6 (a0.extract (x5_1 : Int).toNat ((wrap64 ((wrap64 (x5_1 + 16)) + (wrap64 (8 * (wrap64 (rd t262 0)))))) : Int).toNat) t269 t270 _ A18.out).mono ?_); rintro e w28 ⟨v271, rfl, ho0, hb⟩; have n0_ := Aside0.mk (Kd.N_elder' (by (with_reducible repeat (first | apply Kd.N_alloc | apply Kd.N_drewN | apply Kd.N_drew)); exact HO_4.out) (Kd.R_base ho0) hb); have n1_ := Aside0.mk (Kd.R_elder' (by (with_reducible repeat (first | apply Kd.R_alloc | apply Kd.R_drewN | apply Kd.R_drew)); exact HO_6.out) (Kd.R_base ho0) hb); have n2_ := Aside0.mk (Kd.R_lower (Kd.R_new' (Kd.R_newM (M := fun k_ => (w.heap.size ≤ k_)) ho0 (below_size (by repeat (first | (with_reducible first | exact HB.out | apply below_alloc | apply pw_below_drewN | apply below_drew1) | exact HB.out))) (fun k_ h_ => h_)) (Kd.R_lt (by (with_reducible repeat (first | apply Kd.R_alloc | apply Kd.R_drewN | apply Kd.R_drew)); exact HO_6.out))) (below_size (by repeat (first | (with_reducible first | exact HB.out | apply below_alloc | apply pw_below_drewN | apply below_drew1) | exact HB.out)))); have n3_ := Aside0.mk (below_step (by repeat (first | (with_reducible first | exact HB.out | apply below_alloc | apply pw_below_drewN | apply below_drew1) | exact HB.out)) hb); clear HO_4; clear HO_6; clear HB; have HO_4 := n0_; have HO_6 := n1_; have HO272 := n2_; have HB := n3_; clear n0_ n1_ n2_ n3_; (try clear hb); (try clear hb2); (try clear hk); (try clear hi); (try clear ho0); obtain ⟨Ao29, co29, eo29⟩ := Kd.R_slice HO272.out; subst eo29; have q30 : ((ji22) : Int) ≤ ((t269.length : Int) : Int) := of_decide_eq_true (by first | (with_reducible assumption) | assumption); obtain ⟨i030, hi030, _, hsz30, _⟩ := info_parts info39; have hroom30 : t269.length ≤ co29 := (Kd.R_reads' HO272.out).2.1; have hC30 : Kd.F (Kd.int .u64) _ _ Ao29 t269.length t269 := (Kd.V_at (base := w.heap.size) (Kd.R_V (Kd.R_apart' (HO272.out) (Kd.N_typed HO_4.out) (by decide)))).2.2; have ql30 : (1 : Int) ≤ ((ji22) : Int) := of_decide_eq_true (by first | (with_reducible assumption) | assumption); have hcut30 := cut_mid (P := Try.prog) 27 39 .i64 .i64 Try.underlying27 hi030 1 hsz30 Ao29 t269.length co29 1 (ji22) (by omega) ql30 q30 hroom30; have hr30 := Kd.F_mid (lo := (1 : Int).toNat) (hi := ((ji22) : Int).toNat) (c := co29) hC30 (by omega) (by omega) hroom30; obtain ⟨A30, hA30⟩ : ∃ A1, A1 = (if co29 = (1 : Int).toNat then Ao29 else (Ao29 : Option Addr).map (·.add ((1 : Int).toNat * 1))) := ⟨_, rfl⟩; obtain ⟨c30, hc30⟩ : ∃ c1, c1 = co29 - (1 : Int).toNat := ⟨_, rfl⟩; have hy30 : y273.length = ((ji22) : Int).toNat - (1 : Int).toNat := (by rw [Ny273.out, List.length_drop, List.length_take] <;> omega); rw [show ((t269).take ((ji22) : Int).toNat).drop (1 : Int).toNat = y273 from Ny273.out.symm] at hr30; replace hr30 : Kd.F (Kd.int .u64) _ _ A30 y273.length y273 := (by rw [hA30]; exact hr30); rw [← hy30, ← hA30, ← hc30] at hcut30; have HO277 := Aside0.mk (show Kd.V (Kd.int .u64) 39 _ w.heap.size _ (.slice A30 y273.length c30) y273 from Kd.V_mk (by rw [hy30, hc30]; exact Nat.sub_le_sub_right (Nat.le_trans (by omega) hroom30) _) hr30); have HC277 := Aside0.mk (show y273.length ≤ c30 from by rw [hy30, hc30]; exact Nat.sub_le_sub_right (Nat.le_trans (by omega) hroom30) _); clear hr30 hC30 hroom30 hi030 hsz30 hc30; have KY30 := Aside0.mk hy30; have KA30 := Aside0.mk hA30; clear hy30 hA30; replace q30 := eq_true q30) | (go_at_call 23; (with_reducible refine (privityref48_mark.calls kj6 _ _ y273 t278 _ ?side1 ?side2 A21.out).mono ?_); (case side1 => repeat (first | exact (Kd.V_reads' HO277.out).2.2 | (with_reducible refine Kd.C_alloc ?_ _) | (with_reducible refine Kd.C_drewN ?_ _) | (with_reducible refine Kd.C_drew ?_))); (case side2 => exact (Kd.V_reads' HO277.out).2.1); rintro e w' ⟨rfl, ⟨nd, rfl⟩⟩; (try first | exact ⟨rfl, _, World.drewN_drewN _ _ _⟩ | exact ⟨rfl, _, Eq.trans (World.drewN_drewN _ _ _) (congrArg (World.drewN _) (Nat.add_assoc _ _ _))⟩); have p279 : 0 ≤ ((ji22) : Int) := of_decide_eq_true (by first | (with_reducible assumption) | assumption); have q279 : (ji22) < (t269.length : Int) := of_decide_eq_true (by first | (with_reducible assumption) | assumption); obtain ⟨ad279, e279, hx279_0⟩ := Kd.at_int (Kd.R_reads' HO272.out).2.2 (ji22) p279 q279; cases e279; replace p279 := eq_true p279; replace q279 := eq_true q279) | ((with_reducible refine gate_builtin (b := .append) (xs := #[.tmp 76, .tmp 78]) rfl ?_); (try (refine gate_guard (by rfl) ?_; dsimp only)); at_builtin; refine Kd.N_append (Kd.slice 39 (Kd.int .u64)) (w0 := w) w.heap.size rfl (.tmp 76) (.tmp 78) 22 27 (.slice none 0 0) 24 rfl Try.underlying22 info27 rfl (by decide) (by omega) u4 x4_1 y273 [.slice A30 y273.length c30] (fun k_ => (w.heap.size ≤ k_) ∧ some k_ ≠ (.slice (some ad268) t262.length co27 : Value).ownBlock) (fun k_ => ((fun k_ => (w.heap.size ≤ k_) ∧ some k_ ≠ (.slice (some ad268) t262.length co27 : Value).ownBlock)) k_ ∧ some k_ ≠ (u4 : Value).ownBlock) rfl rfl ?aP (fun _ hk => hk) ?aF ?aO ?aB ?aS ?aL ?_; (case aP => exact (Kd.FK_slice_mk (Kd.V_reads' (Kd.V_mono (ok' := (fun k_ => ((fun k_ => (w.heap.size ≤ k_) ∧ some k_ ≠ (.slice (some ad268) t262.length co27 : Value).ownBlock)) k_ ∧ some k_ ≠ (u4 : Value).ownBlock)) (HO277.out) (fun k_ hk => ⟨⟨hk.1.1.1, hk.1.2⟩, hk.2⟩))).2.1 (Kd.V_F (Kd.V_mono (ok' := (fun k_ => ((fun k_ => (w.heap.size ≤ k_) ∧ some k_ ≠ (.slice (some ad268) t262.length co27 : Value).ownBlock)) k_ ∧ some k_ ≠ (u4 : Value).ownBlock)) (by (with_reducible repeat (first | apply Kd.V_alloc | apply Kd.V_drewN | apply Kd.V_drew)); exact HO277.out) (fun k_ hk => by exact ⟨⟨hk.1.1.1, hk.1.2⟩, hk.2⟩))))); (case aB => exact (by repeat (first | (with_reducible first | exact HB.out | apply below_alloc | apply pw_below_drewN | apply below_drew1) | exact HB.out))); (case aF => exact (fun k_ hk => ⟨(Nat.le_trans (below_size (by repeat (first | (with_reducible first | exact HB.out | apply below_alloc | apply pw_below_drewN | apply below_drew1) | exact HB.out))) hk), Kd.fresh' (Kd.R_lt (by (with_reducible repeat (first | apply Kd.R_alloc | apply Kd.R_drewN | apply Kd.R_drew)); exact HO_6.out)) k_ hk⟩)); (case aO => exact (by (with_reducible repeat (first | apply Kd.N_alloc | apply Kd.N_drewN | apply Kd.N_drew)); exact Kd.N_mono HO_4.out (fun _ hk => ⟨hk.1.1, hk.1.2⟩))); (case aS => exact (below_size (by repeat (first | (with_reducible first | exact HB.out | apply below_alloc | apply pw_below_drewN | apply below_drew1) | exact HB.out)))); (case aL => have := LMc26.out; omega); intro v281 w31 ho hb hg hat; rw [← Ny280.out] at ho; have n0_ := Aside0.mk (Kd.R_over' (by (with_reducible repeat (first | apply Kd.R_alloc | apply Kd.R_drewN | apply Kd.R_drew)); exact HO_6.out) (Kd.N_typed (by (with_reducible repeat (first | apply Kd.N_alloc | apply Kd.N_drewN | apply Kd.N_drew)); exact HO_4.out)) (by decide) hg); have n1_ := Aside0.mk (Kd.R_over' (by (with_reducible repeat (first | apply Kd.R_alloc | apply Kd.R_drewN | apply Kd.R_drew)); exact HO272.out) (Kd.N_typed (by (with_reducible repeat (first | apply Kd.N_alloc | apply Kd.N_drewN | apply Kd.N_drew)); exact HO_4.out)) (by decide) hg); have n2_ := Aside0.mk (Kd.V_afterv (ok := (fun k_ => (w.heap.size ≤ k_) ∧ some k_ ≠ (.slice (some ad268) t262.length co27 : Value).ownBlock)) (by (with_reducible repeat (first | apply Kd.V_alloc | apply Kd.V_drewN | apply Kd.V_drew)); exact Kd.V_mono HO277.out (fun _ hk => ⟨⟨hk.1.1.1, hk.1.2⟩, hk.2⟩)) hg hat); have n3_ := Aside0.mk (hb); have n4_ := Aside0.mk (ho); clear HO_6; clear HO272; clear HO277; clear HB; clear HO_4; have HO_6 := n0_; have HO272 := n1_; have HO277 := n2_; have HB := n3_; have HO282 := n4_; clear n0_ n1_ n2_ n3_ n4_; clear ho hb hg hat)))
                                        go_roundg kj6
                                        case measure => have := HK1.out; have := HJ6.out; omega
                                        case rel => exact ⟨(y280), (wrap64 ((wrap64 (x5_1 + 16)) + (wrap64 (8 * (wrap64 (rd t262 0)))))), (by first | rfl | (simp; done) | (simp [*]; done)), H', ⟨by have := HK1.out; have := HJ6.out; omega⟩, ⟨by (with_reducible repeat (first | apply Kd.N_alloc | apply Kd.N_drewN | apply Kd.N_drew)); exact Kd.N_mono HO282.out (fun _ hk => hk.1)⟩, ⟨by repeat (first | (with_reducible first | exact HB.out | apply below_alloc | apply pw_below_drewN | apply below_drew1) | exact HB.out)⟩⟩
                                      · rw [if_neg c26] at H
                                        exact absurd H (by simp)
                                    · rw [if_neg c25] at H
                                      have c25b0 : (t278 == (rd t269 (ji22))) = false := beq_eq_false_iff_ne.mpr c25
                                      have c25b1 : (t278 != (rd t269 (ji22))) = true := bne_iff_ne.mpr c25
                                      simp only [Option.some.injEq, Prod.mk.injEq] at H
                                      obtain ⟨rfl, rfl⟩ := H
                                      obtain ⟨Ao32, co32, eo32⟩ := Kd.R_slice HO_6.out
                                      subst eo32
                                      have p268 : 0 ≤ (0 : Int) := (by omega)
                                      have q268 : 0 < (t262.length : Int) := of_decide_eq_true (by first | (with_reducible assumption) | assumption)
                                      obtain ⟨ad268, e268, hx268_0⟩ := Kd.at_int (Kd.R_reads' HO_6.out).2.2 0 p268 q268
                                      cases e268
                                      have qi268 : (0 < t262.length) = True := eq_true (by omega)
                                      (try rw [show ((0 : Int)).toNat = 0 from rfl] at hx268_0)
                                      (try rw [Addr.add_zero'] at hx268_0)
                                      replace p268 := eq_true p268
                                      replace q268 := eq_true q268
                                      go_wp2_with (first | (go_at_call 22; (with_reducible refine (privityref03_DecodeWords.calls kj6 (a0.extract (x5_1 : Int).toNat ((wrap64 ((wrap64 (x5_1 + 16)) + (wrap64 (8 * (wrap64 (rd t262 0)))))) : Int).toNat) t269 t270 _ A18.out).mono ?_); rintro e w33 ⟨v271, rfl, ho0, hb⟩; have n0_ := Aside0.mk (Kd.N_elder' (by (with_reducible repeat (first | apply Kd.N_alloc | apply Kd.N_drewN | apply Kd.N_drew)); exact HO_4.out) (Kd.R_base ho0) hb); have n1_ := Aside0.mk (Kd.R_elder' (by (with_reducible repeat (first | apply Kd.R_alloc | apply Kd.R_drewN | apply Kd.R_drew)); exact HO_6.out) (Kd.R_base ho0) hb); have n2_ := Aside0.mk (Kd.R_lower (Kd.R_new' (Kd.R_newM (M := fun k_ => (w.heap.size ≤ k_)) ho0 (below_size (by repeat (first | (with_reducible first | exact HB.out | apply below_alloc | apply pw_below_drewN | apply below_drew1) | exact HB.out))) (fun k_ h_ => h_)) (Kd.R_lt (by (with_reducible repeat (first | apply Kd.R_alloc | apply Kd.R_drewN | apply Kd.R_drew)); exact HO_6.out))) (below_size (by repeat (first | (with_reducible first | exact HB.out | apply below_alloc | apply pw_below_drewN | apply below_drew1) | exact HB.out)))); have n3_ := Aside0.mk (below_step (by repeat (first | (with_reducible first | exact HB.out | apply below_alloc | apply pw_below_drewN | apply below_drew1) | exact HB.out)) hb); clear HO_4; clear HO_6; clear HB; have HO_4 := n0_; have HO_6 := n1_; have HO272 := n2_; have HB := n3_; clear n0_ n1_ n2_ n3_; (try clear hb); (try clear hb2); (try clear hk); (try clear hi); (try clear ho0); obtain ⟨Ao34, co34, eo34⟩ := Kd.R_slice HO272.out; subst eo34; have q35 : ((ji22) : Int) ≤ ((t269.length : Int) : Int) := of_decide_eq_true (by first | (with_reducible assumption) | assumption); obtain ⟨i035, hi035, _, hsz35, _⟩ := info_parts info39; have hroom35 : t269.length ≤ co34 := (Kd.R_reads' HO272.out).2.1; have hC35 : Kd.F (Kd.int .u64) _ _ Ao34 t269.length t269 := (Kd.V_at (base := w.heap.size) (Kd.R_V (Kd.R_apart' (HO272.out) (Kd.N_typed HO_4.out) (by decide)))).2.2; have ql35 : (1 : Int) ≤ ((ji22) : Int) := of_decide_eq_true (by first | (with_reducible assumption) | assumption); have hcut35 := cut_mid (P := Try.prog) 27 39 .i64 .i64 Try.underlying27 hi035 1 hsz35 Ao34 t269.length co34 1 (ji22) (by omega) ql35 q35 hroom35; have hr35 := Kd.F_mid (lo := (1 : Int).toNat) (hi := ((ji22) : Int).toNat) (c := co34) hC35 (by omega) (by omega) hroom35; obtain ⟨A35, hA35⟩ : ∃ A1, A1 = (if co34 = (1 : Int).toNat then Ao34 else (Ao34 : Option Addr).map (·.add ((1 : Int).toNat * 1))) := ⟨_, rfl⟩; obtain ⟨c35, hc35⟩ : ∃ c1, c1 = co34 - (1 : Int).toNat := ⟨_, rfl⟩; have hy35 : y273.length = ((ji22) : Int).toNat - (1 : Int).toNat := (by rw [Ny273.out, List.length_drop, List.length_take] <;> omega); rw [show ((t269).take ((ji22) : Int).toNat).drop (1 : Int).toNat = y273 from Ny273.out.symm] at hr35; replace hr35 : Kd.F (Kd.int .u64) _ _ A35 y273.length y273 := (by rw [hA35]; exact hr35); rw [← hy35, ← hA35, ← hc35] at hcut35; have HO277 := Aside0.mk (show Kd.V (Kd.int .u64) 39 _ w.heap.size _ (.slice A35 y273.length c35) y273 from Kd.V_mk (by rw [hy35, hc35]; exact Nat.sub_le_sub_right (Nat.le_trans (by omega) hroom35) _) hr35); have HC277 := Aside0.mk (show y273.length ≤ c35 from by rw [hy35, hc35]; exact Nat.sub_le_sub_right (Nat.le_trans (by omega) hroom35) _); clear hr35 hC35 hroom35 hi035 hsz35 hc35; have KY35 := Aside0.mk hy35; have KA35 := Aside0.mk hA35; clear hy35 hA35; replace q35 := eq_true q35) | (go_at_call 23; (with_reducible refine (privityref48_mark.calls kj6 _ _ y273 t278 _ ?side1 ?side2 A21.out).mono ?_); (case side1 => repeat (first | exact (Kd.V_reads' HO277.out).2.2 | (with_reducible refine Kd.C_alloc ?_ _) | (with_reducible refine Kd.C_drewN ?_ _) | (with_reducible refine Kd.C_drew ?_))); (case side2 => exact (Kd.V_reads' HO277.out).2.1); rintro e w' ⟨rfl, ⟨nd, rfl⟩⟩; (try first | exact ⟨rfl, _, World.drewN_drewN _ _ _⟩ | exact ⟨rfl, _, Eq.trans (World.drewN_drewN _ _ _) (congrArg (World.drewN _) (Nat.add_assoc _ _ _))⟩); have p279 : 0 ≤ ((ji22) : Int) := of_decide_eq_true (by first | (with_reducible assumption) | assumption); have q279 : (ji22) < (t269.length : Int) := of_decide_eq_true (by first | (with_reducible assumption) | assumption); obtain ⟨ad279, e279, hx279_0⟩ := Kd.at_int (Kd.R_reads' HO272.out).2.2 (ji22) p279 q279; cases e279; replace p279 := eq_true p279; replace q279 := eq_true q279))
                                      repeat (go_quiet (first | (go_at_call 22; (with_reducible refine (privityref03_DecodeWords.calls kj6 (a0.extract (x5_1 : Int).toNat ((wrap64 ((wrap64 (x5_1 + 16)) + (wrap64 (8 * (wrap64 (rd t262 0)))))) : Int).toNat) t269 t270 _ A18.out).mono ?_); rintro e w33 ⟨v271, rfl, ho0, hb⟩; have n0_ := Aside0.mk (Kd.N_elder' (by (with_reducible repeat (first | apply Kd.N_alloc | apply Kd.N_drewN | apply Kd.N_drew)); exact HO_4.out) (Kd.R_base ho0) hb); have n1_ := Aside0.mk (Kd.R_elder' (by (with_reducible repeat (first | apply Kd.R_alloc | apply Kd.R_drewN | apply Kd.R_drew)); exact HO_6.out) (Kd.R_base ho0) hb); have n2_ := Aside0.mk (Kd.R_lower (Kd.R_new' (Kd.R_newM (M := fun k_ => (w.heap.size ≤ k_)) ho0 (below_size (by repeat (first | (with_reducible first | exact HB.out | apply below_alloc | apply pw_below_drewN | apply below_drew1) | exact HB.out))) (fun k_ h_ => h_)) (Kd.R_lt (by (with_reducible repeat (first | apply Kd.R_alloc | apply Kd.R_drewN | apply Kd.R_drew)); exact HO_6.out))) (below_size (by repeat (first | (with_reducible first | exact HB.out | apply below_alloc | apply pw_below_drewN | apply below_drew1) | exact HB.out)))); have n3_ := Aside0.mk (below_step (by repeat (first | (with_reducible first | exact HB.out | apply below_alloc | apply pw_below_drewN | apply below_drew1) | exact HB.out)) hb); clear HO_4; clear HO_6; clear HB; have HO_4 := n0_; have HO_6 := n1_; have HO272 := n2_; have HB := n3_; clear n0_ n1_ n2_ n3_; (try clear hb); (try clear hb2); (try clear hk); (try clear hi); (try clear ho0); obtain ⟨Ao34, co34, eo34⟩ := Kd.R_slice HO272.out; subst eo34; have q35 : ((ji22) : Int) ≤ ((t269.length : Int) : Int) := of_decide_eq_true (by first | (with_reducible assumption) | assumption); obtain ⟨i035, hi035, _, hsz35, _⟩ := info_parts info39; have hroom35 : t269.length ≤ co34 := (Kd.R_reads' HO272.out).2.1; have hC35 : Kd.F (Kd.int .u64) _ _ Ao34 t269.length t269 := (Kd.V_at (base := w.heap.size) (Kd.R_V (Kd.R_apart' (HO272.out) (Kd.N_typed HO_4.out) (by decide)))).2.2; have ql35 : (1 : Int) ≤ ((ji22) : Int) := of_decide_eq_true (by first | (with_reducible assumption) | assumption); have hcut35 := cut_mid (P := Try.prog) 27 39 .i64 .i64 Try.underlying27 hi035 1 hsz35 Ao34 t269.length co34 1 (ji22) (by omega) ql35 q35 hroom35; have hr35 := Kd.F_mid (lo := (1 : Int).toNat) (hi := ((ji22) : Int).toNat) (c := co34) hC35 (by omega) (by omega) hroom35; obtain ⟨A35, hA35⟩ : ∃ A1, A1 = (if co34 = (1 : Int).toNat then Ao34 else (Ao34 : Option Addr).map (·.add ((1 : Int).toNat * 1))) := ⟨_, rfl⟩; obtain ⟨c35, hc35⟩ : ∃ c1, c1 = co34 - (1 : Int).toNat := ⟨_, rfl⟩; have hy35 : y273.length = ((ji22) : Int).toNat - (1 : Int).toNat := (by rw [Ny273.out, List.length_drop, List.length_take] <;> omega); rw [show ((t269).take ((ji22) : Int).toNat).drop (1 : Int).toNat = y273 from Ny273.out.symm] at hr35; replace hr35 : Kd.F (Kd.int .u64) _ _ A35 y273.length y273 := (by rw [hA35]; exact hr35); rw [← hy35, ← hA35, ← hc35] at hcut35; have HO277 := Aside0.mk (show Kd.V (Kd.int .u64) 39 _ w.heap.size _ (.slice A35 y273.length c35) y273 from Kd.V_mk (by rw [hy35, hc35]; exact Nat.sub_le_sub_right (Nat.le_trans (by omega) hroom35) _) hr35); have HC277 := Aside0.mk (show y273.length ≤ c35 from by rw [hy35, hc35]; exact Nat.sub_le_sub_right (Nat.le_trans (by omega) hroom35) _); clear hr35 hC35 hroom35 hi035 hsz35 hc35; have KY35 := Aside0.mk hy35; have KA35 := Aside0.mk hA35; clear hy35 hA35; replace q35 := eq_true q35) | (go_at_call 23; (with_reducible refine (privityref48_mark.calls kj6 _ _ y273 t278 _ ?side1 ?side2 A21.out).mono ?_); (case side1 => repeat (first | exact (Kd.V_reads' HO277.out).2.2 | (with_reducible refine Kd.C_alloc ?_ _) | (with_reducible refine Kd.C_drewN ?_ _) | (with_reducible refine Kd.C_drew ?_))); (case side2 => exact (Kd.V_reads' HO277.out).2.1); rintro e w' ⟨rfl, ⟨nd, rfl⟩⟩; (try first | exact ⟨rfl, _, World.drewN_drewN _ _ _⟩ | exact ⟨rfl, _, Eq.trans (World.drewN_drewN _ _ _) (congrArg (World.drewN _) (Nat.add_assoc _ _ _))⟩); have p279 : 0 ≤ ((ji22) : Int) := of_decide_eq_true (by first | (with_reducible assumption) | assumption); have q279 : (ji22) < (t269.length : Int) := of_decide_eq_true (by first | (with_reducible assumption) | assumption); obtain ⟨ad279, e279, hx279_0⟩ := Kd.at_int (Kd.R_reads' HO272.out).2.2 (ji22) p279 q279; cases e279; replace p279 := eq_true p279; replace q279 := eq_true q279)); try go_wp2_with (first | (go_at_call 22; (with_reducible refine (privityref03_DecodeWords.calls kj6 (a0.extract (x5_1 : Int).toNat ((wrap64 ((wrap64 (x5_1 + 16)) + (wrap64 (8 * (wrap64 (rd t262 0)))))) : Int).toNat) t269 t270 _ A18.out).mono ?_); rintro e w33 ⟨v271, rfl, ho0, hb⟩; have n0_ := Aside0.mk (Kd.N_elder' (by (with_reducible repeat (first | apply Kd.N_alloc | apply Kd.N_drewN | apply Kd.N_drew)); exact HO_4.out) (Kd.R_base ho0) hb); have n1_ := Aside0.mk (Kd.R_elder' (by (with_reducible repeat (first | apply Kd.R_alloc | apply Kd.R_drewN | apply Kd.R_drew)); exact HO_6.out) (Kd.R_base ho0) hb); have n2_ := Aside0.mk (Kd.R_lower (Kd.R_new' (Kd.R_newM (M := fun k_ => (w.heap.size ≤ k_)) ho0 (below_size (by repeat (first | (with_reducible first | exact HB.out | apply below_alloc | apply pw_below_drewN | apply below_drew1) | exact HB.out))) (fun k_ h_ => h_)) (Kd.R_lt (by (with_reducible repeat (first | apply Kd.R_alloc | apply Kd.R_drewN | apply Kd.R_drew)); exact HO_6.out))) (below_size (by repeat (first | (with_reducible first | exact HB.out | apply below_alloc | apply pw_below_drewN | apply below_drew1) | exact HB.out)))); have n3_ := Aside0.mk (below_step (by repeat (first | (with_reducible first | exact HB.out | apply below_alloc | apply pw_below_drewN | apply below_drew1) | exact HB.out)) hb); clear HO_4; clear HO_6; clear HB; have HO_4 := n0_; have HO_6 := n1_; have HO272 := n2_; have HB := n3_; clear n0_ n1_ n2_ n3_; (try clear hb); (try clear hb2); (try clear hk); (try clear hi); (try clear ho0); obtain ⟨Ao34, co34, eo34⟩ := Kd.R_slice HO272.out; subst eo34; have q35 : ((ji22) : Int) ≤ ((t269.length : Int) : Int) := of_decide_eq_true (by first | (with_reducible assumption) | assumption); obtain ⟨i035, hi035, _, hsz35, _⟩ := info_parts info39; have hroom35 : t269.length ≤ co34 := (Kd.R_reads' HO272.out).2.1; have hC35 : Kd.F (Kd.int .u64) _ _ Ao34 t269.length t269 := (Kd.V_at (base := w.heap.size) (Kd.R_V (Kd.R_apart' (HO272.out) (Kd.N_typed HO_4.out) (by decide)))).2.2; have ql35 : (1 : Int) ≤ ((ji22) : Int) := of_decide_eq_true (by first | (with_reducible assumption) | assumption); have hcut35 := cut_mid (P := Try.prog) 27 39 .i64 .i64 Try.underlying27 hi035 1 hsz35 Ao34 t269.length co34 1 (ji22) (by omega) ql35 q35 hroom35; have hr35 := Kd.F_mid (lo := (1 : Int).toNat) (hi := ((ji22) : Int).toNat) (c := co34) hC35 (by omega) (by omega) hroom35; obtain ⟨A35, hA35⟩ : ∃ A1, A1 = (if co34 = (1 : Int).toNat then Ao34 else (Ao34 : Option Addr).map (·.add ((1 : Int).toNat * 1))) := ⟨_, rfl⟩; obtain ⟨c35, hc35⟩ : ∃ c1, c1 = co34 - (1 : Int).toNat := ⟨_, rfl⟩; have hy35 : y273.length = ((ji22) : Int).toNat - (1 : Int).toNat := (by rw [Ny273.out, List.length_drop, List.length_take] <;> omega); rw [show ((t269).take ((ji22) : Int).toNat).drop (1 : Int).toNat = y273 from Ny273.out.symm] at hr35; replace hr35 : Kd.F (Kd.int .u64) _ _ A35 y273.length y273 := (by rw [hA35]; exact hr35); rw [← hy35, ← hA35, ← hc35] at hcut35; have HO277 := Aside0.mk (show Kd.V (Kd.int .u64) 39 _ w.heap.size _ (.slice A35 y273.length c35) y273 from Kd.V_mk (by rw [hy35, hc35]; exact Nat.sub_le_sub_right (Nat.le_trans (by omega) hroom35) _) hr35); have HC277 := Aside0.mk (show y273.length ≤ c35 from by rw [hy35, hc35]; exact Nat.sub_le_sub_right (Nat.le_trans (by omega) hroom35) _); clear hr35 hC35 hroom35 hi035 hsz35 hc35; have KY35 := Aside0.mk hy35; have KA35 := Aside0.mk hA35; clear hy35 hA35; replace q35 := eq_true q35) | (go_at_call 23; (with_reducible refine (privityref48_mark.calls kj6 _ _ y273 t278 _ ?side1 ?side2 A21.out).mono ?_); (case side1 => repeat (first | exact (Kd.V_reads' HO277.out).2.2 | (with_reducible refine Kd.C_alloc ?_ _) | (with_reducible refine Kd.C_drewN ?_ _) | (with_reducible refine Kd.C_drew ?_))); (case side2 => exact (Kd.V_reads' HO277.out).2.1); rintro e w' ⟨rfl, ⟨nd, rfl⟩⟩; (try first | exact ⟨rfl, _, World.drewN_drewN _ _ _⟩ | exact ⟨rfl, _, Eq.trans (World.drewN_drewN _ _ _) (congrArg (World.drewN _) (Nat.add_assoc _ _ _))⟩); have p279 : 0 ≤ ((ji22) : Int) := of_decide_eq_true (by first | (with_reducible assumption) | assumption); have q279 : (ji22) < (t269.length : Int) := of_decide_eq_true (by first | (with_reducible assumption) | assumption); obtain ⟨ad279, e279, hx279_0⟩ := Kd.at_int (Kd.R_reads' HO272.out).2.2 (ji22) p279 q279; cases e279; replace p279 := eq_true p279; replace q279 := eq_true q279)))
                                      go_ret2
                                      exact ⟨_, by first | rfl | (simp [errW_none, errW_some] <;> rfl) | (simp only [← hji22]; first | rfl | (simp [errW_none, errW_some] <;> rfl)) | (simp [*, errW_none, errW_some] <;> rfl), by (with_reducible repeat (first | apply Kd.N_alloc | apply Kd.N_drewN | apply Kd.N_drew)); exact Kd.N_mono HO_4.out (fun _ hk => hk.1.1), by repeat (first | (with_reducible first | exact HB.out | apply below_alloc | apply pw_below_drewN | apply below_drew1) | exact HB.out)⟩
                                  · rw [if_neg c24] at H
                                    exact absurd H (by simp)
                                · rw [if_neg c23] at H
                                  exact absurd H (by simp)
                              · rw [if_neg c20] at H
                                exact absurd H (by simp)
                            · rw [if_neg c19] at H
                              exact absurd H (by simp)
                          · rw [if_neg c17] at H
                            exact absurd H (by simp)
                        · rw [if_neg c16] at H
                          exact absurd H (by simp)
                      · rw [if_neg c15] at H
                        exact absurd H (by simp)
                    · rw [if_neg c14] at H
                      exact absurd H (by simp)
            · rw [if_neg c5] at H
              exact absurd H (by simp)
          · rw [if_neg c4] at H
            exact absurd H (by simp)
        · rw [if_neg c3] at H
          exact absurd H (by simp)
      · rw [if_neg c2] at H
        have c2b0 : decide ((wrap64 (x5_1 + 16)) ≤ (a0.size : Int)) = false := decide_eq_false c2
        clear c2
        simp only [Option.some.injEq, Prod.mk.injEq] at H
        obtain ⟨rfl, rfl⟩ := H
        go_wp2
        repeat (go_quiet (fail); try go_wp2)
        go_ret2
        exact ⟨_, by first | rfl | (simp [errW_none, errW_some] <;> rfl) | (simp [*, errW_none, errW_some] <;> rfl), by (with_reducible repeat (first | apply Kd.N_alloc | apply Kd.N_drewN | apply Kd.N_drew)); exact HO_4.out, by repeat (first | (with_reducible first | exact HB.out | apply below_alloc | apply pw_below_drewN | apply below_drew1) | exact HB.out)⟩

end Go.Proofs.Ytaalmmnjehfimaa.P
