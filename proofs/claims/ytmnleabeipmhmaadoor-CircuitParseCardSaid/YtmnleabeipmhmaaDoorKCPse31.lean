/- What is proved here: a part of the proof of CircuitParse: Px33. No conditions beside those that each theorem states. -/
import Derived.Test.YtmnleabeipmhmaaDoorKCPse5
import Derived.Test.YtmnleabeipmhmaaDoorKCPse28
import Derived.Test.YtmnleabeipmhmaaDoorKCPse30
section
namespace Go.Proofs.YtmnleabeipmhmaaDoor.P
open Go.RowKit Go.Proofs.YtmnleabeipmhmaaDoorW.PrintWords Go.Proofs.YtmnleabeipmhmaaDoorW.PrintLast Go.Proofs.YtmnleabeipmhmaaDoorW.PrintMore
attribute [local go_sem] zb0 zbz zcd zce zbr zbs zb1 zb3   -- for this text's walks alone
set_option linter.unusedVariables false
set_option linter.unusedSimpArgs false
mutual
def zar.j0 : Nat → Int → List Int → Bool → Option (List Int × Bool)
  | 0, _, _, _ => none
  | k + 1, x1, x7, x31 => if x31 = true then (some (([] : List Int), false)) else (zar.l0 k x1 x7 ([] : List Int) 0)
def zar.l0 : Nat → Int → List Int → List Int → Int → Option (List Int × Bool)
  | 0, _, _, _, _ => none
  | k + 1, x1, x7, x9, x10 => if x10 < (x7.length : Int) then (if 0 ≤ x10 then (if (rd x7 x10) ≥ (IntKind.u64.wrap (x1)) then (some (([] : List Int), false)) else (if x9.length < 17592186044416 then (zar.l0 k x1 x7 (x9 ++ [wrap64 (rd x7 x10)]) (wrap64 (x10 + 1))) else (none))) else (none)) else (some (x9, true))
end
def zar.f (k : Nat) (a0 : ByteArray) (a1 : Int) : Option (List Int × Bool) := (za4.f k a0).bind fun t299 => (if 1 ≤ (t299.length : Int) then ((zal.f k (t299.drop 1)).bind fun bt306 => (if 0 < (t299.length : Int) then (if (rdOf ByteArray.empty t299 0).toList = ([111, 117, 116] : List UInt8) then (if bt306.2 = true then (zar.j0 k a1 bt306.1 (decide ((bt306.1.length : Int) > 1000))) else (zar.j0 k a1 bt306.1 true)) else (zar.j0 k a1 bt306.1 true)) else (none))) else (none))
set_option maxHeartbeats 8000000 in
set_option maxRecDepth 100000 in
theorem zar.calls (k : Nat) (a0 : ByteArray) (a1 : Int) (r1 : List Int) (r2 : Bool) (w : World) (h : zar.f k a0 a1 = some (r1, r2)) :
    Calls Tryd.prog 45 #[.string a0, .int .i64 a1] w fun e w' => ∃ v0_ : Value, e = .returned (.tuple #[v0_, .bool r2]) ∧ Kd.R (Kd.int .i64) 3 w' w.heap.size (fun _ => True) v0_ r1 ∧ Below w.heap.size w w' := by
  have HB := Aside0.mk (Below.refl w.heap.size w); have H : ((za4.f k a0).bind fun t299 => (if 1 ≤ (t299.length : Int) then ((zal.f k (t299.drop 1)).bind fun bt306 => (if 0 < (t299.length : Int) then (if (rdOf ByteArray.empty t299 0).toList = ([111, 117, 116] : List UInt8) then (if bt306.2 = true then (zar.j0 k a1 bt306.1 (decide ((bt306.1.length : Int) > 1000))) else (zar.j0 k a1 bt306.1 true)) else (zar.j0 k a1 bt306.1 true)) else (none))) else (none))) = some (r1, r2) := h; clear h; replace H := Option.bind_eq_some_iff.mp H; obtain ⟨t299, A30, H⟩ := H; replace H : (if 1 ≤ (t299.length : Int) then ((zal.f k (t299.drop 1)).bind fun bt306 => (if 0 < (t299.length : Int) then (if (rdOf ByteArray.empty t299 0).toList = ([111, 117, 116] : List UInt8) then (if bt306.2 = true then (zar.j0 k a1 bt306.1 (decide ((bt306.1.length : Int) > 1000))) else (zar.j0 k a1 bt306.1 true)) else (zar.j0 k a1 bt306.1 true)) else (none))) else (none)) = some (r1, r2) := H; have A3 := Aside0.mk A30; clear A30
  by_cases c4 : 1 ≤ (t299.length : Int)
  · rw [if_pos c4] at H
    have c4b0 := eq_true c4; have c4b1 : decide (1 ≤ (t299.length : Int)) = true := decide_eq_true c4; clear c4
    obtain ⟨y302, hy302⟩ : ∃ y_ : List ByteArray, y_ = (t299.drop 1) := ⟨_, rfl⟩
    replace H : ((zal.f k y302).bind fun bt306 => (if 0 < (t299.length : Int) then (if (rdOf ByteArray.empty t299 0).toList = ([111, 117, 116] : List UInt8) then (if bt306.2 = true then (zar.j0 k a1 bt306.1 (decide ((bt306.1.length : Int) > 1000))) else (zar.j0 k a1 bt306.1 true)) else (zar.j0 k a1 bt306.1 true)) else (none))) = some (r1, r2) := by first | (rw [hy302]; with_reducible exact H) | (have H2_ := (Option.bind_some _ _).symm.trans H; rw [hy302]; with_reducible exact H2_) | (have H2_ := (Option.bind_some _ _).symm.trans H; with_reducible exact H2_) | with_reducible exact H | (rw [hy302]; exact H) | exact H
    have Ny302 := Aside0.mk hy302; clear hy302; replace H := Option.bind_eq_some_iff.mp H; obtain ⟨⟨t306, t307⟩, A50, H⟩ := H; replace H : (if 0 < (t299.length : Int) then (if (rdOf ByteArray.empty t299 0).toList = ([111, 117, 116] : List UInt8) then (if t307 = true then (zar.j0 k a1 t306 (decide ((t306.length : Int) > 1000))) else (zar.j0 k a1 t306 true)) else (zar.j0 k a1 t306 true)) else (none)) = some (r1, r2) := H; have A5 := Aside0.mk A50; clear A50; have HC6 := Aside0.mk H; clear H; go_enter Tryd.func45, Tryd.ntmps45
    go_upto_region 3 with (first | ((with_reducible refine za0 (f := 43) rfl ?_); refine zb2 (some 12) rfl rfl Tryd.func43 (by kernel_rfl) rfl #[.string a0] rfl zt ?_; (with_reducible refine (za4.calls k a0 t299 _ A3.out).mono ?_); rintro e w7 ⟨v300, rfl, ho0, hb⟩; refine ⟨_, rfl, ?_⟩; have n0_ := Aside0.mk (Kd.R_lower ho0 (zag (zs0 HB))); have n1_ := Aside0.mk (zam (zs0 HB) hb); clear HB; have HO301 := n0_; have HB := n1_; clear n0_ n1_; (try clear hb); (try clear hb2); (try clear hk); (try clear hi); (try clear ho0); obtain ⟨Ao9, co9, eo9⟩ := Kd.R_slice HO301.out; subst eo9; have q8 : (1 : Int) ≤ ((t299.length : Int) : Int) := of_decide_eq_true (by first | (with_reducible assumption) | assumption); obtain ⟨i08, hi08, _, hsz8, _⟩ := info_parts info9; have hroom8 : t299.length ≤ co9 := (Kd.R_reads' HO301.out).2.1; have hC8 : Kd.C Kd.string _ Ao9 t299.length t299 := (Kd.R_reads' HO301.out).2.2; have hcut8 := cut_from (P := Tryd.prog) 69 9 .i64 Tryd.underlying69 hi08 1 hsz8 Ao9 t299.length co9 1 (by omega) q8; have hr8 := Kd.C_drop (m := (1 : Int).toNat) (c := co9) hC8 (by omega) hroom8; obtain ⟨A8, hA8⟩ : ∃ A1, A1 = (if co9 = (1 : Int).toNat then Ao9 else (Ao9 : Option Addr).map (·.add ((1 : Int).toNat * 1))) := ⟨_, rfl⟩; obtain ⟨c8, hc8⟩ : ∃ c1, c1 = co9 - (1 : Int).toNat := ⟨_, rfl⟩; have hy8 : y302.length = t299.length - (1 : Int).toNat := (by rw [Ny302.out, List.length_drop] <;> omega); rw [show (t299).drop (1 : Int).toNat = y302 from Ny302.out.symm] at hr8; replace hr8 : Kd.C Kd.string _ A8 y302.length y302 := (by rw [hA8]; exact hr8); rw [← hy8, ← hA8, ← hc8] at hcut8; have HR305 := Aside0.mk hr8; have HC305 := Aside0.mk (show y302.length ≤ c8 from by rw [hy8, hc8]; exact Nat.sub_le_sub_right hroom8 _); clear hr8 hC8 hroom8 hi08 hsz8 hc8; have KY8 := Aside0.mk hy8; have KA8 := Aside0.mk hA8; clear hy8 hA8; have KL8 := Aside0.mk (show 1 ≤ t299.length from by omega); replace q8 := eq_true q8) | ((with_reducible refine za0 (f := 44) rfl ?_); refine zb2 (some 16) rfl rfl Tryd.func44 (by kernel_rfl) rfl #[.slice A8 y302.length c8] rfl zt ?_; (with_reducible refine (zal.calls k _ _ y302 t306 t307 _ ?side1 ?side2 A5.out).mono ?_); (case side1 => repeat (first | exact (by repeat (first | (with_reducible exact HR305.out) | (with_reducible refine Kd.C_alloc ?_ _) | (with_reducible refine Kd.C_drewN ?_ _) | (with_reducible refine Kd.C_drew ?_) | exact HR305.out)) | (with_reducible refine Kd.C_alloc ?_ _) | (with_reducible refine Kd.C_drewN ?_ _) | (with_reducible refine Kd.C_drew ?_))); (case side2 => exact HC305.out); rintro e w10 ⟨v308, rfl, ho0, hb⟩; refine ⟨_, rfl, ?_⟩; have n0_ := Aside0.mk (Kd.R_below (zrR HO301) hb); have n1_ := Aside0.mk (Kd.R_lower ho0 (zag (zs0 HB))); have n2_ := Aside0.mk (Kd.C_below (by repeat (first | (with_reducible exact HR305.out) | (with_reducible refine Kd.C_alloc ?_ _) | (with_reducible refine Kd.C_drewN ?_ _) | (with_reducible refine Kd.C_drew ?_) | exact HR305.out)) hb); have n3_ := Aside0.mk (zam (zs0 HB) hb); clear HO301; clear HR305; clear HB; have HO301 := n0_; have HO309 := n1_; have HR305 := n2_; have HB := n3_; clear n0_ n1_ n2_ n3_; (try clear hb); (try clear hb2); (try clear hk); (try clear hi); (try clear ho0)))
    (try simp only [Act.put, za1, za2, za3])
    go_cut [31] (fun v31 wc => ∃ (kq : Nat) (x31_5 : Bool), v31 = .bool x31_5 ∧ Aside0 (zar.j0 kq a1 t306 x31_5 = some (r1, r2)) ∧ Aside0 (kq ≤ k) ∧ Aside0 (Kd.R (Kd.int .u64) 22 wc w.heap.size (fun _ => True) v308 t306) ∧ Aside0 True ∧ Aside0 (Below w.heap.size w wc))
    case first =>
      have H := HC6.out; clear HC6
      by_cases c11 : 0 < (t299.length : Int)
      · rw [if_pos c11] at H
        have c11b0 : decide (0 < (t299.length : Int)) = true := decide_eq_true c11; have c11b1 : decide (0 < t299.length) = true := decide_eq_true (by omega); clear c11
        (first | rw [c11b0] | (simp only [za7, za9]; rw [c11b0]) | skip)
        by_cases c12 : (rdOf ByteArray.empty t299 0).toList = ([111, 117, 116] : List UInt8)
        · rw [if_pos c12] at H
          have c12b0 : ((rdOf ByteArray.empty t299 0).toList == ([111, 117, 116] : List UInt8)) = true := beq_iff_eq.mpr c12; have c12b1 : ((rdOf ByteArray.empty t299 0).toList != ([111, 117, 116] : List UInt8)) = false := bne_eq_false_iff_eq.mpr c12; clear c12
          by_cases c13 : t307 = true
          · subst c13
            have H1 : (zar.j0 k a1 t306 (decide ((t306.length : Int) > 1000))) = some (r1, r2) := by rw [if_pos rfl] at H; exact H
            clear H; have H := H1; clear H1; have H' := Aside0.mk H; clear H
            have p310 : 0 ≤ (0 : Int) := (by omega)
            have q310 : 0 < (t299.length : Int) := of_decide_eq_true (by first | (with_reducible assumption) | assumption); obtain ⟨ad310, e310, hx310_0⟩ := Kd.at_string (Kd.R_reads' HO301.out).2.2 0 p310 q310; cases e310; have qi310 : (0 < t299.length) = True := eq_true (by omega); (try rw [show ((0 : Int)).toNat = 0 from rfl] at hx310_0); (try rw [Addr.add_zero'] at hx310_0); replace p310 := eq_true p310; replace q310 := eq_true q310; obtain ⟨Ao14, co14, eo14⟩ := Kd.R_slice HO309.out; subst eo14; go_wp2
            go_meet
            case rel => exact ⟨_, (decide ((t306.length : Int) > 1000)), (by first | rfl | (simp; done) | (simp [*]; done)), H', ⟨by first | omega | exact Nat.le_refl _⟩, ⟨by (with_reducible repeat (first | apply Kd.R_alloc | apply Kd.R_drewN | apply Kd.R_drew)); exact HO309.out⟩, ⟨trivial⟩, ⟨by repeat (first | (with_reducible first | exact HB.out | apply zan | apply zat | apply zas) | exact HB.out)⟩⟩
          · replace c13 := Bool.eq_false_iff.mpr c13
            subst c13
            have H1 : (zar.j0 k a1 t306 true) = some (r1, r2) := by rw [if_neg (show ¬ (false = true) by decide)] at H; exact H
            clear H; have H := H1; clear H1; have H' := Aside0.mk H; clear H
            have p310 : 0 ≤ (0 : Int) := (by omega)
            have q310 : 0 < (t299.length : Int) := of_decide_eq_true (by first | (with_reducible assumption) | assumption); obtain ⟨ad310, e310, hx310_0⟩ := Kd.at_string (Kd.R_reads' HO301.out).2.2 0 p310 q310; cases e310; have qi310 : (0 < t299.length) = True := eq_true (by omega); (try rw [show ((0 : Int)).toNat = 0 from rfl] at hx310_0); (try rw [Addr.add_zero'] at hx310_0); replace p310 := eq_true p310; replace q310 := eq_true q310; go_wp2
            go_meet
            case rel => exact ⟨_, (true), (by first | rfl | (simp; done) | (simp [*]; done)), H', ⟨by first | omega | exact Nat.le_refl _⟩, ⟨by (with_reducible repeat (first | apply Kd.R_alloc | apply Kd.R_drewN | apply Kd.R_drew)); exact HO309.out⟩, ⟨trivial⟩, ⟨by repeat (first | (with_reducible first | exact HB.out | apply zan | apply zat | apply zas) | exact HB.out)⟩⟩
        · rw [if_neg c12] at H
          have c12b0 : ((rdOf ByteArray.empty t299 0).toList == ([111, 117, 116] : List UInt8)) = false := beq_eq_false_iff_ne.mpr c12; have c12b1 : ((rdOf ByteArray.empty t299 0).toList != ([111, 117, 116] : List UInt8)) = true := bne_iff_ne.mpr c12; have H' := Aside0.mk H; clear H
          have p310 : 0 ≤ (0 : Int) := (by omega)
          have q310 : 0 < (t299.length : Int) := of_decide_eq_true (by first | (with_reducible assumption) | assumption); obtain ⟨ad310, e310, hx310_0⟩ := Kd.at_string (Kd.R_reads' HO301.out).2.2 0 p310 q310; cases e310; have qi310 : (0 < t299.length) = True := eq_true (by omega); (try rw [show ((0 : Int)).toNat = 0 from rfl] at hx310_0); (try rw [Addr.add_zero'] at hx310_0); replace p310 := eq_true p310; replace q310 := eq_true q310; go_wp2
          go_meet
          case rel => exact ⟨_, (true), (by first | rfl | (simp; done) | (simp [*]; done)), H', ⟨by first | omega | exact Nat.le_refl _⟩, ⟨by (with_reducible repeat (first | apply Kd.R_alloc | apply Kd.R_drewN | apply Kd.R_drew)); exact HO309.out⟩, ⟨trivial⟩, ⟨by repeat (first | (with_reducible first | exact HB.out | apply zan | apply zat | apply zas) | exact HB.out)⟩⟩
      · rw [if_neg c11] at H
        exact absurd H (by simp)
    case rest =>
      clear HC6; (try clear c1); (try clear p2); (try clear p3); (try clear q3); (try clear hx3); (try clear qi3); (try clear c4); (try clear c4b0); (try clear c4b1); (try clear c8); (try clear q8); (try clear c11); (try clear c11b0); (try clear c11b1); (try clear c12); (try clear c12b0); (try clear c12b1); (try clear c13); (try clear hx310_0); (try clear p310); (try clear q310); (try clear q8); obtain ⟨kq, x31_5, rfl, HA, HJ5, HO_7, HR305, HB⟩ := hcut
      cases kq with
      | zero => exact absurd HA.out (by simp [zar.j0])
      | succ kj5 =>
        have H := HA.out; clear HA; simp only [zar.j0] at H
        by_cases c15 : x31_5 = true
        · subst c15
          have H1 : (some (([] : List Int), false)) = some (r1, r2) := by rw [if_pos rfl] at H; exact H
          clear H; have H := H1; clear H1; simp only [Option.some.injEq, Prod.mk.injEq] at H; obtain ⟨rfl, rfl⟩ := H; go_wp2
          go_ret2
          exact ⟨_, by first | rfl | (simp [zap, zao] <;> rfl) | (simp [*, zap, zao] <;> rfl), by first | exact Kd.R_nil _ _ _ _ _ | exact Kd.N_nil _ _ _ _ _ | exact Kd.V_nil _ _ _ _ _ | exact Kd.Q_nil _ _ _ _ _ | exact Kd.S_nil _ _ _ _ _, zs0 HB⟩
        · replace c15 := Bool.eq_false_iff.mpr c15
          subst c15
          have H1 : (zar.l0 kj5 a1 t306 ([] : List Int) 0) = some (r1, r2) := by rw [if_neg (show ¬ (false = true) by decide)] at H; exact H
          clear H; have H := H1; clear H1; have H' := Aside0.mk H; clear H; go_wp2
          go_loopg [9, 10] kj5 (fun kq v9 v10 w' => ∃ (x9_2 : List Int) (x10_2 : Int), v10 = .int .i64 x10_2 ∧ Aside0 (zar.l0 kq a1 t306 x9_2 x10_2 = some (r1, r2)) ∧ Aside0 (kq ≤ kj5) ∧ Aside0 (Kd.R (Kd.int .u64) 22 w' w.heap.size (fun _ => True) v308 t306) ∧ Aside0 (Kd.R (Kd.int .i64) 3 w' w.heap.size (fun _ => True) v9 x9_2) ∧ Aside0 (Below w.heap.size w w'))
          case atStart => exact ⟨(([] : List Int)), (0), (by first | rfl | (simp; done) | (simp [*]; done)), H', ⟨Nat.le_refl _⟩, ⟨by (with_reducible repeat (first | apply Kd.R_alloc | apply Kd.R_drewN | apply Kd.R_drew)); exact HO_7.out⟩, ⟨by first | exact Kd.R_nil _ _ _ _ _ | exact Kd.N_nil _ _ _ _ _ | exact Kd.V_nil _ _ _ _ _ | exact Kd.Q_nil _ _ _ _ _ | exact Kd.S_nil _ _ _ _ _⟩, ⟨by repeat (first | (with_reducible first | exact HB.out | apply zan | apply zat | apply zas) | exact HB.out)⟩⟩
          case round =>
            clear H'; (try clear c1); (try clear p2); (try clear p3); (try clear q3); (try clear hx3); (try clear qi3); (try clear c4); (try clear c4b0); (try clear c4b1); (try clear c8); (try clear q8); (try clear c11); (try clear c11b0); (try clear c11b1); (try clear c12); (try clear c12b0); (try clear c12b1); (try clear c13); (try clear c15); (try clear hx310_0); (try clear p2); (try clear p3); (try clear p310); (try clear q3); (try clear q310); (try clear q8); obtain ⟨x9_2, x10_2, rfl, HA, HK2, HO_7, HO_9, HB⟩ := hrel
            cases gk with
            | zero => exact absurd HA.out (by simp [zar.l0])
            | succ k2 =>
              have H := HA.out; clear HA; simp only [zar.l0] at H
              by_cases c16 : x10_2 < (t306.length : Int)
              · rw [if_pos c16] at H
                have c16b0 : decide (x10_2 < (t306.length : Int)) = true := decide_eq_true c16; clear c16
                by_cases c17 : 0 ≤ x10_2
                · rw [if_pos c17] at H
                  have c17b0 : decide (0 ≤ x10_2) = true := decide_eq_true c17; clear c17
                  by_cases c18 : (rd t306 x10_2) ≥ (IntKind.u64.wrap (a1))
                  · rw [if_pos c18] at H
                    have c18b0 : decide ((IntKind.u64.wrap (a1)) ≤ (rd t306 x10_2)) = true := decide_eq_true c18; clear c18; simp only [Option.some.injEq, Prod.mk.injEq] at H; obtain ⟨rfl, rfl⟩ := H; obtain ⟨Ao19, co19, eo19⟩ := Kd.R_slice HO_7.out; subst eo19; have p311 : 0 ≤ (x10_2 : Int) := of_decide_eq_true (by first | (with_reducible assumption) | assumption); have q311 : x10_2 < (t306.length : Int) := of_decide_eq_true (by first | (with_reducible assumption) | assumption); obtain ⟨ad311, e311, hx311_0⟩ := Kd.at_int (Kd.R_reads' HO_7.out).2.2 x10_2 p311 q311; cases e311; replace p311 := eq_true p311; replace q311 := eq_true q311; go_wp2
                    go_ret2
                    exact ⟨_, by first | rfl | (simp [zap, zao] <;> rfl) | (simp [*, zap, zao] <;> rfl), by first | exact Kd.R_nil _ _ _ _ _ | exact Kd.N_nil _ _ _ _ _ | exact Kd.V_nil _ _ _ _ _ | exact Kd.Q_nil _ _ _ _ _ | exact Kd.S_nil _ _ _ _ _, zs0 HB⟩
                  · rw [if_neg c18] at H
                    have c18b0 : decide ((IntKind.u64.wrap (a1)) ≤ (rd t306 x10_2)) = false := decide_eq_false c18; clear c18
                    by_cases c20 : x9_2.length < 17592186044416
                    · rw [if_pos c20] at H
                      have LMc20 := Aside0.mk c20; clear c20
                      obtain ⟨y313, hy313⟩ : ∃ y_ : List Int, y_ = (x9_2 ++ [wrap64 (rd t306 x10_2)]) := ⟨_, rfl⟩
                      replace H : (zar.l0 k2 a1 t306 y313 (wrap64 (x10_2 + 1))) = some (r1, r2) := by first | (rw [hy313]; with_reducible exact H) | (have H2_ := (Option.bind_some _ _).symm.trans H; rw [hy313]; with_reducible exact H2_) | (have H2_ := (Option.bind_some _ _).symm.trans H; with_reducible exact H2_) | with_reducible exact H | (rw [hy313]; exact H) | exact H
                      have Ny313 := Aside0.mk hy313; clear hy313; have H' := Aside0.mk H; clear H; obtain ⟨Ao21, co21, eo21⟩ := Kd.R_slice HO_7.out; subst eo21; have p311 : 0 ≤ (x10_2 : Int) := of_decide_eq_true (by first | (with_reducible assumption) | assumption); have q311 : x10_2 < (t306.length : Int) := of_decide_eq_true (by first | (with_reducible assumption) | assumption); obtain ⟨ad311, e311, hx311_0⟩ := Kd.at_int (Kd.R_reads' HO_7.out).2.2 x10_2 p311 q311; cases e311; replace p311 := eq_true p311; replace q311 := eq_true q311; have p312 : 0 ≤ (x10_2 : Int) := of_decide_eq_true (by first | (with_reducible assumption) | assumption); have q312 : x10_2 < (t306.length : Int) := of_decide_eq_true (by first | (with_reducible assumption) | assumption); obtain ⟨ad312, e312, hx312_0⟩ := Kd.at_int (Kd.R_reads' HO_7.out).2.2 x10_2 p312 q312
                      obtain rfl : ad311 = ad312 := (by injection e312)
                      replace p312 := eq_true p312; replace q312 := eq_true q312
                      go_wp2_with (first | ((with_reducible refine zcg (b := .append) (xs := #[.tmp 45, .tmp 51]) rfl ?_); (try (refine zco (by rfl) ?_; dsimp only)); at_builtin; refine Kd.R_append (Kd.int .i64) (w0 := w) w.heap.size rfl (.tmp 45) (.tmp 51) 24 3 (.int .i64 0) 8 rfl Tryd.underlying24 info3 rfl (by decide) (by omega) u9 x9_2 (wrap64 (rd t306 x10_2)) [.int .i64 (wrap64 (rd t306 x10_2))] (fun _ => True) (fun _ => False) rfl rfl ?aP (fun _ hk => hk.elim) ?aF ?aO ?aB ?aS ?aL ?_; (case aP => exact rfl); (case aB => exact (zs0 HB)); (case aF => exact (fun _ _ => trivial)); (case aO => exact (zrR HO_9)); (case aS => exact (zag (zs0 HB))); (case aL => have := LMc20.out; omega); intro v314 w22 ho hb hg hat; rw [← Ny313.out] at ho; have n0_ := Aside0.mk (Kd.R_over' (zrR HO_7) (Kd.R_typed (zrR HO_9)) (by decide) hg); have n1_ := Aside0.mk (hb); have n2_ := Aside0.mk (ho); clear HO_7; clear HB; clear HO_9; have HO_7 := n0_; have HB := n1_; have HO315 := n2_; clear n0_ n1_ n2_; clear ho hb hg hat))
                      go_roundg k2
                      case measure => have := HJ5.out; have := HK2.out; omega
                      case rel => exact ⟨(y313), (wrap64 (x10_2 + 1)), (by first | rfl | (simp; done) | (simp [*]; done)), H', ⟨by have := HJ5.out; have := HK2.out; omega⟩, ⟨by (with_reducible repeat (first | apply Kd.R_alloc | apply Kd.R_drewN | apply Kd.R_drew)); exact HO_7.out⟩, ⟨by (with_reducible repeat (first | apply Kd.R_alloc | apply Kd.R_drewN | apply Kd.R_drew)); exact HO315.out⟩, ⟨by repeat (first | (with_reducible first | exact HB.out | apply zan | apply zat | apply zas) | exact HB.out)⟩⟩
                    · rw [if_neg c20] at H
                      exact absurd H (by simp)
                · rw [if_neg c17] at H
                  exact absurd H (by simp)
              · rw [if_neg c16] at H
                have c16b0 : decide (x10_2 < (t306.length : Int)) = false := decide_eq_false c16; clear c16; simp only [Option.some.injEq, Prod.mk.injEq] at H; obtain ⟨rfl, rfl⟩ := H; obtain ⟨Ao23, co23, eo23⟩ := Kd.R_slice HO_7.out; subst eo23; go_wp2
                go_ret2
                exact ⟨_, by first | rfl | (simp [zap, zao] <;> rfl) | (simp [*, zap, zao] <;> rfl), by (with_reducible repeat (first | apply Kd.R_alloc | apply Kd.R_drewN | apply Kd.R_drew)); exact HO_9.out, zs0 HB⟩
  · rw [if_neg c4] at H
    exact absurd H (by simp)
end Go.Proofs.YtmnleabeipmhmaaDoor.P
end
