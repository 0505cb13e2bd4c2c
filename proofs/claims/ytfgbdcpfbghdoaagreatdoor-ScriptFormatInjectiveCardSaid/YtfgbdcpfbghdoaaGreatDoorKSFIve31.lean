/- What is proved here: a part of the proof of ScriptFormatInjective: Px11. No conditions beside those that each theorem states. -/
import Derived.Test.YtfgbdcpfbghdoaaGreatDoorKSFIve11
import Derived.Test.YtfgbdcpfbghdoaaGreatDoorKSFIve21
import Derived.Test.YtfgbdcpfbghdoaaGreatDoorKSFIve30
section
namespace Go.Proofs.YtfgbdcpfbghdoaaGreatDoor.P
open Go.RowKit Go.Proofs.YtfgbdcpfbghdoaaGreatDoorW.PrintWords Go.Proofs.YtfgbdcpfbghdoaaGreatDoorW.PrintLast Go.Proofs.YtfgbdcpfbghdoaaGreatDoorW.PrintMore
attribute [local go_sem] max2_int min2_int max_two min_two max_three min_three max_four min_four   -- for this text's walks alone
set_option linter.unusedVariables false
set_option linter.unusedSimpArgs false
def privitylaw53_awake.f (k : Nat)  : Option (Bool) := (script_Parse.f k (⟨#[108, 105, 101, 32, 50, 32, 34, 97, 32, 94, 113, 32, 98, 34, 32, 120, 35, 121, 10, 35, 32, 97, 32, 110, 111, 116, 101, 10]⟩ : ByteArray)).bind fun bt145 => ((script_Format.f bt145.1).bind fun bt150 => ((script_Parse.f k (⟨#[97, 10, 108, 105, 101, 32, 34, 97, 34, 98]⟩ : ByteArray)).bind fun bt152 => (if bt145.2.2 = 0 then (if bt145.2.1 = 0 then (if (bt145.1.length : Int) = 1 then (if 0 < (bt145.1.length : Int) then (if ((rd_T36 bt145.1 0).f0).toList = ([108, 105, 101] : List UInt8) then (if (((rd_T36 bt145.1 0).f1).length : Int) = 3 then (if 1 < (((rd_T36 bt145.1 0).f1).length : Int) then (if (rdOf ByteArray.empty ((rd_T36 bt145.1 0).f1) 1).toList = ([97, 32, 34, 32, 98] : List UInt8) then (if bt150.2 = 0 then (if bt150.1.toList = ([108, 105, 101, 32, 50, 32, 34, 97, 32, 94, 113, 32, 98, 34, 32, 120, 35, 121, 10] : List UInt8) then (if bt152.2.2 = 3 then (some (bt152.2.1 == 2)) else (some false)) else (some false)) else (some false)) else (some false)) else (none)) else (some false)) else (some false)) else (none)) else (some false)) else (some false)) else (some false))))
theorem privitylaw53_awake.mono : ∀ k, LeO (privitylaw53_awake.f k ) (privitylaw53_awake.f (k + 1) ) := by
  intro  k
  unfold privitylaw53_awake.f
  repeat' first
      | (with_reducible exact script_Parse.mono _ _)
      | (with_reducible exact LeO.refl _)
      | (with_reducible exact LeO.none _)
      | (with_reducible refine LeO.ite ?_ ?_)
      | (with_reducible refine LeO.bind ?_ (fun _ => ?_))
      | exact script_Parse.mono _ _
      | exact LeO.none _
      | refine LeO.ite ?_ ?_
      | refine LeO.bind ?_ (fun _ => ?_)
set_option maxHeartbeats 8000000 in
set_option maxRecDepth 100000 in
theorem privitylaw53_awake.callsT (k : Nat)  (r : Bool) (w : World) (hrT : r = true) (h : privitylaw53_awake.f k  = some r) :
    Calls Tryz.prog 8 #[] w fun e w' => e = .returned (.bool r) ∧ Below w.heap.size w w' := by
  have HRT := Aside0.mk hrT
  clear hrT
  have HB := Aside0.mk (Below.refl w.heap.size w)
  have H : ((script_Parse.f k (⟨#[108, 105, 101, 32, 50, 32, 34, 97, 32, 94, 113, 32, 98, 34, 32, 120, 35, 121, 10, 35, 32, 97, 32, 110, 111, 116, 101, 10]⟩ : ByteArray)).bind fun bt145 => ((script_Format.f bt145.1).bind fun bt150 => ((script_Parse.f k (⟨#[97, 10, 108, 105, 101, 32, 34, 97, 34, 98]⟩ : ByteArray)).bind fun bt152 => (if bt145.2.2 = 0 then (if bt145.2.1 = 0 then (if (bt145.1.length : Int) = 1 then (if 0 < (bt145.1.length : Int) then (if ((rd_T36 bt145.1 0).f0).toList = ([108, 105, 101] : List UInt8) then (if (((rd_T36 bt145.1 0).f1).length : Int) = 3 then (if 1 < (((rd_T36 bt145.1 0).f1).length : Int) then (if (rdOf ByteArray.empty ((rd_T36 bt145.1 0).f1) 1).toList = ([97, 32, 34, 32, 98] : List UInt8) then (if bt150.2 = 0 then (if bt150.1.toList = ([108, 105, 101, 32, 50, 32, 34, 97, 32, 94, 113, 32, 98, 34, 32, 120, 35, 121, 10] : List UInt8) then (if bt152.2.2 = 3 then (some (bt152.2.1 == 2)) else (some false)) else (some false)) else (some false)) else (some false)) else (none)) else (some false)) else (some false)) else (none)) else (some false)) else (some false)) else (some false))))) = some r := h
  clear h
  replace H := Option.bind_eq_some_iff.mp H
  obtain ⟨⟨t145, t148, t149⟩, A10, H⟩ := H
  replace H : ((script_Format.f t145).bind fun bt150 => ((script_Parse.f k (⟨#[97, 10, 108, 105, 101, 32, 34, 97, 34, 98]⟩ : ByteArray)).bind fun bt152 => (if t149 = 0 then (if t148 = 0 then (if (t145.length : Int) = 1 then (if 0 < (t145.length : Int) then (if ((rd_T36 t145 0).f0).toList = ([108, 105, 101] : List UInt8) then (if (((rd_T36 t145 0).f1).length : Int) = 3 then (if 1 < (((rd_T36 t145 0).f1).length : Int) then (if (rdOf ByteArray.empty ((rd_T36 t145 0).f1) 1).toList = ([97, 32, 34, 32, 98] : List UInt8) then (if bt150.2 = 0 then (if bt150.1.toList = ([108, 105, 101, 32, 50, 32, 34, 97, 32, 94, 113, 32, 98, 34, 32, 120, 35, 121, 10] : List UInt8) then (if bt152.2.2 = 3 then (some (bt152.2.1 == 2)) else (some false)) else (some false)) else (some false)) else (some false)) else (none)) else (some false)) else (some false)) else (none)) else (some false)) else (some false)) else (some false)))) = some r := H
  have A1 := Aside0.mk A10
  clear A10
  replace H := Option.bind_eq_some_iff.mp H
  obtain ⟨⟨t150, t151⟩, A20, H⟩ := H
  replace H : ((script_Parse.f k (⟨#[97, 10, 108, 105, 101, 32, 34, 97, 34, 98]⟩ : ByteArray)).bind fun bt152 => (if t149 = 0 then (if t148 = 0 then (if (t145.length : Int) = 1 then (if 0 < (t145.length : Int) then (if ((rd_T36 t145 0).f0).toList = ([108, 105, 101] : List UInt8) then (if (((rd_T36 t145 0).f1).length : Int) = 3 then (if 1 < (((rd_T36 t145 0).f1).length : Int) then (if (rdOf ByteArray.empty ((rd_T36 t145 0).f1) 1).toList = ([97, 32, 34, 32, 98] : List UInt8) then (if t151 = 0 then (if t150.toList = ([108, 105, 101, 32, 50, 32, 34, 97, 32, 94, 113, 32, 98, 34, 32, 120, 35, 121, 10] : List UInt8) then (if bt152.2.2 = 3 then (some (bt152.2.1 == 2)) else (some false)) else (some false)) else (some false)) else (some false)) else (none)) else (some false)) else (some false)) else (none)) else (some false)) else (some false)) else (some false))) = some r := H
  have A2 := Aside0.mk A20
  clear A20
  replace H := Option.bind_eq_some_iff.mp H
  obtain ⟨⟨t152, t155, t156⟩, A30, H⟩ := H
  replace H : (if t149 = 0 then (if t148 = 0 then (if (t145.length : Int) = 1 then (if 0 < (t145.length : Int) then (if ((rd_T36 t145 0).f0).toList = ([108, 105, 101] : List UInt8) then (if (((rd_T36 t145 0).f1).length : Int) = 3 then (if 1 < (((rd_T36 t145 0).f1).length : Int) then (if (rdOf ByteArray.empty ((rd_T36 t145 0).f1) 1).toList = ([97, 32, 34, 32, 98] : List UInt8) then (if t151 = 0 then (if t150.toList = ([108, 105, 101, 32, 50, 32, 34, 97, 32, 94, 113, 32, 98, 34, 32, 120, 35, 121, 10] : List UInt8) then (if t156 = 3 then (some (t155 == 2)) else (some false)) else (some false)) else (some false)) else (some false)) else (none)) else (some false)) else (some false)) else (none)) else (some false)) else (some false)) else (some false)) = some r := H
  have A3 := Aside0.mk A30
  clear A30
  by_cases c4 : t149 = 0
  · rw [if_pos c4] at H
    have c4b0 : (t149 == 0) = true := beq_iff_eq.mpr c4
    have c4b1 : (t149 != 0) = false := bne_eq_false_iff_eq.mpr c4
    clear c4
    by_cases c5 : t148 = 0
    · rw [if_pos c5] at H
      have c5b0 : (t148 == 0) = true := beq_iff_eq.mpr c5
      have c5b1 : (t148 != 0) = false := bne_eq_false_iff_eq.mpr c5
      clear c5
      by_cases c6 : (t145.length : Int) = 1
      · rw [if_pos c6] at H
        have c6b0 : ((t145.length : Int) == 1) = true := beq_iff_eq.mpr c6
        have c6b1 : ((t145.length : Int) != 1) = false := bne_eq_false_iff_eq.mpr c6
        clear c6
        by_cases c7 : 0 < (t145.length : Int)
        · rw [if_pos c7] at H
          have c7b0 : decide (0 < (t145.length : Int)) = true := decide_eq_true c7
          have c7b1 : decide (0 < t145.length) = true := decide_eq_true (by omega)
          clear c7
          by_cases c8 : ((rd_T36 t145 0).f0).toList = ([108, 105, 101] : List UInt8)
          · rw [if_pos c8] at H
            have c8b0 : (((rd_T36 t145 0).f0).toList == ([108, 105, 101] : List UInt8)) = true := beq_iff_eq.mpr c8
            have c8b1 : (((rd_T36 t145 0).f0).toList != ([108, 105, 101] : List UInt8)) = false := bne_eq_false_iff_eq.mpr c8
            clear c8
            by_cases c9 : (((rd_T36 t145 0).f1).length : Int) = 3
            · rw [if_pos c9] at H
              have c9b0 : ((((rd_T36 t145 0).f1).length : Int) == 3) = true := beq_iff_eq.mpr c9
              have c9b1 : ((((rd_T36 t145 0).f1).length : Int) != 3) = false := bne_eq_false_iff_eq.mpr c9
              clear c9
              by_cases c10 : 1 < (((rd_T36 t145 0).f1).length : Int)
              · rw [if_pos c10] at H
                have c10b0 : decide (1 < (((rd_T36 t145 0).f1).length : Int)) = true := decide_eq_true c10
                have c10b1 : decide (1 < ((rd_T36 t145 0).f1).length) = true := decide_eq_true (by omega)
                clear c10
                by_cases c11 : (rdOf ByteArray.empty ((rd_T36 t145 0).f1) 1).toList = ([97, 32, 34, 32, 98] : List UInt8)
                · rw [if_pos c11] at H
                  have c11b0 : ((rdOf ByteArray.empty ((rd_T36 t145 0).f1) 1).toList == ([97, 32, 34, 32, 98] : List UInt8)) = true := beq_iff_eq.mpr c11
                  have c11b1 : ((rdOf ByteArray.empty ((rd_T36 t145 0).f1) 1).toList != ([97, 32, 34, 32, 98] : List UInt8)) = false := bne_eq_false_iff_eq.mpr c11
                  clear c11
                  by_cases c12 : t151 = 0
                  · rw [if_pos c12] at H
                    have c12b0 : (t151 == 0) = true := beq_iff_eq.mpr c12
                    have c12b1 : (t151 != 0) = false := bne_eq_false_iff_eq.mpr c12
                    clear c12
                    by_cases c13 : t150.toList = ([108, 105, 101, 32, 50, 32, 34, 97, 32, 94, 113, 32, 98, 34, 32, 120, 35, 121, 10] : List UInt8)
                    · rw [if_pos c13] at H
                      have c13b0 : (t150.toList == ([108, 105, 101, 32, 50, 32, 34, 97, 32, 94, 113, 32, 98, 34, 32, 120, 35, 121, 10] : List UInt8)) = true := beq_iff_eq.mpr c13
                      have c13b1 : (t150.toList != ([108, 105, 101, 32, 50, 32, 34, 97, 32, 94, 113, 32, 98, 34, 32, 120, 35, 121, 10] : List UInt8)) = false := bne_eq_false_iff_eq.mpr c13
                      clear c13
                      by_cases c14 : t156 = 3
                      · rw [if_pos c14] at H
                        have c14b0 : (t156 == 3) = true := beq_iff_eq.mpr c14
                        have c14b1 : (t156 != 3) = false := bne_eq_false_iff_eq.mpr c14
                        clear c14
                        obtain rfl := Option.some.inj H
                        go_enter Tryz.func8, Tryz.ntmps8
                        go_wp2_with (first | ((with_reducible refine gate_callee (f := 9) rfl ?_); refine goesL_ (some 10) rfl rfl Tryz.func9 (by kernel_rfl) rfl #[.string (⟨#[108, 105, 101, 32, 50, 32, 34, 97, 32, 94, 113, 32, 98, 34, 32, 120, 35, 121, 10, 35, 32, 97, 32, 110, 111, 116, 101, 10]⟩ : ByteArray)] rfl (by (try simp only [List.map_toArray, List.map_cons, List.map_nil]); first | done | rfl | (simp only [List.length_drop, List.length_take]; rfl)) ?_; (with_reducible refine (script_Parse.calls k (⟨#[108, 105, 101, 32, 50, 32, 34, 97, 32, 94, 113, 32, 98, 34, 32, 120, 35, 121, 10, 35, 32, 97, 32, 110, 111, 116, 101, 10]⟩ : ByteArray) t145 t148 t149 _ A1.out).mono ?_); rintro e w15 ⟨v146, rfl, ho0, hb⟩; refine ⟨_, rfl, ?_⟩; have n0_ := Aside0.mk (Kd.N_lower (Kd.N_mono (ok' := fun k_ => True) ho0 (fun k_ hk_ => trivial)) (below_size (by repeat (first | (with_reducible first | exact HB.out | apply below_alloc | apply pw_below_drewN | apply below_drew1) | exact HB.out)))); have n1_ := Aside0.mk (below_step (by repeat (first | (with_reducible first | exact HB.out | apply below_alloc | apply pw_below_drewN | apply below_drew1) | exact HB.out)) hb); clear HB; have HO147 := n0_; have HB := n1_; clear n0_ n1_; (try clear hb); (try clear hb2); (try clear hk); (try clear hi); (try clear ho0); obtain ⟨Ao16, co16, eo16⟩ := Kd.N_slice HO147.out; subst eo16) | ((with_reducible refine gate_callee (f := 13) rfl ?_); refine goesL_ (some 16) rfl rfl Tryz.func13 (by kernel_rfl) rfl #[.slice Ao16 t145.length co16] rfl (by (try simp only [List.map_toArray, List.map_cons, List.map_nil]); first | done | rfl | (simp only [List.length_drop, List.length_take]; rfl)) ?_; (with_reducible refine (script_Format.calls _ _ t145 t150 t151 _ ?side1 ?side2 A2.out).mono ?_); (case side1 => repeat (first | exact (Kd.N_reads' HO147.out).2.2 | (with_reducible refine Kd.C_alloc ?_ _) | (with_reducible refine Kd.C_drewN ?_ _) | (with_reducible refine Kd.C_drew ?_))); (case side2 => exact (Kd.N_reads' HO147.out).2.1); rintro e w17 ⟨rfl, hb⟩; refine ⟨_, rfl, ?_⟩; have n0_ := Aside0.mk (Kd.N_below (by (with_reducible repeat (first | apply Kd.N_alloc | apply Kd.N_drewN | apply Kd.N_drew)); exact HO147.out) hb); have n1_ := Aside0.mk (below_step (by repeat (first | (with_reducible first | exact HB.out | apply below_alloc | apply pw_below_drewN | apply below_drew1) | exact HB.out)) hb); clear HO147; clear HB; have HO147 := n0_; have HB := n1_; clear n0_ n1_; (try clear hb); (try clear hb2); (try clear hk); (try clear hi)) | ((with_reducible refine gate_callee (f := 9) rfl ?_); refine goesL_ (some 20) rfl rfl Tryz.func9 (by kernel_rfl) rfl #[.string (⟨#[97, 10, 108, 105, 101, 32, 34, 97, 34, 98]⟩ : ByteArray)] rfl (by (try simp only [List.map_toArray, List.map_cons, List.map_nil]); first | done | rfl | (simp only [List.length_drop, List.length_take]; rfl)) ?_; (with_reducible refine (script_Parse.calls k (⟨#[97, 10, 108, 105, 101, 32, 34, 97, 34, 98]⟩ : ByteArray) t152 t155 t156 _ A3.out).mono ?_); rintro e w18 ⟨v153, rfl, ho0, hb⟩; refine ⟨_, rfl, ?_⟩; have n0_ := Aside0.mk (Kd.N_elder' (by (with_reducible repeat (first | apply Kd.N_alloc | apply Kd.N_drewN | apply Kd.N_drew)); exact HO147.out) (Kd.N_base ho0) hb); have n1_ := Aside0.mk (Kd.N_lower (Kd.N_mono (ok' := fun k_ => some k_ ≠ (.slice Ao16 t145.length co16 : Value).ownBlock) ho0 (fun k_ hk_ => (Kd.fresh' (Kd.N_lt (by (with_reducible repeat (first | apply Kd.N_alloc | apply Kd.N_drewN | apply Kd.N_drew)); exact HO147.out)) k_ hk_))) (below_size (by repeat (first | (with_reducible first | exact HB.out | apply below_alloc | apply pw_below_drewN | apply below_drew1) | exact HB.out)))); have n2_ := Aside0.mk (below_step (by repeat (first | (with_reducible first | exact HB.out | apply below_alloc | apply pw_below_drewN | apply below_drew1) | exact HB.out)) hb); clear HO147; clear HB; have HO147 := n0_; have HO154 := n1_; have HB := n2_; clear n0_ n1_ n2_; (try clear hb); (try clear hb2); (try clear hk); (try clear hi); (try clear ho0); have p157 : 0 ≤ (0 : Int) := (by omega); have q157 : 0 < (t145.length : Int) := of_decide_eq_true (by first | (with_reducible assumption) | assumption); obtain ⟨ad157, A157_1, c157_1, e157, hx157_0, hx157_1, hl157_1, hi157_1⟩ := at_T36 (Kd.N_reads' HO147.out).2.2 0 p157 q157; cases e157; obtain ⟨ce157, hce157, hMe157, hcc157⟩ := Kd.N_get HO147.out z36 0 p157 (by first | exact q157 | exact of_decide_eq_true (by first | (with_reducible assumption) | assumption) | (have e_ := (Kd.N_reads' HO147.out).1; omega)); obtain ⟨ua157_1, uc157_1, rfl, ul157_1, ge157_1⟩ := k36_openF hMe157; have hv157_1 := hcc157 1 _ rfl; rw [add_field _ _ 1 (by omega)] at hv157_1; replace hv157_1 := Option.some.inj (hv157_1.symm.trans hx157_1); injection hv157_1 with hva_ hvn_ hvc_; rw [hva_] at ge157_1; rw [hvc_] at ul157_1; have HL157_1 := Aside0.mk (show Kd.V Kd.string 9 _ w.heap.size _ _ ((rd_T36 t145 0).f1) from Kd.V_mk ul157_1 ge157_1); clear hva_ hvn_ hvc_ ge157_1 ul157_1; clear hcc157 hce157; have qi157 : (0 < t145.length) = True := eq_true (by omega); (try rw [show ((0 : Int)).toNat = 0 from rfl] at hx157_0); (try rw [show 0 * 2 = 0 from rfl] at hx157_0); (try rw [Addr.add_zero'] at hx157_0); (try rw [show ((0 : Int)).toNat = 0 from rfl] at hx157_1); (try rw [show 0 * 2 = 0 from rfl] at hx157_1); (try rw [Addr.add_zero'] at hx157_1); have HR157_1 := Aside0.mk hi157_1; have HC157_1 := Aside0.mk hl157_1; clear hi157_1 hl157_1; replace p157 := eq_true p157; replace q157 := eq_true q157; have p158 : 0 ≤ (0 : Int) := (by omega); have q158 : 0 < (t145.length : Int) := of_decide_eq_true (by first | (with_reducible assumption) | assumption); obtain ⟨ad158, A158_1, c158_1, e158, hx158_0, hx158_1, hl158_1, hi158_1⟩ := at_T36 (Kd.N_reads' HO147.out).2.2 0 p158 q158; obtain rfl : ad157 = ad158 := (by injection e158); obtain ⟨ce158, hce158, hMe158, hcc158⟩ := Kd.N_get HO147.out z36 0 p158 (by first | exact q158 | exact of_decide_eq_true (by first | (with_reducible assumption) | assumption) | (have e_ := (Kd.N_reads' HO147.out).1; omega)); obtain ⟨ua158_1, uc158_1, rfl, ul158_1, ge158_1⟩ := k36_openF hMe158; have hv158_1 := hcc158 1 _ rfl; rw [add_field _ _ 1 (by omega)] at hv158_1; replace hv158_1 := Option.some.inj (hv158_1.symm.trans hx158_1); injection hv158_1 with hva_ hvn_ hvc_; rw [hva_] at ge158_1; rw [hvc_] at ul158_1; have HL158_1 := Aside0.mk (show Kd.V Kd.string 9 _ w.heap.size _ _ ((rd_T36 t145 0).f1) from Kd.V_mk ul158_1 ge158_1); clear hva_ hvn_ hvc_ ge158_1 ul158_1; clear hcc158 hce158; have qi158 : (0 < t145.length) = True := eq_true (by omega); (try rw [show ((0 : Int)).toNat = 0 from rfl] at hx158_0); (try rw [show 0 * 2 = 0 from rfl] at hx158_0); (try rw [Addr.add_zero'] at hx158_0); (try rw [show ((0 : Int)).toNat = 0 from rfl] at hx158_1); (try rw [show 0 * 2 = 0 from rfl] at hx158_1); (try rw [Addr.add_zero'] at hx158_1); have HR158_1 := Aside0.mk hi158_1; have HC158_1 := Aside0.mk hl158_1; clear hi158_1 hl158_1; replace p158 := eq_true p158; replace q158 := eq_true q158; have ea_ := Option.some.inj (hx157_1.symm.trans hx158_1); injection ea_ with ea_ en_ ec_; subst ea_; subst ec_; clear en_; have p159 : 0 ≤ (0 : Int) := (by omega); have q159 : 0 < (t145.length : Int) := of_decide_eq_true (by first | (with_reducible assumption) | assumption); obtain ⟨ad159, A159_1, c159_1, e159, hx159_0, hx159_1, hl159_1, hi159_1⟩ := at_T36 (Kd.N_reads' HO147.out).2.2 0 p159 q159; obtain rfl : ad157 = ad159 := (by injection e159); obtain ⟨ce159, hce159, hMe159, hcc159⟩ := Kd.N_get HO147.out z36 0 p159 (by first | exact q159 | exact of_decide_eq_true (by first | (with_reducible assumption) | assumption) | (have e_ := (Kd.N_reads' HO147.out).1; omega)); obtain ⟨ua159_1, uc159_1, rfl, ul159_1, ge159_1⟩ := k36_openF hMe159; have hv159_1 := hcc159 1 _ rfl; rw [add_field _ _ 1 (by omega)] at hv159_1; replace hv159_1 := Option.some.inj (hv159_1.symm.trans hx159_1); injection hv159_1 with hva_ hvn_ hvc_; rw [hva_] at ge159_1; rw [hvc_] at ul159_1; have HL159_1 := Aside0.mk (show Kd.V Kd.string 9 _ w.heap.size _ _ ((rd_T36 t145 0).f1) from Kd.V_mk ul159_1 ge159_1); clear hva_ hvn_ hvc_ ge159_1 ul159_1; clear hcc159 hce159; have qi159 : (0 < t145.length) = True := eq_true (by omega); (try rw [show ((0 : Int)).toNat = 0 from rfl] at hx159_0); (try rw [show 0 * 2 = 0 from rfl] at hx159_0); (try rw [Addr.add_zero'] at hx159_0); (try rw [show ((0 : Int)).toNat = 0 from rfl] at hx159_1); (try rw [show 0 * 2 = 0 from rfl] at hx159_1); (try rw [Addr.add_zero'] at hx159_1); have HR159_1 := Aside0.mk hi159_1; have HC159_1 := Aside0.mk hl159_1; clear hi159_1 hl159_1; replace p159 := eq_true p159; replace q159 := eq_true q159; have ea_ := Option.some.inj (hx157_1.symm.trans hx159_1); injection ea_ with ea_ en_ ec_; subst ea_; subst ec_; clear en_; have p160 : 0 ≤ (1 : Int) := (by omega); have q160 : 1 < (((rd_T36 t145 0).f1).length : Int) := of_decide_eq_true (by first | (with_reducible assumption) | assumption); obtain ⟨ad160, e160, hx160_0⟩ := Kd.at_string (by repeat (first | (with_reducible exact HR159_1.out) | (with_reducible refine Kd.C_alloc ?_ _) | (with_reducible refine Kd.C_drewN ?_ _) | (with_reducible refine Kd.C_drew ?_) | exact HR159_1.out)) 1 p160 q160; cases e160; (try simp only [show (1 : Int).toNat = 1 from rfl, Nat.reduceMul, Nat.reduceEqDiff, Go.Addr.add, ↓reduceIte] at hx160_0); have qi160 : (1 < ((rd_T36 t145 0).f1).length) = True := eq_true (by omega); (try rw [show ((1 : Int)).toNat = 1 from rfl] at hx160_0); replace p160 := eq_true p160; replace q160 := eq_true q160))
                        go_ret
                        exact ⟨by first | rfl | (simp [errW_none, errW_some] <;> rfl) | (simp [*, errW_none, errW_some] <;> rfl), by repeat (first | (with_reducible first | exact HB.out | apply below_alloc | apply pw_below_drewN | apply below_drew1) | exact HB.out)⟩
                      · rw [if_neg c14] at H
                        exact absurd ((Option.some.inj H).trans HRT.out) Bool.false_ne_true
                    · rw [if_neg c13] at H
                      exact absurd ((Option.some.inj H).trans HRT.out) Bool.false_ne_true
                  · rw [if_neg c12] at H
                    exact absurd ((Option.some.inj H).trans HRT.out) Bool.false_ne_true
                · rw [if_neg c11] at H
                  exact absurd ((Option.some.inj H).trans HRT.out) Bool.false_ne_true
              · rw [if_neg c10] at H
                exact absurd H (by simp)
            · rw [if_neg c9] at H
              exact absurd ((Option.some.inj H).trans HRT.out) Bool.false_ne_true
          · rw [if_neg c8] at H
            exact absurd ((Option.some.inj H).trans HRT.out) Bool.false_ne_true
        · rw [if_neg c7] at H
          exact absurd H (by simp)
      · rw [if_neg c6] at H
        exact absurd ((Option.some.inj H).trans HRT.out) Bool.false_ne_true
    · rw [if_neg c5] at H
      exact absurd ((Option.some.inj H).trans HRT.out) Bool.false_ne_true
  · rw [if_neg c4] at H
    exact absurd ((Option.some.inj H).trans HRT.out) Bool.false_ne_true
end Go.Proofs.YtfgbdcpfbghdoaaGreatDoor.P
end
