/- What is proved here: a part of the proof of ElectionChangedVote: Px67, Px69, Px70. No conditions beside those that each theorem states. -/
import Derived.Test.YtkgdhdjkpnalmaaGreatDoorKECVte4
set_option linter.unusedVariables false
set_option linter.unusedSimpArgs false
section
namespace Go.Proofs.YtkgdhdjkpnalmaaGreatDoor.P
open Go.RowKit Go.Proofs.YtkgdhdjkpnalmaaGreatDoorW.PrintWords Go.Proofs.YtkgdhdjkpnalmaaGreatDoorW.PrintLast Go.Proofs.YtkgdhdjkpnalmaaGreatDoorW.PrintMore
attribute [local go_sem] zcd zca zci zcj zb1 zb2 zcc zcb
def zb0.l0 : Nat→List Int→Int→Int→List Int→Int→Option (List Int)
 | 0,_,_,_,_,_ => none
 | k + 1,x0,x1,x7,x8,x9 => if x9 < x1 then (if x9 < (x0.length : Int) then (if 0≤x9 then (if 0≤x7 then (if (shl .u64 1 x7) = 0 then (none) else (if x8.length < 17592186044416 then (zb0.l0 k x0 x1 x7 (x8 ++ [Int.tmod (rd x0 x9) (shl .u64 1 x7)]) (wrap64 (x9 + 1))) else (none))) else (none)) else (none)) else (if x8.length < 17592186044416 then (zb0.l0 k x0 x1 x7 (x8 ++ [0]) (wrap64 (x9 + 1))) else (none))) else (some x8)
def zb0.f (k : Nat) (l0 : List Int) (a1 : Int) (a2 : Int) : Option (List Int):=(zbd.f k (IntKind.u64.wrap (wrap64 (a2 - 1)))).bind fun t617 => (zb0.l0 k l0 a1 (IntKind.u64.wrap (t617)) ([] : List Int) 0)
set_option maxHeartbeats 8000000 in
set_option maxRecDepth 100000 in
theorem zb0.calls (k : Nat) (A0 : Option Addr) (c0 : Nat) (l0 : List Int) (a1 : Int) (a2 : Int) (r : List Int) (w : World) (hr0 : Kd.C (Kd.int .u64) w A0 l0.length l0) (hc0 : l0.length≤c0) (h : zb0.f k l0 a1 a2 = some r) :
  Calls Tryz.prog 11 #[.slice A0 l0.length c0,.int .i64 a1,.int .i64 a2] w fun e w' => ∃ v0_ : Value,e = .returned (v0_)∧Kd.R (Kd.int .u64) 37 w' w.heap.size (fun _ => True) v0_ r∧Below w.heap.size w w':=by
 have HR0:=zA0 hr0;have HC0:=zA0 hc0;clear hr0 hc0;have HB:=zA0 (Below.refl w.heap.size w);have H : ((zbd.f k (IntKind.u64.wrap (wrap64 (a2 - 1)))).bind fun t617 => (zb0.l0 k l0 a1 (IntKind.u64.wrap (t617)) ([] : List Int) 0)) = some r:=h;clear h;replace H:=Option.bind_eq_some_iff.mp H;obtain ⟨t617,A40,H⟩:=H;replace H : (zb0.l0 k l0 a1 (IntKind.u64.wrap (t617)) ([] : List Int) 0) = some r:=H;have A4:=zA0 A40;clear A40;have H':=zA0 H;clear H;go_enter Tryz.func11,Tryz.ntmps11
 go_wp2_with (first | ((with_reducible refine zav (f:=18) rfl ?_);refine zcf (some 14) rfl rfl Tryz.func18 (by kernel_rfl) rfl #[.int .u64 (IntKind.u64.wrap (wrap64 (a2 - 1)))] rfl zt ?_;(with_reducible refine (zbd.calls k (IntKind.u64.wrap (wrap64 (a2 - 1))) t617 _ A4.out).mono ?_);rintro e w' ⟨rfl,⟨nd,rfl⟩⟩;refine ⟨_,rfl,?_⟩))
 go_loopg [8,9] k (fun kq v8 v9 w' => ∃ (x8_1 : List Int) (x9_1 : Int),v9 = .int .i64 x9_1∧Aside0 (zb0.l0 kq l0 a1 (IntKind.u64.wrap (t617)) x8_1 x9_1 = some r)∧Aside0 (kq≤k)∧Aside0 (Kd.R (Kd.int .u64) 37 w' w.heap.size (fun _ => True) v8 x8_1)∧Aside0 (Below w.heap.size w w'))
 case atStart => exact ⟨(([] : List Int)),(0),yq6,H',⟨Nat.le_refl _⟩,⟨yq44⟩,⟨yq38⟩⟩
 case round =>
  clear H';obtain ⟨x8_1,x9_1,rfl,HA,HK1,HO_8,HB⟩:=hrel
  cases gk with
  | zero => exact absurd HA.out (by simp [zb0.l0])
  | succ k1 =>
   have H:=HA.out;clear HA;simp only [zb0.l0] at H
   by_cases c5 : x9_1 < a1
   ·rw [if_pos c5] at H
    have c5b0 : decide (x9_1 < a1) = true:=decide_eq_true c5;clear c5
    by_cases c6 : x9_1 < (l0.length : Int)
    ·rw [if_pos c6] at H
     have c6b0 : decide (x9_1 < (l0.length : Int)) = true:=decide_eq_true c6;clear c6
     by_cases c7 : 0≤x9_1
     ·rw [if_pos c7] at H
      have c7b0 : decide (0≤x9_1) = true:=decide_eq_true c7;clear c7
      obtain ⟨ji8,hji8⟩ : ∃ j_ : Int,(IntKind.u64.wrap (t617)) = j_:=⟨_,rfl⟩
      replace H : (if 0≤(ji8) then (if (shl .u64 1 (ji8)) = 0 then (none) else (if x8_1.length < 17592186044416 then (zb0.l0 k1 l0 a1 (ji8) (x8_1 ++ [Int.tmod (rd l0 x9_1) (shl .u64 1 (ji8))]) (wrap64 (x9_1 + 1))) else (none))) else (none)) = some r:=by first | (rw [hji8] at H;exact H) | (simp only [hji8] at H ⊢;exact H)
      by_cases c9 : 0≤(ji8)
      ·rw [if_pos c9] at H
       have c9b0:=eq_true c9;have c9b1 : decide (0≤(ji8)) = true:=decide_eq_true c9;clear c9
       obtain ⟨ji10,hji10⟩ : ∃ j_ : Int,(shl .u64 1 (ji8)) = j_:=⟨_,rfl⟩
       replace H : (if (ji10) = 0 then (none) else (if x8_1.length < 17592186044416 then (zb0.l0 k1 l0 a1 (ji8) (x8_1 ++ [Int.tmod (rd l0 x9_1) (ji10)]) (wrap64 (x9_1 + 1))) else (none))) = some r:=by first | (rw [hji10] at H;exact H) | (simp only [hji10] at H ⊢;exact H)
       have hji10_ : (IntKind.u64.wrap (1 * 2 ^ min (ji8).toNat 64)) = ji10:=hji10;have hji10z : (ji8)≤64→(IntKind.u64.wrap (1 * 2 ^ (ji8).toNat)) = ji10:=shl_small hji10
       have hji10u : (IntKind.u64.wrap (2 ^ min (ji8).toNat 64)) = ji10:=by have h_:=hji10_;rw [Int.one_mul] at h_;exact h_
       have hji10v : (ji8)≤64→(IntKind.u64.wrap (2 ^ (ji8).toNat)) = ji10:=fun hle_ => by have h_:=hji10z hle_;rw [Int.one_mul] at h_;exact h_
       by_cases c11 : (ji10) = 0
       ·rw [if_pos c11] at H
        exact absurd H (by simp)
       ·rw [if_neg c11] at H
        have c11b0 : ((ji10) == 0) = false:=beq_eq_false_iff_ne.mpr c11;have c11b1 : ((ji10) != 0) = true:=bne_iff_ne.mpr c11
        by_cases c12 : x8_1.length < 17592186044416
        ·rw [if_pos c12] at H
         have LMc12:=zA0 c12;clear c12
         obtain ⟨y619,hy619⟩ : ∃ y_ : List Int,y_ = (x8_1 ++ [Int.tmod (rd l0 x9_1) (ji10)]):=⟨_,rfl⟩
         replace H : (zb0.l0 k1 l0 a1 (ji8) y619 (wrap64 (x9_1 + 1))) = some r:=yr hy619 H
         have Ny619:=zA0 hy619;clear hy619;(try rw [← hji8] at H);have H':=zA0 H;clear H;have p618 : 0≤(x9_1 : Int):=of_decide_eq_true yq3;have q618 : x9_1 < (l0.length : Int):=of_decide_eq_true yq3;obtain ⟨ad618,e618,hx618_0⟩:=Kd.at_int HR0.out x9_1 p618 q618;cases e618;replace hx618_0:=(HB.out.cell (World.block_lt_of_cell? w _ hx618_0)).trans hx618_0;replace p618:=eq_true p618;replace q618:=eq_true q618
         go_wp2_with (first | ((with_reducible refine zdn (b:=.append) (xs:=#[.tmp 32,.tmp 34]) rfl ?_);at_builtin;refine Kd.R_append (Kd.int .u64) (w0:=w) w.heap.size rfl (.tmp 32) (.tmp 34) 23 37 (.int .u64 0) 8 rfl Tryz.underlying23 info37 rfl (by decide) (by omega) u8 x8_1 (Int.tmod (rd l0 x9_1) (ji10)) [.int .u64 (Int.tmod (rd l0 x9_1) (ji10))] (fun _ => True) (fun _ => False) rfl rfl ?aP (fun _ hk => hk.elim) ?aF ?aO ?aB ?aS ?aL ?_;(case aP => exact rfl);(case aB => exact (zs0 HB));(case aF => exact (fun _ _ => trivial));(case aO => exact (zrR HO_8));(case aS => exact (zb7 (zs0 HB)));(case aL => have:=LMc12.out;omega);intro v620 w13 ho hb hg hat;rw [← Ny619.out] at ho;have n0_:=zA0 (hb);have n1_:=zA0 (ho);clear HB HO_8;revert n0_ n1_;intro HB HO621;clear ho hb hg hat))
         (try simp only [← hji8])
         go_roundg k1
         case measure => have:=HK1.out;omega
         case rel => exact ⟨(y619),(wrap64 (x9_1 + 1)),yq6,H',⟨yq95⟩,⟨yp1 HO621⟩,⟨yq38⟩⟩
        ·rw [if_neg c12] at H
         exact absurd H (by simp)
      ·rw [if_neg c9] at H
       exact absurd H (by simp)
     ·rw [if_neg c7] at H
      exact absurd H (by simp)
    ·rw [if_neg c6] at H
     have c6b0 : decide (x9_1 < (l0.length : Int)) = false:=decide_eq_false c6;clear c6
     by_cases c14 : x8_1.length < 17592186044416
     ·rw [if_pos c14] at H
      have LMc14:=zA0 c14;clear c14
      obtain ⟨y622,hy622⟩ : ∃ y_ : List Int,y_ = (x8_1 ++ [0]):=⟨_,rfl⟩
      replace H : (zb0.l0 k1 l0 a1 (IntKind.u64.wrap (t617)) y622 (wrap64 (x9_1 + 1))) = some r:=yr hy622 H
      have Ny622:=zA0 hy622;clear hy622;(try rw [← hji8] at H);have H':=zA0 H;clear H
      go_wp2_with (first | ((with_reducible refine zdn (b:=.append) (xs:=#[.tmp 32,.tmp 34]) rfl ?_);at_builtin;refine Kd.R_append (Kd.int .u64) (w0:=w) w.heap.size rfl (.tmp 32) (.tmp 34) 23 37 (.int .u64 0) 8 rfl Tryz.underlying23 info37 rfl (by decide) (by omega) u8 x8_1 0 [.int .u64 0] (fun _ => True) (fun _ => False) rfl rfl ?aP (fun _ hk => hk.elim) ?aF ?aO ?aB ?aS ?aL ?_;(case aP => exact rfl);(case aB => exact (zs0 HB));(case aF => exact (fun _ _ => trivial));(case aO => exact (zrR HO_8));(case aS => exact (zb7 (zs0 HB)));(case aL => have:=LMc14.out;omega);intro v623 w15 ho hb hg hat;rw [← Ny622.out] at ho;have n0_:=zA0 (hb);have n1_:=zA0 (ho);clear HB HO_8;revert n0_ n1_;intro HB HO624;clear ho hb hg hat))
      (try simp only [← hji8])
      go_roundg k1
      case measure => have:=HK1.out;omega
      case rel => exact ⟨(y622),(wrap64 (x9_1 + 1)),yq6,H',⟨yq95⟩,⟨yp1 HO624⟩,⟨yq38⟩⟩
     ·rw [if_neg c14] at H
      exact absurd H (by simp)
   ·rw [if_neg c5] at H
    have c5b0 : decide (x9_1 < a1) = false:=decide_eq_false c5;clear c5;obtain rfl:=Option.some.inj H;go_wp2;go_ret;exact ⟨_,yq7,yp1 HO_8,zs0 HB⟩
def zao.l0 : Nat→List Int→List Int→Int→Option (Bool)
 | 0,_,_,_ => none
 | k + 1,x0,x1,x5 => if x5 < (x0.length : Int) then (if 0≤x5 then (if x5 < (x1.length : Int) then (if (rd x0 x5) = (rd x1 x5) then (zao.l0 k x0 x1 (wrap64 (x5 + 1))) else (some false)) else (none)) else (none)) else (some true)
def zao.f (k : Nat) (l0 : List Int) (l1 : List Int) : Option (Bool):=if (l0.length : Int) = (l1.length : Int) then (zao.l0 k l0 l1 0) else (some false)
theorem zao.mono_l : ∀ k,(∀ y0 y1 y2,LeO (zao.l0 k y0 y1 y2) (zao.l0 (k + 1) y0 y1 y2))
 | 0 => fun _ _ _ r h => by simp [zao.l0] at h
 | k + 1 => by
  have ih0:=zao.mono_l k
  ·intro y0 y1 y2
   unfold zao.l0
   exact yq11
theorem zao.mono : ∀ a0 a1 k,LeO (zao.f k a0 a1) (zao.f (k + 1) a0 a1):=by
 intro a0 a1 k;have ih0:=zao.mono_l k;unfold zao.f
 exact yq11
set_option maxHeartbeats 8000000 in
set_option maxRecDepth 100000 in
theorem zao.calls (k : Nat) (A0 : Option Addr) (c0 : Nat) (l0 : List Int) (A1 : Option Addr) (c1 : Nat) (l1 : List Int) (r : Bool) (w : World) (hr0 : Kd.C (Kd.int .u64) w A0 l0.length l0) (hc0 : l0.length≤c0) (hr1 : Kd.C (Kd.int .u64) w A1 l1.length l1) (hc1 : l1.length≤c1) (h : zao.f k l0 l1 = some r) :
  Calls Tryz.prog 15 #[.slice A0 l0.length c0,.slice A1 l1.length c1] w fun e w' => e = .returned (.bool r)∧zdl w w':=by
 have HR0:=zA0 hr0;have HC0:=zA0 hc0;clear hr0 hc0;have HR1:=zA0 hr1;have HC1:=zA0 hc1;clear hr1 hc1;have H : (if (l0.length : Int) = (l1.length : Int) then (zao.l0 k l0 l1 0) else (some false)) = some r:=h;clear h
 by_cases c3 : (l0.length : Int) = (l1.length : Int)
 ·rw [if_pos c3] at H
  have c3b0 : ((l0.length : Int) == (l1.length : Int)) = true:=beq_iff_eq.mpr c3;have c3b1 : ((l0.length : Int) != (l1.length : Int)) = false:=bne_eq_false_iff_eq.mpr c3
  have c3b2 : (l0.length == l1.length) = true:=by first | simpa using c3 | (simp at c3 ⊢;omega)
  clear c3;have H':=zA0 H;clear H;go_enter Tryz.func15,Tryz.ntmps15;go_wp2
  repeat (go_quiet (fail);try go_wp2)
  go_loopg [5] k (fun kq v5 w' => ∃ (x5_1 : Int),v5 = .int .i64 x5_1∧Aside0 (zao.l0 kq l0 l1 x5_1 = some r)∧Aside0 (kq≤k)∧zdl w w')
  case atStart => exact ⟨(0),yq6,H',⟨Nat.le_refl _⟩,yq17⟩
  case round =>
   clear H';obtain ⟨x5_1,rfl,HA,HK1,⟨m1,rfl⟩⟩:=hrel
   cases gk with
   | zero => exact absurd HA.out (by simp [zao.l0])
   | succ k1 =>
    have H:=HA.out;clear HA;simp only [zao.l0] at H
    by_cases c4 : x5_1 < (l0.length : Int)
    ·rw [if_pos c4] at H
     have c4b0 : decide (x5_1 < (l0.length : Int)) = true:=decide_eq_true c4;clear c4
     by_cases c5 : 0≤x5_1
     ·rw [if_pos c5] at H
      have c5b0 : decide (0≤x5_1) = true:=decide_eq_true c5;clear c5
      by_cases c6 : x5_1 < (l1.length : Int)
      ·rw [if_pos c6] at H
       have c6b0 : decide (x5_1 < (l1.length : Int)) = true:=decide_eq_true c6;clear c6
       by_cases c7 : (rd l0 x5_1) = (rd l1 x5_1)
       ·rw [if_pos c7] at H
        have c7b0 : ((rd l0 x5_1) == (rd l1 x5_1)) = true:=beq_iff_eq.mpr c7;have c7b1 : ((rd l0 x5_1) != (rd l1 x5_1)) = false:=bne_eq_false_iff_eq.mpr c7;clear c7;have H':=zA0 H;clear H;have p632 : 0≤(x5_1 : Int):=of_decide_eq_true yq3;have q632 : x5_1 < (l0.length : Int):=of_decide_eq_true yq3;obtain ⟨ad632,e632,hx632_0⟩:=Kd.at_int HR0.out x5_1 p632 q632;cases e632;replace p632:=eq_true p632;replace q632:=eq_true q632;have p633 : 0≤(x5_1 : Int):=of_decide_eq_true yq3;have q633 : x5_1 < (l1.length : Int):=of_decide_eq_true yq3;obtain ⟨ad633,e633,hx633_0⟩:=Kd.at_int HR1.out x5_1 p633 q633;cases e633;replace p633:=eq_true p633;replace q633:=eq_true q633;go_wp2
        repeat (go_quiet (fail);try go_wp2)
        go_roundg k1
        case measure => have:=HK1.out;omega
        case rel => exact ⟨(wrap64 (x5_1 + 1)),yq6,H',⟨yq95⟩,yq17⟩
       ·rw [if_neg c7] at H
        have c7b0 : ((rd l0 x5_1) == (rd l1 x5_1)) = false:=beq_eq_false_iff_ne.mpr c7;have c7b1 : ((rd l0 x5_1) != (rd l1 x5_1)) = true:=bne_iff_ne.mpr c7;obtain rfl:=Option.some.inj H;have p632 : 0≤(x5_1 : Int):=of_decide_eq_true yq3;have q632 : x5_1 < (l0.length : Int):=of_decide_eq_true yq3;obtain ⟨ad632,e632,hx632_0⟩:=Kd.at_int HR0.out x5_1 p632 q632;cases e632;replace p632:=eq_true p632;replace q632:=eq_true q632;have p633 : 0≤(x5_1 : Int):=of_decide_eq_true yq3;have q633 : x5_1 < (l1.length : Int):=of_decide_eq_true yq3;obtain ⟨ad633,e633,hx633_0⟩:=Kd.at_int HR1.out x5_1 p633 q633;cases e633;replace p633:=eq_true p633;replace q633:=eq_true q633;go_wp2
        repeat (go_quiet (fail);try go_wp2)
        go_ret;exact ⟨yq6,yq17⟩
      ·rw [if_neg c6] at H
       exact absurd H (by simp)
     ·rw [if_neg c5] at H
      exact absurd H (by simp)
    ·rw [if_neg c4] at H
     have c4b0 : decide (x5_1 < (l0.length : Int)) = false:=decide_eq_false c4;clear c4;obtain rfl:=Option.some.inj H;go_wp2
     repeat (go_quiet (fail);try go_wp2)
     go_ret;exact ⟨yq6,yq17⟩
 ·rw [if_neg c3] at H
  have c3b0 : ((l0.length : Int) == (l1.length : Int)) = false:=beq_eq_false_iff_ne.mpr c3;have c3b1 : ((l0.length : Int) != (l1.length : Int)) = true:=bne_iff_ne.mpr c3
  have c3b2 : (l0.length == l1.length) = false:=by first | simpa using c3 | (simp at c3 ⊢;omega)
  obtain rfl:=Option.some.inj H;go_enter Tryz.func15,Tryz.ntmps15;go_wp2
  repeat (go_quiet (fail);try go_wp2)
  go_ret;exact ⟨yq6,yq17⟩
def election_Tally.l0 : Nat→Int→List Int→List Int→Int→Int→Option (List Int)
 | 0,_,_,_,_,_ => none
 | k + 1,x1,x5,x10,x11,x12 => if x12 < x11 then (if 0≤x12 then (if x12 < (x10.length : Int) then (if (rd x10 x12) < (IntKind.u64.wrap (x1)) then (if 0≤(rd x10 x12) then (if (rd x10 x12) < (x5.length : Int) then (election_Tally.l0 k x1 (x5.set ((rd x10 x12) : Int).toNat (IntKind.u64.wrap ((rd x5 (rd x10 x12)) + 1))) x10 x11 (wrap64 (x12 + 1))) else (none)) else (none)) else (election_Tally.l0 k x1 x5 x10 x11 (wrap64 (x12 + 1)))) else (none)) else (none)) else (some x5)
def election_Tally.f (k : Nat) (l0 : List Int) (a1 : Int) : Option (List Int):=if 0≤a1 then (if (a1 : Int).toNat≤35184372088832 then (election_Tally.l0 k a1 (List.replicate (a1 : Int).toNat 0) l0 (l0.length : Int) 0) else (none)) else (none)
theorem election_Tally.mono_l : ∀ k,(∀ y0 y1 y2 y3 y4,LeO (election_Tally.l0 k y0 y1 y2 y3 y4) (election_Tally.l0 (k + 1) y0 y1 y2 y3 y4))
 | 0 => fun _ _ _ _ _ r h => by simp [election_Tally.l0] at h
 | k + 1 => by
  have ih0:=election_Tally.mono_l k
  ·intro y0 y1 y2 y3 y4
   unfold election_Tally.l0
   exact yq11
theorem election_Tally.mono : ∀ a0 a1 k,LeO (election_Tally.f k a0 a1) (election_Tally.f (k + 1) a0 a1):=by
 intro a0 a1 k;have ih0:=election_Tally.mono_l k;unfold election_Tally.f
 exact yq11
set_option maxHeartbeats 8000000 in
set_option maxRecDepth 100000 in
theorem election_Tally.calls (k : Nat) (A0 : Option Addr) (c0 : Nat) (l0 : List Int) (a1 : Int) (r : List Int) (w : World) (hr0 : Kd.C (Kd.int .u64) w A0 l0.length l0) (hc0 : l0.length≤c0) (h : election_Tally.f k l0 a1 = some r) :
  Calls Tryz.prog 17 #[.slice A0 l0.length c0,.int .i64 a1] w fun e w' => ∃ v0_ : Value,e = .returned (v0_)∧Kd.R (Kd.int .u64) 37 w' w.heap.size (fun _ => True) v0_ r∧Below w.heap.size w w':=by
 have HR0:=zA0 hr0;have HC0:=zA0 hc0;clear hr0 hc0;have HB:=zA0 (Below.refl w.heap.size w);have H : (if 0≤a1 then (if (a1 : Int).toNat≤35184372088832 then (election_Tally.l0 k a1 (List.replicate (a1 : Int).toNat 0) l0 (l0.length : Int) 0) else (none)) else (none)) = some r:=h;clear h
 by_cases c3 : 0≤a1
 ·rw [if_pos c3] at H
  have c3b0:=eq_true c3;have c3b1 : decide (0≤a1) = true:=decide_eq_true c3;clear c3
  by_cases c4 : (a1 : Int).toNat≤35184372088832
  ·rw [if_pos c4] at H
   have c4b0:=eq_true c4;have c4b1 : decide ((a1 : Int).toNat≤35184372088832) = true:=decide_eq_true c4;clear c4
   obtain ⟨y634,hy634⟩ : ∃ y_ : List Int,y_ = (List.replicate (a1 : Int).toNat 0):=⟨_,rfl⟩
   replace H : (election_Tally.l0 k a1 y634 l0 (l0.length : Int) 0) = some r:=yr hy634 H
   have Ny634:=zA0 hy634;clear hy634;have H':=zA0 H;clear H;go_enter Tryz.func17,Tryz.ntmps17
   go_wp2_with (first | ((with_reducible refine zbm (N:=9) rfl ?_);refine Kd.R_make (Kd.int .u64) _ 37 rfl (N:=9) rfl 23 _ _ rfl a1 rfl rfl Tryz.underlying23 (.int .u64 0) 8 info37 rfl (by decide) (by omega) 0 (ok:=fun _ => True) (okp:=fun _ => True) rfl (fun _ hk => hk) trivial (of_decide_eq_true yq3) (Nat.le_trans (Nat.mul_le_mul_right _ (of_decide_eq_true yq3 : a1.toNat≤35184372088832)) (by omega)) (Below.refl _ _) (Nat.le_refl _) ?_;intro v635 w5 ho6 hb hg_ hnew_;clear hg_ hnew_;(first | rw [← Ny634.out] at ho6 | (simp only [Int.reduceToNat] at ho6;rw [← Ny634.out] at ho6));have n0_:=zA0 (Kd.R_lower ho6 (zb7 (zs0 HB)));have n1_:=zA0 (zaj (zs0 HB) hb);clear HB;revert n0_ n1_;intro HO636 HB;clear hb ho6))
   go_loopg [12] k (fun kq v12 w' => ∃ (x5_1 : List Int) (x12_1 : Int),v12 = .int .i64 x12_1∧Aside0 (election_Tally.l0 kq a1 x5_1 l0 (l0.length : Int) x12_1 = some r)∧Aside0 (kq≤k)∧Aside0 (Kd.R (Kd.int .u64) 37 w' w.heap.size (fun _ => True) v635 x5_1)∧Aside0 (Below w.heap.size w w'))
   case atStart => exact ⟨(y634),(0),yq6,H',⟨Nat.le_refl _⟩,⟨yp1 HO636⟩,⟨yq38⟩⟩
   case round =>
    clear H';obtain ⟨x5_1,x12_1,rfl,HA,HK1,HO_5,HB⟩:=hrel
    cases gk with
    | zero => exact absurd HA.out (by simp [election_Tally.l0])
    | succ k1 =>
     have H:=HA.out;clear HA;simp only [election_Tally.l0] at H
     by_cases c7 : x12_1 < (l0.length : Int)
     ·rw [if_pos c7] at H
      have c7b0 : decide (x12_1 < (l0.length : Int)) = true:=decide_eq_true c7;clear c7
      by_cases c8 : 0≤x12_1
      ·rw [if_pos c8] at H
       have c8b0 : decide (0≤x12_1) = true:=decide_eq_true c8;clear c8
       by_cases c9 : x12_1 < (l0.length : Int)
       ·rw [if_pos c9] at H
        have c9b0 : decide (x12_1 < (l0.length : Int)) = true:=decide_eq_true c9;clear c9
        by_cases c10 : (rd l0 x12_1) < (IntKind.u64.wrap (a1))
        ·rw [if_pos c10] at H
         have c10b0 : decide ((rd l0 x12_1) < (IntKind.u64.wrap (a1))) = true:=decide_eq_true c10;clear c10
         by_cases c11 : 0≤(rd l0 x12_1)
         ·rw [if_pos c11] at H
          have c11b0 : decide (0≤(rd l0 x12_1)) = true:=decide_eq_true c11;clear c11
          by_cases c12 : (rd l0 x12_1) < (x5_1.length : Int)
          ·rw [if_pos c12] at H
           have c12b0 : decide ((rd l0 x12_1) < (x5_1.length : Int)) = true:=decide_eq_true c12;clear c12
           obtain ⟨y639,hy639⟩ : ∃ y_ : List Int,y_ = (x5_1.set ((rd l0 x12_1) : Int).toNat (IntKind.u64.wrap ((rd x5_1 (rd l0 x12_1)) + 1))):=⟨_,rfl⟩
           replace H : (election_Tally.l0 k1 a1 y639 l0 (l0.length : Int) (wrap64 (x12_1 + 1))) = some r:=yr hy639 H
           have Ny639:=zA0 hy639;clear hy639;have H':=zA0 H;clear H;have p637 : 0≤(x12_1 : Int):=of_decide_eq_true yq3;have q637 : x12_1 < (l0.length : Int):=of_decide_eq_true yq3;obtain ⟨ad637,e637,hx637_0⟩:=Kd.at_int HR0.out x12_1 p637 q637;cases e637;replace hx637_0:=(HB.out.cell (World.block_lt_of_cell? w _ hx637_0)).trans hx637_0;replace p637:=eq_true p637;replace q637:=eq_true q637;obtain ⟨Ao14,co14,eo14⟩:=Kd.R_slice HO_5.out;subst eo14;have p638 : 0≤((rd l0 x12_1) : Int):=of_decide_eq_true yq3;have q638 : (rd l0 x12_1) < (x5_1.length : Int):=of_decide_eq_true yq3;obtain ⟨ad638,e638,hx638_0⟩:=Kd.at_int (Kd.R_reads' HO_5.out).2.2 (rd l0 x12_1) p638 q638;cases e638;replace p638:=eq_true p638;replace q638:=eq_true q638;have p13 : 0≤((rd l0 x12_1) : Int):=of_decide_eq_true yq3;have q13 : ((rd l0 x12_1) : Int) < ((x5_1.length : Int) : Int):=of_decide_eq_true yq3;obtain ⟨go13,co13,eo13,gb13,gl13,cl13,HG13⟩:=Kd.R_form HO_5.out (by omega)
           (first | cases eo13 | (injection eo13 with ea_ en_ ec_;(first | subst ea_ | (injection ea_ with ea_;subst ea_));subst ec_;clear en_))
           have GB13:=zA0 gb13;have GG13:=zA0 HG13;clear gb13 gl13 HG13
           (first | simp only [zdz] at hx638_0 | skip)
           obtain ⟨hx13_0,hf13_0⟩:=Kd.R_celln 0 HO_5.out ((rd l0 x12_1) : Int) p13 q13;replace p13:=eq_true p13;replace q13:=eq_true q13;have HP15:=Kd.R_putg HO_5.out ((rd l0 x12_1) : Int) (IntKind.u64.wrap ((rd x5_1 (rd l0 x12_1)) + 1))
           go_wp2_with (first | ((with_reducible refine gate_store (t:=37) (p:=25) rfl ?_);refine store_event (t:=37) (p:=25) (v:=?vo_w16) (w1:=(wr.setCell ⟨go13,((rd l0 x12_1) : Int).toNat,none⟩ (.int .u64 (IntKind.u64.wrap ((rd x5_1 (rd l0 x12_1)) + 1))))) ?hg ?ho ?hn ?hr ?_;(case ho => rfl);(case hg => rfl);(case hn => rfl);(case hr => first | (go_simp;done) | (go_simp;rfl));intro w16 hw;have hg : wr.grownBy w16 (some go13):=(by rw [hw];exact HP15.2);have hp_ : Kd.R (Kd.int .u64) 37 w16 w.heap.size (fun _ => True) (.slice (some ⟨go13,0,none⟩) x5_1.length co14) y639:=(by rw [hw,Ny639.out];exact HP15.1);clear HP15;have n0_:=zA0 (hp_);have n1_:=zA0 ((by rw [hw];exact zba (HB.out) GB13.out : Below w.heap.size w w16));clear HO_5 HB;revert n0_ n1_;intro HO_5 HB;clear hg hw hp_))
           go_roundg k1
           case measure => have:=HK1.out;omega
           case rel => exact ⟨(y639),(wrap64 (x12_1 + 1)),yq6,H',⟨yq95⟩,⟨yp1 HO_5⟩,⟨yq38⟩⟩
          ·rw [if_neg c12] at H
           exact absurd H (by simp)
         ·rw [if_neg c11] at H
          exact absurd H (by simp)
        ·rw [if_neg c10] at H
         have c10b0 : decide ((rd l0 x12_1) < (IntKind.u64.wrap (a1))) = false:=decide_eq_false c10;clear c10;have H':=zA0 H;clear H;have p637 : 0≤(x12_1 : Int):=of_decide_eq_true yq3;have q637 : x12_1 < (l0.length : Int):=of_decide_eq_true yq3;obtain ⟨ad637,e637,hx637_0⟩:=Kd.at_int HR0.out x12_1 p637 q637;cases e637;replace hx637_0:=(HB.out.cell (World.block_lt_of_cell? w _ hx637_0)).trans hx637_0;replace p637:=eq_true p637;replace q637:=eq_true q637;go_wp2
         go_roundg k1
         case measure => have:=HK1.out;omega
         case rel => exact ⟨(x5_1),(wrap64 (x12_1 + 1)),yq6,H',⟨yq95⟩,⟨yp1 HO_5⟩,⟨yq38⟩⟩
       ·rw [if_neg c9] at H
        exact absurd H (by simp)
      ·rw [if_neg c8] at H
       exact absurd H (by simp)
     ·rw [if_neg c7] at H
      have c7b0 : decide (x12_1 < (l0.length : Int)) = false:=decide_eq_false c7;clear c7;obtain rfl:=Option.some.inj H;go_wp2;go_ret;exact ⟨_,yq7,yp1 HO_5,zs0 HB⟩
  ·rw [if_neg c4] at H
   exact absurd H (by simp)
 ·rw [if_neg c3] at H
  exact absurd H (by simp)
end Go.Proofs.YtkgdhdjkpnalmaaGreatDoor.P
end
