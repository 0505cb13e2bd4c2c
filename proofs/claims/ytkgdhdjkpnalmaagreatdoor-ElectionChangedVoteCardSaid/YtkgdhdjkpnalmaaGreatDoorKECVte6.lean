/- What is proved here: a part of the proof of ElectionChangedVote: Px17, Px18, Px19, Px20. No conditions beside those that each theorem states. -/
import Derived.Test.YtkgdhdjkpnalmaaGreatDoorKECVte4
set_option linter.unusedVariables false
set_option linter.unusedSimpArgs false
section
namespace Go.Proofs.YtkgdhdjkpnalmaaGreatDoor.P
open Go.RowKit Go.Proofs.YtkgdhdjkpnalmaaGreatDoorW.PrintWords Go.Proofs.YtkgdhdjkpnalmaaGreatDoorW.PrintLast Go.Proofs.YtkgdhdjkpnalmaaGreatDoorW.PrintMore
attribute [local go_sem] zcd zca zci zcj zb1 zb2 zcc zcb
mutual
def zal.l0 : Nat→ByteArray→Int→Option (Int)
 | 0,_,_ => none
 | k + 1,x0,x3 => if x3 < (x0.size : Int) then (if 0≤x3 then (if (bt x0 x3) = 32 then (zal.j1 k x0 x3 true) else (if (bt x0 x3) = 9 then (zal.j1 k x0 x3 true) else (zal.j1 k x0 x3 ((bt x0 x3) == 10)))) else (none)) else (some x3)
def zal.j1 : Nat→ByteArray→Int→Bool→Option (Int)
 | 0,_,_,_ => none
 | k + 1,x0,x3,x9 => if x9 = true then (zal.l0 k x0 (wrap64 (x3 + 1))) else (if (wrap64 (x3 + 1)) < (x0.size : Int) then (if 0≤x3 then (if x3≤(wrap64 (x3 + 2)) then (if (wrap64 (x3 + 2))≤(x0.size : Int) then (zal.j2 k x3 ((x0.extract (x3 : Int).toNat ((wrap64 (x3 + 2)) : Int).toNat).toList == ([47,47] : List UInt8))) else (none)) else (none)) else (none)) else (zal.j2 k x3 false))
def zal.j2 : Nat→Int→Bool→Option (Int)
 | 0,_,_ => none
 | k + 1,x3,x28 => if x28 = true then (zal.l1 k) else (some x3)
def zal.l1 : Nat→Option (Int)
 | 0 => none
 | k + 1 => none
end
def zal.f (k : Nat) (a0 : ByteArray) : Option (Int):=zal.l0 k a0 0
theorem zal.mono_l : ∀ k,(∀ y0 y1,LeO (zal.l0 k y0 y1) (zal.l0 (k + 1) y0 y1))∧(∀ y0 y1 y2,LeO (zal.j1 k y0 y1 y2) (zal.j1 (k + 1) y0 y1 y2))∧(∀ y0 y1,LeO (zal.j2 k y0 y1) (zal.j2 (k + 1) y0 y1))∧(LeO (zal.l1 k ) (zal.l1 (k + 1) ))
 | 0 => ⟨fun _ _ r h => by simp [zal.l0] at h,fun _ _ _ r h => by simp [zal.j1] at h,fun _ _ r h => by simp [zal.j2] at h,fun r h => by simp [zal.l1] at h⟩
 | k + 1 => by
  obtain ⟨ih0,ih1,ih2,ih3⟩:=zal.mono_l k;refine ⟨?_,?_,?_,?_⟩
  ·intro y0 y1
   unfold zal.l0
   exact yq25
  ·intro y0 y1 y2
   unfold zal.j1
   exact yq25
  ·intro y0 y1
   unfold zal.j2
   exact yq25
  ·skip
   unfold zal.l1
   exact yq25
theorem zal.mono : ∀ a0 k,LeO (zal.f k a0) (zal.f (k + 1) a0):=by
 intro a0 k;obtain ⟨ih0,ih1,ih2,ih3⟩:=zal.mono_l k;unfold zal.f
 exact yq25
set_option maxHeartbeats 8000000 in
set_option maxRecDepth 100000 in
theorem zal.calls (k : Nat) (a0 : ByteArray) (r : Int) (w : World) (h : zal.f k a0 = some r) :
  Calls Tryz.prog 38 #[.string a0] w fun e w' => e = .returned (.int .i64 r)∧zdl w w':=by
 have H : (zal.l0 k a0 0) = some r:=h;clear h;have H':=zA0 H;clear H;go_enter Tryz.func38,Tryz.ntmps38;go_wp2
 go_loopg [3] k (fun kq v3 w' => ∃ (x3_1 : Int),v3 = .int .i64 x3_1∧Aside0 (zal.l0 kq a0 x3_1 = some r)∧Aside0 (kq≤k)∧zdl w w')
 case atStart => exact ⟨(0),yq6,H',⟨Nat.le_refl _⟩,yq17⟩
 case round =>
  clear H';obtain ⟨x3_1,rfl,HA,HK1,⟨m1,rfl⟩⟩:=hrel
  cases gk with
  | zero => exact absurd HA.out (by simp [zal.l0])
  | succ k1 =>
   have H:=HA.out;clear HA;simp only [zal.l0] at H
   by_cases c2 : x3_1 < (a0.size : Int)
   ·rw [if_pos c2] at H
    have c2b0 : decide (x3_1 < (a0.size : Int)) = true:=decide_eq_true c2;clear c2;have HC3:=zA0 H;clear H
    go_upto_region 4 with (fail)
    go_cut [9] (fun v9 wc => ∃ (kq : Nat) (x9_2 : Bool),v9 = .bool x9_2∧Aside0 (zal.j1 kq a0 x3_1 x9_2 = some r)∧Aside0 (kq≤k1)∧zdl w wc)
    case first =>
     have H:=HC3.out;clear HC3
     by_cases c4 : 0≤x3_1
     ·rw [if_pos c4] at H
      have c4b0 : decide (0≤x3_1) = true:=decide_eq_true c4;clear c4
      (first | rw [c4b0] | (simp only [zc7,zdc];rw [c4b0]) | skip)
      by_cases c6 : (bt a0 x3_1) = 32
      ·rw [if_pos c6] at H
       have c6b0 : ((bt a0 x3_1) == 32) = true:=beq_iff_eq.mpr c6;have c6b1 : ((bt a0 x3_1) != 32) = false:=bne_eq_false_iff_eq.mpr c6;clear c6;have H':=zA0 H;clear H;have p5 : 0≤(x3_1 : Int):=of_decide_eq_true yq3;have q5 : x3_1 < (a0.size : Int):=of_decide_eq_true yq3;have hx5:=zd8 a0 x3_1;replace p5:=eq_true p5;replace q5:=eq_true q5;go_wp2
       go_meet
       case rel => exact ⟨_,(true),yq6,H',⟨yq101⟩,yq17⟩
      ·rw [if_neg c6] at H
       have c6b0 : ((bt a0 x3_1) == 32) = false:=beq_eq_false_iff_ne.mpr c6;have c6b1 : ((bt a0 x3_1) != 32) = true:=bne_iff_ne.mpr c6
       by_cases c8 : (bt a0 x3_1) = 9
       ·rw [if_pos c8] at H
        have c8b0 : ((bt a0 x3_1) == 9) = true:=beq_iff_eq.mpr c8;have c8b1 : ((bt a0 x3_1) != 9) = false:=bne_eq_false_iff_eq.mpr c8;clear c8;have H':=zA0 H;clear H;have p5 : 0≤(x3_1 : Int):=of_decide_eq_true yq3;have q5 : x3_1 < (a0.size : Int):=of_decide_eq_true yq3;have hx5:=zd8 a0 x3_1;replace p5:=eq_true p5;replace q5:=eq_true q5;have p7 : 0≤(x3_1 : Int):=of_decide_eq_true yq3;have q7 : x3_1 < (a0.size : Int):=of_decide_eq_true yq3;have hx7:=zd8 a0 x3_1;replace p7:=eq_true p7;replace q7:=eq_true q7;go_wp2
        go_meet
        case rel => exact ⟨_,(true),yq6,H',⟨yq101⟩,yq17⟩
       ·rw [if_neg c8] at H
        have c8b0 : ((bt a0 x3_1) == 9) = false:=beq_eq_false_iff_ne.mpr c8;have c8b1 : ((bt a0 x3_1) != 9) = true:=bne_iff_ne.mpr c8;have H':=zA0 H;clear H;have p5 : 0≤(x3_1 : Int):=of_decide_eq_true yq3;have q5 : x3_1 < (a0.size : Int):=of_decide_eq_true yq3;have hx5:=zd8 a0 x3_1;replace p5:=eq_true p5;replace q5:=eq_true q5;have p7 : 0≤(x3_1 : Int):=of_decide_eq_true yq3;have q7 : x3_1 < (a0.size : Int):=of_decide_eq_true yq3;have hx7:=zd8 a0 x3_1;replace p7:=eq_true p7;replace q7:=eq_true q7;have p9 : 0≤(x3_1 : Int):=of_decide_eq_true yq3;have q9 : x3_1 < (a0.size : Int):=of_decide_eq_true yq3;have hx9:=zd8 a0 x3_1;replace p9:=eq_true p9;replace q9:=eq_true q9;go_wp2
        go_meet
        case rel => exact ⟨_,(((bt a0 x3_1) == 10)),yq6,H',⟨yq101⟩,yq17⟩
     ·rw [if_neg c4] at H
      exact absurd H (by simp)
    case rest =>
     clear HC3;(try clear q5);(try clear hx5);(try clear q7);(try clear hx7);(try clear q9);(try clear hx9);(try clear q5);(try clear q7);(try clear q9);obtain ⟨kq,x9_2,rfl,HA,HJ2,⟨mc2,rfl⟩⟩:=hcut
     cases kq with
     | zero => exact absurd HA.out (by simp [zal.j1])
     | succ kj2 =>
      have H:=HA.out;clear HA;simp only [zal.j1] at H
      by_cases c10 : x9_2 = true
      ·subst c10
       have H1 : (zal.l0 kj2 a0 (wrap64 (x3_1 + 1))) = some r:=yq36
       clear H;have H:=H1;clear H1;have H':=zA0 H;clear H;go_wp2
       go_roundg kj2
       case measure => have:=HK1.out;have:=HJ2.out;omega
       case rel => exact ⟨(wrap64 (x3_1 + 1)),yq6,H',⟨by have:=HK1.out;have:=HJ2.out;omega⟩,yq17⟩
      ·replace c10:=Bool.eq_false_iff.mpr c10
       subst c10
       have H1 : (if (wrap64 (x3_1 + 1)) < (a0.size : Int) then (if 0≤x3_1 then (if x3_1≤(wrap64 (x3_1 + 2)) then (if (wrap64 (x3_1 + 2))≤(a0.size : Int) then (zal.j2 kj2 x3_1 ((a0.extract (x3_1 : Int).toNat ((wrap64 (x3_1 + 2)) : Int).toNat).toList == ([47,47] : List UInt8))) else (none)) else (none)) else (none)) else (zal.j2 kj2 x3_1 false)) = some r:=yq12
       clear H;have H:=H1;clear H1;have HC11:=zA0 H;clear H
       go_upto_region 6 with (fail)
       go_cut [28] (fun v28 wc => ∃ (kq : Nat) (x28_10 : Bool),v28 = .bool x28_10∧Aside0 (zal.j2 kq x3_1 x28_10 = some r)∧Aside0 (kq≤kj2)∧zdl w wc)
       case first =>
        have H:=HC11.out;clear HC11
        by_cases c12 : (wrap64 (x3_1 + 1)) < (a0.size : Int)
        ·rw [if_pos c12] at H
         have c12b0 : decide ((wrap64 (x3_1 + 1)) < (a0.size : Int)) = true:=decide_eq_true c12;clear c12
         (first | rw [c12b0] | (simp only [zc7,zdc];rw [c12b0]) | skip)
         by_cases c13 : 0≤x3_1
         ·rw [if_pos c13] at H
          have c13b0:=eq_true c13;have c13b1 : decide (0≤x3_1) = true:=decide_eq_true c13;clear c13
          by_cases c14 : x3_1≤(wrap64 (x3_1 + 2))
          ·rw [if_pos c14] at H
           have c14b0:=eq_true c14;have c14b1 : decide (x3_1≤(wrap64 (x3_1 + 2))) = true:=decide_eq_true c14
           by_cases c15 : (wrap64 (x3_1 + 2))≤(a0.size : Int)
           ·rw [if_pos c15] at H
            have c15b0:=eq_true c15;have c15b1 : decide ((wrap64 (x3_1 + 2))≤(a0.size : Int)) = true:=decide_eq_true c15;have H':=zA0 H;clear H;go_wp2
            go_meet
            case rel => exact ⟨_,(((a0.extract (x3_1 : Int).toNat ((wrap64 (x3_1 + 2)) : Int).toNat).toList == ([47,47] : List UInt8))),yq6,H',⟨by have:=HK1.out;have:=HJ2.out;first | omega | exact Nat.le_refl _⟩,yq17⟩
           ·rw [if_neg c15] at H
            exact absurd H (by simp)
          ·rw [if_neg c14] at H
           exact absurd H (by simp)
         ·rw [if_neg c13] at H
          exact absurd H (by simp)
        ·rw [if_neg c12] at H
         have c12b0 : decide ((wrap64 (x3_1 + 1)) < (a0.size : Int)) = false:=decide_eq_false c12;clear c12
         (first | rw [c12b0] | (simp only [zc7,zdc];rw [c12b0]) | skip)
         have H':=zA0 H;clear H;go_wp2
         go_meet
         case rel => exact ⟨_,(false),yq6,H',⟨by have:=HK1.out;have:=HJ2.out;first | omega | exact Nat.le_refl _⟩,yq17⟩
       case rest =>
        clear HC11;(try clear q5);(try clear hx5);(try clear q7);(try clear hx7);(try clear q9);(try clear hx9);(try clear q5);(try clear q7);(try clear q9);obtain ⟨kq,x28_10,rfl,HA,HJ10,⟨mc10,rfl⟩⟩:=hcut
        cases kq with
        | zero => exact absurd HA.out (by simp [zal.j2])
        | succ kj10 =>
         have H:=HA.out;clear HA;simp only [zal.j2] at H
         by_cases c16 : x28_10 = true
         ·subst c16
          have H1 : (zal.l1 kj10) = some r:=yq36
          clear H;have H:=H1;clear H1;have H':=zA0 H;clear H;go_wp2
          go_loopg [] kj10 (fun kq w' => Aside0 (zal.l1 kq  = some r)∧Aside0 (kq≤kj10)∧zdl w w')
          case atStart => exact ⟨H',⟨Nat.le_refl _⟩,yq17⟩
          case round =>
           clear H';(try clear q5);(try clear hx5);(try clear q7);(try clear hx7);(try clear q9);(try clear hx9);(try clear q5);(try clear q7);(try clear q9);obtain ⟨HA,HK4,⟨m4,rfl⟩⟩:=hrel
           cases gk with
           | zero => exact absurd HA.out (by simp [zal.l1])
           | succ k4 =>
            have H:=HA.out;clear HA;simp only [zal.l1] at H;exact absurd H (by simp)
         ·replace c16:=Bool.eq_false_iff.mpr c16
          subst c16
          have H1 : (some x3_1) = some r:=yq12
          clear H;have H:=H1;clear H1;obtain rfl:=Option.some.inj H;go_wp2;go_ret;exact ⟨yq6,yq17⟩
   ·rw [if_neg c2] at H
    have c2b0 : decide (x3_1 < (a0.size : Int)) = false:=decide_eq_false c2;clear c2;obtain rfl:=Option.some.inj H;go_wp2;go_ret;exact ⟨yq6,yq17⟩
def zcl.f (a0 : Int) : Option (Bool):=if a0 ≥ 48 then (some (decide (a0≤57))) else (some false)
set_option maxHeartbeats 8000000 in
set_option maxRecDepth 100000 in
theorem zcl.calls (a0 : Int) (r : Bool) (w : World) (h : zcl.f a0 = some r) :
  Calls Tryz.prog 56 #[.int .u8 a0] w fun e w' => e = .returned (.bool r)∧zdl w w':=by
 have H : (if a0 ≥ 48 then (some (decide (a0≤57))) else (some false)) = some r:=h;clear h
 by_cases c2 : a0 ≥ 48
 ·rw [if_pos c2] at H
  have c2b0 : decide (48≤a0) = true:=decide_eq_true c2;clear c2;obtain rfl:=Option.some.inj H;go_enter Tryz.func56,Tryz.ntmps56;go_wp2;go_ret;exact ⟨yq6,yq17⟩
 ·rw [if_neg c2] at H
  have c2b0 : decide (48≤a0) = false:=decide_eq_false c2;clear c2;obtain rfl:=Option.some.inj H;go_enter Tryz.func56,Tryz.ntmps56;go_wp2;go_ret;exact ⟨yq6,yq17⟩
def zb3.f (a0 : Int) : Option (Bool):=if a0 ≥ 97 then (if a0≤122 then (some true) else (if a0 ≥ 65 then (some (decide (a0≤90))) else (some false))) else (if a0 ≥ 65 then (some (decide (a0≤90))) else (some false))
set_option maxHeartbeats 8000000 in
set_option maxRecDepth 100000 in
theorem zb3.calls (a0 : Int) (r : Bool) (w : World) (h : zb3.f a0 = some r) :
  Calls Tryz.prog 59 #[.int .u8 a0] w fun e w' => e = .returned (.bool r)∧zdl w w':=by
 have H : (if a0 ≥ 97 then (if a0≤122 then (some true) else (if a0 ≥ 65 then (some (decide (a0≤90))) else (some false))) else (if a0 ≥ 65 then (some (decide (a0≤90))) else (some false))) = some r:=h;clear h
 by_cases c2 : a0 ≥ 97
 ·rw [if_pos c2] at H
  have c2b0 : decide (97≤a0) = true:=decide_eq_true c2;clear c2
  by_cases c3 : a0≤122
  ·rw [if_pos c3] at H
   have c3b0 : decide (a0≤122) = true:=decide_eq_true c3;clear c3;obtain rfl:=Option.some.inj H;go_enter Tryz.func59,Tryz.ntmps59;go_wp2;go_ret;exact ⟨yq6,yq17⟩
  ·rw [if_neg c3] at H
   have c3b0 : decide (a0≤122) = false:=decide_eq_false c3;clear c3
   by_cases c4 : a0 ≥ 65
   ·rw [if_pos c4] at H
    have c4b0 : decide (65≤a0) = true:=decide_eq_true c4;clear c4;obtain rfl:=Option.some.inj H;go_enter Tryz.func59,Tryz.ntmps59;go_wp2;go_ret;exact ⟨yq6,yq17⟩
   ·rw [if_neg c4] at H
    have c4b0 : decide (65≤a0) = false:=decide_eq_false c4;clear c4;obtain rfl:=Option.some.inj H;go_enter Tryz.func59,Tryz.ntmps59;go_wp2;go_ret;exact ⟨yq6,yq17⟩
 ·rw [if_neg c2] at H
  have c2b0 : decide (97≤a0) = false:=decide_eq_false c2;clear c2
  by_cases c5 : a0 ≥ 65
  ·rw [if_pos c5] at H
   have c5b0 : decide (65≤a0) = true:=decide_eq_true c5;clear c5;obtain rfl:=Option.some.inj H;go_enter Tryz.func59,Tryz.ntmps59;go_wp2;go_ret;exact ⟨yq6,yq17⟩
  ·rw [if_neg c5] at H
   have c5b0 : decide (65≤a0) = false:=decide_eq_false c5;clear c5;obtain rfl:=Option.some.inj H;go_enter Tryz.func59,Tryz.ntmps59;go_wp2;go_ret;exact ⟨yq6,yq17⟩
def zas.l0 : Nat→ByteArray→Bool→Int→Option (Int)
 | 0,_,_,_ => none
 | k + 1,x0,x1,x5 => if x5 < (x0.size : Int) then (if 0≤x5 then ((zcl.f (bt x0 x5)).bind fun t391 => (if t391 = true then (zas.l0 k x0 x1 (wrap64 (x5 + 1))) else (if x1 = true then (some x5) else ((zb3.f (bt x0 x5)).bind fun t392 => (if t392 = true then (zas.l0 k x0 x1 (wrap64 (x5 + 1))) else (if (bt x0 x5) = 95 then (zas.l0 k x0 x1 (wrap64 (x5 + 1))) else (some x5))))))) else (none)) else (some x5)
def zas.f (k : Nat) (a0 : ByteArray) (a1 : Bool) : Option (Int):=zas.l0 k a0 a1 0
theorem zas.mono_l : ∀ k,(∀ y0 y1 y2,LeO (zas.l0 k y0 y1 y2) (zas.l0 (k + 1) y0 y1 y2))
 | 0 => fun _ _ _ r h => by simp [zas.l0] at h
 | k + 1 => by
  have ih0:=zas.mono_l k
  ·intro y0 y1 y2
   unfold zas.l0
   exact yq11
theorem zas.mono : ∀ a0 a1 k,LeO (zas.f k a0 a1) (zas.f (k + 1) a0 a1):=by
 intro a0 a1 k;have ih0:=zas.mono_l k;unfold zas.f
 exact yq11
set_option maxHeartbeats 8000000 in
set_option maxRecDepth 100000 in
theorem zas.calls (k : Nat) (a0 : ByteArray) (a1 : Bool) (r : Int) (w : World) (h : zas.f k a0 a1 = some r) :
  Calls Tryz.prog 57 #[.string a0,.bool a1] w fun e w' => e = .returned (.int .i64 r)∧zdl w w':=by
 have H : (zas.l0 k a0 a1 0) = some r:=h;clear h;have H':=zA0 H;clear H;go_enter Tryz.func57,Tryz.ntmps57;go_wp2
 go_loopg [5] k (fun kq v5 w' => ∃ (x5_1 : Int),v5 = .int .i64 x5_1∧Aside0 (zas.l0 kq a0 a1 x5_1 = some r)∧Aside0 (kq≤k)∧zdl w w')
 case atStart => exact ⟨(0),yq6,H',⟨Nat.le_refl _⟩,yq17⟩
 case round =>
  clear H';obtain ⟨x5_1,rfl,HA,HK1,⟨m1,rfl⟩⟩:=hrel
  cases gk with
  | zero => exact absurd HA.out (by simp [zas.l0])
  | succ k1 =>
   have H:=HA.out;clear HA;simp only [zas.l0] at H
   by_cases c3 : x5_1 < (a0.size : Int)
   ·rw [if_pos c3] at H
    have c3b0 : decide (x5_1 < (a0.size : Int)) = true:=decide_eq_true c3;clear c3
    by_cases c4 : 0≤x5_1
    ·rw [if_pos c4] at H
     have c4b0 : decide (0≤x5_1) = true:=decide_eq_true c4;clear c4;replace H:=Option.bind_eq_some_iff.mp H;obtain ⟨t391,A60,H⟩:=H;replace H : (if t391 = true then (zas.l0 k1 a0 a1 (wrap64 (x5_1 + 1))) else (if a1 = true then (some x5_1) else ((zb3.f (bt a0 x5_1)).bind fun t392 => (if t392 = true then (zas.l0 k1 a0 a1 (wrap64 (x5_1 + 1))) else (if (bt a0 x5_1) = 95 then (zas.l0 k1 a0 a1 (wrap64 (x5_1 + 1))) else (some x5_1)))))) = some r:=H;have A6:=zA0 A60;clear A60
     by_cases c7 : t391 = true
     ·subst c7
      have H1 : (zas.l0 k1 a0 a1 (wrap64 (x5_1 + 1))) = some r:=yq36
      clear H;have H:=H1;clear H1;have H':=zA0 H;clear H;have p5 : 0≤(x5_1 : Int):=of_decide_eq_true yq3;have q5 : x5_1 < (a0.size : Int):=of_decide_eq_true yq3;have hx5:=zd8 a0 x5_1;replace p5:=eq_true p5;replace q5:=eq_true q5
      go_wp2_with (first | (go_at_call 56;(with_reducible refine (zcl.calls (bt a0 x5_1) true _ A6.out).mono ?_);rintro e w' ⟨rfl,⟨nd,rfl⟩⟩))
      go_roundg k1
      case measure => have:=HK1.out;omega
      case rel => exact ⟨(wrap64 (x5_1 + 1)),yq6,H',⟨yq95⟩,yq17⟩
     ·replace c7:=Bool.eq_false_iff.mpr c7
      subst c7
      have H1 : (if a1 = true then (some x5_1) else ((zb3.f (bt a0 x5_1)).bind fun t392 => (if t392 = true then (zas.l0 k1 a0 a1 (wrap64 (x5_1 + 1))) else (if (bt a0 x5_1) = 95 then (zas.l0 k1 a0 a1 (wrap64 (x5_1 + 1))) else (some x5_1))))) = some r:=yq12
      clear H;have H:=H1;clear H1
      by_cases c8 : a1 = true
      ·subst c8
       have H1 : (some x5_1) = some r:=yq36
       clear H;have H:=H1;clear H1;obtain rfl:=Option.some.inj H;have p5 : 0≤(x5_1 : Int):=of_decide_eq_true yq3;have q5 : x5_1 < (a0.size : Int):=of_decide_eq_true yq3;have hx5:=zd8 a0 x5_1;replace p5:=eq_true p5;replace q5:=eq_true q5
       go_wp2_with (first | (go_at_call 56;(with_reducible refine (zcl.calls (bt a0 x5_1) false _ A6.out).mono ?_);rintro e w' ⟨rfl,⟨nd,rfl⟩⟩))
       go_ret;exact ⟨yq6,yq17⟩
      ·replace c8:=Bool.eq_false_iff.mpr c8
       subst c8
       have H1 : ((zb3.f (bt a0 x5_1)).bind fun t392 => (if t392 = true then (zas.l0 k1 a0 false (wrap64 (x5_1 + 1))) else (if (bt a0 x5_1) = 95 then (zas.l0 k1 a0 false (wrap64 (x5_1 + 1))) else (some x5_1)))) = some r:=yq12
       clear H;have H:=H1;clear H1;replace H:=Option.bind_eq_some_iff.mp H;obtain ⟨t392,A100,H⟩:=H;replace H : (if t392 = true then (zas.l0 k1 a0 false (wrap64 (x5_1 + 1))) else (if (bt a0 x5_1) = 95 then (zas.l0 k1 a0 false (wrap64 (x5_1 + 1))) else (some x5_1))) = some r:=H;have A10:=zA0 A100;clear A100
       by_cases c11 : t392 = true
       ·subst c11
        have H1 : (zas.l0 k1 a0 false (wrap64 (x5_1 + 1))) = some r:=yq36
        clear H;have H:=H1;clear H1;have H':=zA0 H;clear H;have p5 : 0≤(x5_1 : Int):=of_decide_eq_true yq3;have q5 : x5_1 < (a0.size : Int):=of_decide_eq_true yq3;have hx5:=zd8 a0 x5_1;replace p5:=eq_true p5;replace q5:=eq_true q5
        go_wp2_with (first | (go_at_call 56;(with_reducible refine (zcl.calls (bt a0 x5_1) false _ A6.out).mono ?_);rintro e w' ⟨rfl,⟨nd,rfl⟩⟩;have p9 : 0≤(x5_1 : Int):=of_decide_eq_true yq3;have q9 : x5_1 < (a0.size : Int):=of_decide_eq_true yq3;have hx9:=zd8 a0 x5_1;replace p9:=eq_true p9;replace q9:=eq_true q9) | (go_at_call 59;(with_reducible refine (zb3.calls (bt a0 x5_1) true _ A10.out).mono ?_);rintro e w' ⟨rfl,⟨nd,rfl⟩⟩))
        go_roundg k1
        case measure => have:=HK1.out;omega
        case rel => exact ⟨(wrap64 (x5_1 + 1)),yq6,H',⟨yq95⟩,yq17⟩
       ·replace c11:=Bool.eq_false_iff.mpr c11
        subst c11
        have H1 : (if (bt a0 x5_1) = 95 then (zas.l0 k1 a0 false (wrap64 (x5_1 + 1))) else (some x5_1)) = some r:=yq12
        clear H;have H:=H1;clear H1
        by_cases c13 : (bt a0 x5_1) = 95
        ·rw [if_pos c13] at H
         have c13b0 : ((bt a0 x5_1) == 95) = true:=beq_iff_eq.mpr c13;have c13b1 : ((bt a0 x5_1) != 95) = false:=bne_eq_false_iff_eq.mpr c13;clear c13;have H':=zA0 H;clear H;have p5 : 0≤(x5_1 : Int):=of_decide_eq_true yq3;have q5 : x5_1 < (a0.size : Int):=of_decide_eq_true yq3;have hx5:=zd8 a0 x5_1;replace p5:=eq_true p5;replace q5:=eq_true q5
         go_wp2_with (first | (go_at_call 56;(with_reducible refine (zcl.calls (bt a0 x5_1) false _ A6.out).mono ?_);rintro e w' ⟨rfl,⟨nd,rfl⟩⟩;have p9 : 0≤(x5_1 : Int):=of_decide_eq_true yq3;have q9 : x5_1 < (a0.size : Int):=of_decide_eq_true yq3;have hx9:=zd8 a0 x5_1;replace p9:=eq_true p9;replace q9:=eq_true q9) | (go_at_call 59;(with_reducible refine (zb3.calls (bt a0 x5_1) false _ A10.out).mono ?_);rintro e w' ⟨rfl,⟨nd,rfl⟩⟩;have p12 : 0≤(x5_1 : Int):=of_decide_eq_true yq3;have q12 : x5_1 < (a0.size : Int):=of_decide_eq_true yq3;have hx12:=zd8 a0 x5_1;replace p12:=eq_true p12;replace q12:=eq_true q12))
         go_roundg k1
         case measure => have:=HK1.out;omega
         case rel => exact ⟨(wrap64 (x5_1 + 1)),yq6,H',⟨yq95⟩,yq17⟩
        ·rw [if_neg c13] at H
         have c13b0 : ((bt a0 x5_1) == 95) = false:=beq_eq_false_iff_ne.mpr c13;have c13b1 : ((bt a0 x5_1) != 95) = true:=bne_iff_ne.mpr c13;obtain rfl:=Option.some.inj H;have p5 : 0≤(x5_1 : Int):=of_decide_eq_true yq3;have q5 : x5_1 < (a0.size : Int):=of_decide_eq_true yq3;have hx5:=zd8 a0 x5_1;replace p5:=eq_true p5;replace q5:=eq_true q5
         go_wp2_with (first | (go_at_call 56;(with_reducible refine (zcl.calls (bt a0 x5_1) false _ A6.out).mono ?_);rintro e w' ⟨rfl,⟨nd,rfl⟩⟩;have p9 : 0≤(x5_1 : Int):=of_decide_eq_true yq3;have q9 : x5_1 < (a0.size : Int):=of_decide_eq_true yq3;have hx9:=zd8 a0 x5_1;replace p9:=eq_true p9;replace q9:=eq_true q9) | (go_at_call 59;(with_reducible refine (zb3.calls (bt a0 x5_1) false _ A10.out).mono ?_);rintro e w' ⟨rfl,⟨nd,rfl⟩⟩;have p12 : 0≤(x5_1 : Int):=of_decide_eq_true yq3;have q12 : x5_1 < (a0.size : Int):=of_decide_eq_true yq3;have hx12:=zd8 a0 x5_1;replace p12:=eq_true p12;replace q12:=eq_true q12))
         go_ret;exact ⟨yq6,yq17⟩
    ·rw [if_neg c4] at H
     exact absurd H (by simp)
   ·rw [if_neg c3] at H
    have c3b0 : decide (x5_1 < (a0.size : Int)) = false:=decide_eq_false c3;clear c3;obtain rfl:=Option.some.inj H;go_wp2;go_ret;exact ⟨yq6,yq17⟩
def zbs.l0 : Nat→ByteArray→Int→Int→Option (Int × Bool)
 | 0,_,_,_ => none
 | k + 1,x0,x4,x5 => if x5 < (x0.size : Int) then (if 0≤x5 then (if (IntKind.u64.wrap ((IntKind.u64.wrap (x4 * 10)) + (((bt x0 x5) - 48) % 256))) > 1152921504606846975 then (none) else (zbs.l0 k x0 (IntKind.u64.wrap ((IntKind.u64.wrap (x4 * 10)) + (((bt x0 x5) - 48) % 256))) (wrap64 (x5 + 1)))) else (none)) else (some (x4,true))
def zbs.f (k : Nat) (a0 : ByteArray) : Option (Int × Bool):=zbs.l0 k a0 0 0
theorem zbs.mono_l : ∀ k,(∀ y0 y1 y2,LeO (zbs.l0 k y0 y1 y2) (zbs.l0 (k + 1) y0 y1 y2))
 | 0 => fun _ _ _ r h => by simp [zbs.l0] at h
 | k + 1 => by
  have ih0:=zbs.mono_l k
  ·intro y0 y1 y2
   unfold zbs.l0
   exact yq11
theorem zbs.mono : ∀ a0 k,LeO (zbs.f k a0) (zbs.f (k + 1) a0):=by
 intro a0 k;have ih0:=zbs.mono_l k;unfold zbs.f
 exact yq11
set_option maxHeartbeats 8000000 in
set_option maxRecDepth 100000 in
theorem zbs.calls (k : Nat) (a0 : ByteArray) (r1 : Int) (r2 : Bool) (w : World) (h : zbs.f k a0 = some (r1,r2)) :
  Calls Tryz.prog 58 #[.string a0] w fun e w' => e = .returned (.tuple #[.int .u64 r1,.bool r2])∧zdl w w':=by
 have H : (zbs.l0 k a0 0 0) = some (r1,r2):=h;clear h;have H':=zA0 H;clear H;go_enter Tryz.func58,Tryz.ntmps58;go_wp2
 go_loopg [4,5] k (fun kq v4 v5 w' => ∃ (x4_1 : Int) (x5_1 : Int),v4 = .int .u64 x4_1∧v5 = .int .i64 x5_1∧Aside0 (zbs.l0 kq a0 x4_1 x5_1 = some (r1,r2))∧Aside0 (kq≤k)∧zdl w w')
 case atStart => exact ⟨(0),(0),yq6,yq6,H',⟨Nat.le_refl _⟩,yq17⟩
 case round =>
  clear H';obtain ⟨x4_1,x5_1,rfl,rfl,HA,HK1,⟨m1,rfl⟩⟩:=hrel
  cases gk with
  | zero => exact absurd HA.out (by simp [zbs.l0])
  | succ k1 =>
   have H:=HA.out;clear HA;simp only [zbs.l0] at H
   by_cases c2 : x5_1 < (a0.size : Int)
   ·rw [if_pos c2] at H
    have c2b0 : decide (x5_1 < (a0.size : Int)) = true:=decide_eq_true c2;clear c2
    by_cases c3 : 0≤x5_1
    ·rw [if_pos c3] at H
     have c3b0 : decide (0≤x5_1) = true:=decide_eq_true c3;clear c3
     by_cases c5 : (IntKind.u64.wrap ((IntKind.u64.wrap (x4_1 * 10)) + (((bt a0 x5_1) - 48) % 256))) > 1152921504606846975
     ·rw [if_pos c5] at H
      exact absurd H (by simp)
     ·rw [if_neg c5] at H
      have c5b0 : decide (1152921504606846975 < (IntKind.u64.wrap ((IntKind.u64.wrap (x4_1 * 10)) + (((bt a0 x5_1) - 48) % 256)))) = false:=decide_eq_false c5;clear c5;have H':=zA0 H;clear H;have p4 : 0≤(x5_1 : Int):=of_decide_eq_true yq3;have q4 : x5_1 < (a0.size : Int):=of_decide_eq_true yq3;have hx4:=zd8 a0 x5_1;replace p4:=eq_true p4;replace q4:=eq_true q4;go_wp2
      go_roundg k1
      case measure => have:=HK1.out;omega
      case rel => exact ⟨(IntKind.u64.wrap ((IntKind.u64.wrap (x4_1 * 10)) + (((bt a0 x5_1) - 48) % 256))),(wrap64 (x5_1 + 1)),yq6,yq6,H',⟨yq95⟩,yq17⟩
    ·rw [if_neg c3] at H
     exact absurd H (by simp)
   ·rw [if_neg c2] at H
    have c2b0 : decide (x5_1 < (a0.size : Int)) = false:=decide_eq_false c2;clear c2;simp only [Option.some.injEq,Prod.mk.injEq] at H;obtain ⟨rfl,rfl⟩:=H;go_wp2
    go_ret2
    exact ⟨yq6,yq17⟩
end Go.Proofs.YtkgdhdjkpnalmaaGreatDoor.P
end
