/- What is proved here: a part of the proof of ElectionChangedVote: Px25, Px26. No conditions beside those that each theorem states. -/
import Derived.Test.YtkgdhdjkpnalmaaGreatDoorKECVte4
import Derived.Test.YtkgdhdjkpnalmaaGreatDoorKECVte6
import Derived.Test.YtkgdhdjkpnalmaaGreatDoorKECVte7
set_option linter.unusedVariables false
set_option linter.unusedSimpArgs false
section
namespace Go.Proofs.YtkgdhdjkpnalmaaGreatDoor.P
open Go.RowKit Go.Proofs.YtkgdhdjkpnalmaaGreatDoorW.PrintWords Go.Proofs.YtkgdhdjkpnalmaaGreatDoorW.PrintLast Go.Proofs.YtkgdhdjkpnalmaaGreatDoorW.PrintMore
attribute [local go_sem] zcd zca zci zcj zb1 zb2 zcc zcb
def zce.f (k : Nat) (a0 : ByteArray) : Option (Bool):=if (a0.size : Int) ≥ 1 then (if (a0.size : Int)≤20 then (if 0 < (a0.size : Int) then ((zb3.f (bt a0 0)).bind fun t418 => (if t418 = true then ((zas.f k a0 false).bind fun t419 => (if t419 = (a0.size : Int) then ((zbg.f k a0).bind fun t420 => (some (!t420))) else (some false))) else (some false))) else (none)) else (some false)) else (some false)
theorem zce.mono : ∀ a0 k,LeO (zce.f k a0) (zce.f (k + 1) a0):=by
 intro a0 k;unfold zce.f
 exact (by repeat' first | with_reducible apply zbg.mono | with_reducible apply zas.mono | with_reducible apply LeO.refl | with_reducible apply LeO.none | (with_reducible refine LeO.ite ?_ ?_) | (with_reducible refine LeO.bind ?_ (fun _ => ?_)))
set_option maxHeartbeats 8000000 in
set_option maxRecDepth 100000 in
theorem zce.calls (k : Nat) (a0 : ByteArray) (r : Bool) (w : World) (h : zce.f k a0 = some r) :
  Calls Tryz.prog 44 #[.string a0] w fun e w' => e = .returned (.bool r)∧Below w.heap.size w w':=by
 have HB:=zA0 (Below.refl w.heap.size w);have H : (if (a0.size : Int) ≥ 1 then (if (a0.size : Int)≤20 then (if 0 < (a0.size : Int) then ((zb3.f (bt a0 0)).bind fun t418 => (if t418 = true then ((zas.f k a0 false).bind fun t419 => (if t419 = (a0.size : Int) then ((zbg.f k a0).bind fun t420 => (some (!t420))) else (some false))) else (some false))) else (none)) else (some false)) else (some false)) = some r:=h;clear h
 by_cases c2 : (a0.size : Int) ≥ 1
 ·rw [if_pos c2] at H
  have c2b0 : decide (1≤(a0.size : Int)) = true:=decide_eq_true c2;have c2b1 : decide (1≤a0.size) = true:=decide_eq_true (by omega);clear c2
  by_cases c3 : (a0.size : Int)≤20
  ·rw [if_pos c3] at H
   have c3b0 : decide ((a0.size : Int)≤20) = true:=decide_eq_true c3;have c3b1 : decide (a0.size≤20) = true:=decide_eq_true (by omega);clear c3
   by_cases c4 : 0 < (a0.size : Int)
   ·rw [if_pos c4] at H
    have c4b0 : decide (0 < (a0.size : Int)) = true:=decide_eq_true c4;have c4b1 : decide (0 < a0.size) = true:=decide_eq_true (by omega);clear c4;replace H:=Option.bind_eq_some_iff.mp H;obtain ⟨t418,A60,H⟩:=H;replace H : (if t418 = true then ((zas.f k a0 false).bind fun t419 => (if t419 = (a0.size : Int) then ((zbg.f k a0).bind fun t420 => (some (!t420))) else (some false))) else (some false)) = some r:=H;have A6:=zA0 A60;clear A60
    by_cases c7 : t418 = true
    ·subst c7
     have H1 : ((zas.f k a0 false).bind fun t419 => (if t419 = (a0.size : Int) then ((zbg.f k a0).bind fun t420 => (some (!t420))) else (some false))) = some r:=yq36
     clear H;have H:=H1;clear H1;replace H:=Option.bind_eq_some_iff.mp H;obtain ⟨t419,A80,H⟩:=H;replace H : (if t419 = (a0.size : Int) then ((zbg.f k a0).bind fun t420 => (some (!t420))) else (some false)) = some r:=H;have A8:=zA0 A80;clear A80
     by_cases c9 : t419 = (a0.size : Int)
     ·rw [if_pos c9] at H
      have c9b0 : (t419 == (a0.size : Int)) = true:=beq_iff_eq.mpr c9;have c9b1 : (t419 != (a0.size : Int)) = false:=bne_eq_false_iff_eq.mpr c9;clear c9;replace H:=Option.bind_eq_some_iff.mp H;obtain ⟨t420,A100,H⟩:=H;replace H : (some (!t420)) = some r:=H;have A10:=zA0 A100;clear A100;obtain rfl:=Option.some.inj H
      have p5 : 0≤(0 : Int):=(by omega)
      have q5 : 0 < a0.size:=(by have : (0 : Int) < (a0.size : Int):=of_decide_eq_true yq3;omega)
      have hx5 : ∀ h : 0 < a0.size,((a0[0]'h).toNat : Int) = bt a0 0:=zd8 a0 0;clear p5;have qi5 : (0 < (a0.size : Int)) = True:=eq_true (of_decide_eq_true yq3);replace q5:=eq_true q5;go_enter Tryz.func44,Tryz.ntmps44
      go_wp2_with (first | (go_at_call 59;(with_reducible refine (zb3.calls (bt a0 0) true _ A6.out).mono ?_);rintro e w' ⟨rfl,⟨nd,rfl⟩⟩) | (go_at_call 57;(with_reducible refine (zas.calls k a0 false t419 _ A8.out).mono ?_);rintro e w' ⟨rfl,⟨nd,rfl⟩⟩) | (go_at_call 60;(with_reducible refine (zbg.calls k a0 t420 _ A10.out).mono ?_);rintro e w11 ⟨rfl,hb⟩;have n0_:=zA0 (zaj (zs0 HB) hb);clear HB;revert n0_;intro HB;clear hb))
      go_ret;exact ⟨yq7,zs0 HB⟩
     ·rw [if_neg c9] at H
      have c9b0 : (t419 == (a0.size : Int)) = false:=beq_eq_false_iff_ne.mpr c9;have c9b1 : (t419 != (a0.size : Int)) = true:=bne_iff_ne.mpr c9;obtain rfl:=Option.some.inj H
      have p5 : 0≤(0 : Int):=(by omega)
      have q5 : 0 < a0.size:=(by have : (0 : Int) < (a0.size : Int):=of_decide_eq_true yq3;omega)
      have hx5 : ∀ h : 0 < a0.size,((a0[0]'h).toNat : Int) = bt a0 0:=zd8 a0 0;clear p5;have qi5 : (0 < (a0.size : Int)) = True:=eq_true (of_decide_eq_true yq3);replace q5:=eq_true q5;go_enter Tryz.func44,Tryz.ntmps44
      go_wp2_with (first | (go_at_call 59;(with_reducible refine (zb3.calls (bt a0 0) true _ A6.out).mono ?_);rintro e w' ⟨rfl,⟨nd,rfl⟩⟩) | (go_at_call 57;(with_reducible refine (zas.calls k a0 false t419 _ A8.out).mono ?_);rintro e w' ⟨rfl,⟨nd,rfl⟩⟩))
      go_ret;exact ⟨yq7,zs0 HB⟩
    ·replace c7:=Bool.eq_false_iff.mpr c7
     subst c7
     have H1 : (some false) = some r:=yq12
     clear H;have H:=H1;clear H1;obtain rfl:=Option.some.inj H
     have p5 : 0≤(0 : Int):=(by omega)
     have q5 : 0 < a0.size:=(by have : (0 : Int) < (a0.size : Int):=of_decide_eq_true yq3;omega)
     have hx5 : ∀ h : 0 < a0.size,((a0[0]'h).toNat : Int) = bt a0 0:=zd8 a0 0;clear p5;have qi5 : (0 < (a0.size : Int)) = True:=eq_true (of_decide_eq_true yq3);replace q5:=eq_true q5;go_enter Tryz.func44,Tryz.ntmps44
     go_wp2_with (first | (go_at_call 59;(with_reducible refine (zb3.calls (bt a0 0) false _ A6.out).mono ?_);rintro e w' ⟨rfl,⟨nd,rfl⟩⟩))
     go_ret;exact ⟨yq7,zs0 HB⟩
   ·rw [if_neg c4] at H
    exact absurd H (by simp)
  ·rw [if_neg c3] at H
   have c3b0 : decide ((a0.size : Int)≤20) = false:=decide_eq_false c3;have c3b1 : decide (a0.size≤20) = false:=decide_eq_false (by omega);clear c3;obtain rfl:=Option.some.inj H;go_enter Tryz.func44,Tryz.ntmps44;go_wp2;go_ret;exact ⟨yq7,zs0 HB⟩
 ·rw [if_neg c2] at H
  have c2b0 : decide (1≤(a0.size : Int)) = false:=decide_eq_false c2;have c2b1 : decide (1≤a0.size) = false:=decide_eq_false (by omega);clear c2;obtain rfl:=Option.some.inj H;go_enter Tryz.func44,Tryz.ntmps44;go_wp2;go_ret;exact ⟨yq7,zs0 HB⟩
mutual
def zbn.j0 : Nat→Int→Bool→Option (Int)
 | 0,_,_ => none
 | k + 1,x4,x5 => if x5 = true then (some 0) else (if x4 = 3 then (zbn.j1 k x4 (x4 == 3)) else (zbn.j1 k x4 (x4 == 5)))
def zbn.j1 : Nat→Int→Bool→Option (Int)
 | 0,_,_ => none
 | k + 1,x4,x8 => if x8 = true then (none) else (if x4 = 4 then (some 2) else (if x4 = 6 then (some 3) else (none)))
end
def zbn.f (k : Nat) (a0_0 : Int) (a0_1 : Int) (a0_2 : Int) (a0_3 : ByteArray) (l0_4 : List (S117)) : Option (Int):=if a0_0 = 1 then (zbn.j0 k a0_0 (a0_0 == 1)) else (zbn.j0 k a0_0 (a0_0 == 2))
theorem zbn.mono_l : ∀ k,(∀ y0 y1,LeO (zbn.j0 k y0 y1) (zbn.j0 (k + 1) y0 y1))∧(∀ y0 y1,LeO (zbn.j1 k y0 y1) (zbn.j1 (k + 1) y0 y1))
 | 0 => ⟨fun _ _ r h => by simp [zbn.j0] at h,fun _ _ r h => by simp [zbn.j1] at h⟩
 | k + 1 => by
  obtain ⟨ih0,ih1⟩:=zbn.mono_l k;refine ⟨?_,?_⟩
  ·intro y0 y1
   unfold zbn.j0
   exact yq37
  ·intro y0 y1
   unfold zbn.j1
   exact yq37
theorem zbn.mono : ∀ a0 a1 a2 a3 a4 k,LeO (zbn.f k a0 a1 a2 a3 a4) (zbn.f (k + 1) a0 a1 a2 a3 a4):=by
 intro a0 a1 a2 a3 a4 k;obtain ⟨ih0,ih1⟩:=zbn.mono_l k;unfold zbn.f
 exact yq37
set_option maxHeartbeats 8000000 in
set_option maxRecDepth 100000 in
theorem zbn.calls (k : Nat) (a0_0 : Int) (a0_1 : Int) (a0_2 : Int) (a0_3 : ByteArray) (A0_4 : Option Addr) (c0_4 : Nat) (l0_4 : List (S117)) (r : Int) (w : World) (hr0_4 : Kd.C k117 w A0_4 l0_4.length l0_4) (hc0_4 : l0_4.length≤c0_4) (h : zbn.f k a0_0 a0_1 a0_2 a0_3 l0_4 = some r) :
  Calls Tryz.prog 86 #[.agg #[.int .i64 a0_0,.int .i64 a0_1,.int .u64 a0_2,.string a0_3,.slice A0_4 l0_4.length c0_4]] w fun e w' => e = .returned (.int .i64 r)∧Below w.heap.size w w':=by
 have hu117:=Tryz.underlying117;have HR0_4:=zA0 hr0_4;have HC0_4:=zA0 hc0_4;clear hr0_4 hc0_4;have HB:=zA0 (Below.refl w.heap.size w);have H : (if a0_0 = 1 then (zbn.j0 k a0_0 (a0_0 == 1)) else (zbn.j0 k a0_0 (a0_0 == 2))) = some r:=h;clear h;have HC2:=zA0 H;clear H;go_enter Tryz.func86,Tryz.ntmps86
 go_upto_if 5 with (first | ((with_reducible refine zbm (N:=1) rfl ?_);refine zbk ?hg (N:=1) ?hd (cs:=#[.int .i64 a0_0,.int .i64 a0_1,.int .u64 a0_2,.string a0_3,.slice A0_4 l0_4.length c0_4]) (t:=117) ?hr ?_;(case hd => rfl);(case hg => rfl);(case hr => first | (go_simp;done) | (go_simp;rfl));intro gb421 hg w3 hbox hb;have n0_:=zA0 (zaj (zs0 HB) hb);have n1_:=zA0 (hbox);have n2_:=zA0 ((yq30 : w.heap.size≤gb421));have n3_:=zA0 ((yq30 : w.heap.size≤gb421));clear HB;revert n0_ n1_ n2_ n3_;intro HB BK421 GW421 GE421;clear hb hbox hg;obtain ⟨_,_,_,_,_⟩:=zc5 BK421.out;obtain ⟨_,_,_,_,_⟩:=zf5 BK421.out))
 (try simp only [Act.put,za1,za2,za3])
 go_cut [5] (fun v5 wc => ∃ (kq : Nat) (x5_1 : Bool),v5 = .bool x5_1∧Aside0 (zbn.j0 kq a0_0 x5_1 = some r)∧Aside0 (kq≤k)∧Aside0 (wc.heap[gb421]? = some (.cells #[.int .i64 a0_0,.int .i64 a0_1,.int .u64 a0_2,.string a0_3,(.slice A0_4 l0_4.length c0_4)] 117 (0,0)))∧Aside0 (Below w.heap.size w wc))
 case first =>
  have H:=HC2.out;clear HC2
  by_cases c5 : a0_0 = 1
  ·rw [if_pos c5] at H
   have c5b0 : (a0_0 == 1) = true:=beq_iff_eq.mpr c5;have c5b1 : (a0_0 != 1) = false:=bne_eq_false_iff_eq.mpr c5;clear c5
   (first | rw [c5b0] | (simp only [zc7,zdc];rw [c5b0]) | skip)
   have H':=zA0 H;clear H;go_wp2
   go_meet
   case rel => exact ⟨_,((a0_0 == 1)),yq6,H',⟨yq209⟩,⟨yp2 BK421⟩,⟨yq109⟩⟩
  ·rw [if_neg c5] at H
   have c5b0 : (a0_0 == 1) = false:=beq_eq_false_iff_ne.mpr c5;have c5b1 : (a0_0 != 1) = true:=bne_iff_ne.mpr c5
   (first | rw [c5b0] | (simp only [zc7,zdc];rw [c5b0]) | skip)
   have H':=zA0 H;clear H;go_wp2
   go_meet
   case rel => exact ⟨_,((a0_0 == 2)),yq6,H',⟨yq209⟩,⟨yp2 BK421⟩,⟨yq109⟩⟩
 case rest =>
  clear HC2;obtain ⟨kq,x5_1,rfl,HA,HJ1,BK421,HB⟩:=hcut
  cases kq with
  | zero => exact absurd HA.out (by simp [zbn.j0])
  | succ kj1 =>
   have H:=HA.out;clear HA;simp only [zbn.j0] at H
   by_cases c6 : x5_1 = true
   ·subst c6
    have H1 : (some 0) = some r:=yq36
    clear H;have H:=H1;clear H1;obtain rfl:=Option.some.inj H;go_wp2;go_ret;exact ⟨yq7,by first | exact zs1 HB GE421 | exact zs0 HB⟩
   ·replace c6:=Bool.eq_false_iff.mpr c6
    subst c6
    have H1 : (if a0_0 = 3 then (zbn.j1 kj1 a0_0 (a0_0 == 3)) else (zbn.j1 kj1 a0_0 (a0_0 == 5))) = some r:=yq12
    clear H;have H:=H1;clear H1;have HC7:=zA0 H;clear H
    go_upto_if 8 with (fail)
    go_cut [8] (fun v8 wc => ∃ (kq : Nat) (x8_6 : Bool),v8 = .bool x8_6∧Aside0 (zbn.j1 kq a0_0 x8_6 = some r)∧Aside0 (kq≤kj1)∧Aside0 (wc.heap[gb421]? = some (.cells #[.int .i64 a0_0,.int .i64 a0_1,.int .u64 a0_2,.string a0_3,(.slice A0_4 l0_4.length c0_4)] 117 (0,0)))∧Aside0 (Below w.heap.size w wc))
    case first =>
     have H:=HC7.out;clear HC7
     by_cases c8 : a0_0 = 3
     ·rw [if_pos c8] at H
      have c8b0 : (a0_0 == 3) = true:=beq_iff_eq.mpr c8;have c8b1 : (a0_0 != 3) = false:=bne_eq_false_iff_eq.mpr c8;clear c8
      (first | rw [c8b0] | (simp only [zc7,zdc];rw [c8b0]) | skip)
      have H':=zA0 H;clear H;go_wp2
      go_meet
      case rel => exact ⟨_,((a0_0 == 3)),yq6,H',⟨by have:=HJ1.out;first | omega | exact Nat.le_refl _⟩,⟨yp2 BK421⟩,⟨yq109⟩⟩
     ·rw [if_neg c8] at H
      have c8b0 : (a0_0 == 3) = false:=beq_eq_false_iff_ne.mpr c8;have c8b1 : (a0_0 != 3) = true:=bne_iff_ne.mpr c8
      (first | rw [c8b0] | (simp only [zc7,zdc];rw [c8b0]) | skip)
      have H':=zA0 H;clear H;go_wp2
      go_meet
      case rel => exact ⟨_,((a0_0 == 5)),yq6,H',⟨by have:=HJ1.out;first | omega | exact Nat.le_refl _⟩,⟨yp2 BK421⟩,⟨yq109⟩⟩
    case rest =>
     clear HC7;obtain ⟨kq,x8_6,rfl,HA,HJ6,BK421,HB⟩:=hcut
     cases kq with
     | zero => exact absurd HA.out (by simp [zbn.j1])
     | succ kj6 =>
      have H:=HA.out;clear HA;simp only [zbn.j1] at H
      by_cases c9 : x8_6 = true
      ·subst c9
       have H1 : (none) = some r:=yq36
       clear H;have H:=H1;clear H1;exact absurd H (by simp)
      ·replace c9:=Bool.eq_false_iff.mpr c9
       subst c9
       have H1 : (if a0_0 = 4 then (some 2) else (if a0_0 = 6 then (some 3) else (none))) = some r:=yq12
       clear H;have H:=H1;clear H1
       by_cases c10 : a0_0 = 4
       ·rw [if_pos c10] at H
        have c10b0 : (a0_0 == 4) = true:=beq_iff_eq.mpr c10;have c10b1 : (a0_0 != 4) = false:=bne_eq_false_iff_eq.mpr c10;clear c10;obtain rfl:=Option.some.inj H;go_wp2;go_ret;exact ⟨yq7,by first | exact zs1 HB GE421 | exact zs0 HB⟩
       ·rw [if_neg c10] at H
        have c10b0 : (a0_0 == 4) = false:=beq_eq_false_iff_ne.mpr c10;have c10b1 : (a0_0 != 4) = true:=bne_iff_ne.mpr c10
        by_cases c11 : a0_0 = 6
        ·rw [if_pos c11] at H
         have c11b0 : (a0_0 == 6) = true:=beq_iff_eq.mpr c11;have c11b1 : (a0_0 != 6) = false:=bne_eq_false_iff_eq.mpr c11;clear c11;obtain rfl:=Option.some.inj H;go_wp2;go_ret;exact ⟨yq7,by first | exact zs1 HB GE421 | exact zs0 HB⟩
        ·rw [if_neg c11] at H
         exact absurd H (by simp)
end Go.Proofs.YtkgdhdjkpnalmaaGreatDoor.P
end
