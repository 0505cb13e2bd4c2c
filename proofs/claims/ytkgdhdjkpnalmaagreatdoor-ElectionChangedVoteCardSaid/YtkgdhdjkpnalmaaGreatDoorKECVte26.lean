/- What is proved here: a part of the proof of ElectionChangedVote: Px37, Px38. No conditions beside those that each theorem states. -/
import Derived.Test.YtkgdhdjkpnalmaaGreatDoorKECVte4
import Derived.Test.YtkgdhdjkpnalmaaGreatDoorKECVte23
import Derived.Test.YtkgdhdjkpnalmaaGreatDoorKECVte24
import Derived.Test.YtkgdhdjkpnalmaaGreatDoorKECVte25
set_option linter.unusedVariables false
set_option linter.unusedSimpArgs false
section
namespace Go.Proofs.YtkgdhdjkpnalmaaGreatDoor.P
open Go.RowKit Go.Proofs.YtkgdhdjkpnalmaaGreatDoorW.PrintWords Go.Proofs.YtkgdhdjkpnalmaaGreatDoorW.PrintLast Go.Proofs.YtkgdhdjkpnalmaaGreatDoorW.PrintMore
attribute [local go_sem] zcd zca zci zcj zb1 zb2 zcc zcb
theorem za7.group (k : Nat) : za7.C k∧zat.C k:=by
 induction k using Nat.strongRecOn with
 | _ k ih =>
 exact ⟨za7.step k (fun m h => (ih m h).1) (fun m h => (ih m h).2),zat.step k (fun m h => (ih m h).1) (fun m h => (ih m h).2)⟩
theorem zat.calls (k : Nat) : ∀ (a0_0 : Int) (a0_1 : Int) (a0_2 : Int) (a0_3 : ByteArray) (A0_4 : Option Addr) (c0_4 : Nat) (l0_4 : List (S117)) (r : ByteArray) (w : World) (hr0_4 : Kd.C k117 w A0_4 l0_4.length l0_4) (hc0_4 : l0_4.length≤c0_4) (h : zat.f k a0_0 a0_1 a0_2 a0_3 l0_4 = some r),
  Calls Tryz.prog 78 #[.agg #[.int .i64 a0_0,.int .i64 a0_1,.int .u64 a0_2,.string a0_3,.slice A0_4 l0_4.length c0_4]] w fun e w' => e = .returned (.string r)∧Below w.heap.size w w':=(za7.group k).2
mutual
def zbu.l0 : Nat→List (S114)→ByteArray→ByteArray→Int→Option (ByteArray)
 | 0,_,_,_,_ => none
 | k + 1,x0,x1,x5,x6 => if x6 < (x0.length : Int) then (if 0≤x6 then (if ((zbe x0 x6).f0) = 1 then (none) else (if ((zbe x0 x6).f0) = 2 then (none) else (if ((zbe x0 x6).f0) = 5 then (if x5.size + x1.size≤9223372036854775807 then (if (x5 ++ x1).size + 4≤9223372036854775807 then (if 0 < (((zbe x0 x6).f2).length : Int) then ((zat.f k ((zad ((zbe x0 x6).f2) 0).f0) ((zad ((zbe x0 x6).f2) 0).f1) ((zad ((zbe x0 x6).f2) 0).f2) ((zad ((zbe x0 x6).f2) 0).f3) ((zad ((zbe x0 x6).f2) 0).f4)).bind fun t468 => (if ((x5 ++ x1) ++ (⟨#[111,117,116,32]⟩ : ByteArray)).size + t468.size≤9223372036854775807 then (if (((x5 ++ x1) ++ (⟨#[111,117,116,32]⟩ : ByteArray)) ++ t468).size + 2≤9223372036854775807 then (zbu.l0 k x0 x1 ((((x5 ++ x1) ++ (⟨#[111,117,116,32]⟩ : ByteArray)) ++ t468) ++ (⟨#[59,10]⟩ : ByteArray)) (wrap64 (x6 + 1))) else (none)) else (none))) else (none)) else (none)) else (none)) else (if ((zbe x0 x6).f0) = 3 then (none) else (none))))) else (none)) else (some x5)
def zbu.f : Nat→List (S114)→ByteArray→Option (ByteArray)
 | 0,_,_ => none
 | k + 1,l0,a1 => zbu.l0 k l0 a1 (⟨#[]⟩ : ByteArray) 0
end
theorem zbu.mono_l : ∀ k,(∀ y0 y1,LeO (zbu.f k y0 y1) (zbu.f (k + 1) y0 y1))∧(∀ y0 y1 y2 y3,LeO (zbu.l0 k y0 y1 y2 y3) (zbu.l0 (k + 1) y0 y1 y2 y3))
 | 0 => ⟨fun _ _ r h => by simp [zbu.f] at h,fun _ _ _ _ r h => by simp [zbu.l0] at h⟩
 | k + 1 => by
  obtain ⟨ih0,ih1⟩:=zbu.mono_l k;refine ⟨?_,?_⟩
  ·intro y0 y1
   unfold zbu.f
   exact yq37
  ·intro y0 y1 y2 y3
   unfold zbu.l0
   exact (by repeat' first | with_reducible apply ih0 | with_reducible apply ih1 | with_reducible apply zat.mono | with_reducible apply LeO.refl | with_reducible apply LeO.none | (with_reducible refine LeO.ite ?_ ?_) | (with_reducible refine LeO.bind ?_ (fun _ => ?_)))
theorem zbu.mono : ∀ a0 a1 k,LeO (zbu.f k a0 a1) (zbu.f (k + 1) a0 a1):=by
 intro a0 a1 k;obtain ⟨ih0,ih1⟩:=zbu.mono_l k;exact ih0 a0 a1
set_option maxHeartbeats 8000000 in
set_option maxRecDepth 100000 in
theorem zbu.calls (k : Nat) : ∀ (A0 : Option Addr) (c0 : Nat) (l0 : List (S114)) (a1 : ByteArray) (r : ByteArray) (w : World) (hr0 : Kd.C k114 w A0 l0.length l0) (hc0 : l0.length≤c0) (h : zbu.f k l0 a1 = some r),
  Calls Tryz.prog 66 #[.slice A0 l0.length c0,.string a1] w fun e w' => e = .returned (.string r)∧Below w.heap.size w w':=by
 induction k using Nat.strongRecOn with
 | _ k ih =>
 intro A0 c0 l0 a1 r w hr0 hc0 h
 cases k with
 | zero => exact absurd h (by simp [zbu.f])
 | succ k =>
 simp only [zbu.f] at h;have hu114:=Tryz.underlying114;have hu117:=Tryz.underlying117;have HR0:=zA0 hr0;have HC0:=zA0 hc0;clear hr0 hc0;have HB:=zA0 (Below.refl w.heap.size w);have H : (zbu.l0 k l0 a1 (⟨#[]⟩ : ByteArray) 0) = some r:=h;clear h;have H':=zA0 H;clear H;go_enter Tryz.func66,Tryz.ntmps66;go_wp2
 go_loopg [5,6] k (fun kq v5 v6 w' => ∃ (x5_1 : ByteArray) (x6_1 : Int),v5 = .string x5_1∧v6 = .int .i64 x6_1∧Aside0 (zbu.l0 kq l0 a1 x5_1 x6_1 = some r)∧Aside0 (kq≤k)∧Aside0 (Below w.heap.size w w'))
 case atStart => exact ⟨((⟨#[]⟩ : ByteArray)),(0),yq6,yq6,H',⟨Nat.le_refl _⟩,⟨yq38⟩⟩
 case round =>
  clear H';obtain ⟨x5_1,x6_1,rfl,rfl,HA,HK1,HB⟩:=hrel
  cases gk with
  | zero => exact absurd HA.out (by simp [zbu.l0])
  | succ k1 =>
   have H:=HA.out;clear HA;simp only [zbu.l0] at H
   by_cases c3 : x6_1 < (l0.length : Int)
   ·rw [if_pos c3] at H
    have c3b0 : decide (x6_1 < (l0.length : Int)) = true:=decide_eq_true c3;clear c3
    by_cases c4 : 0≤x6_1
    ·rw [if_pos c4] at H
     have c4b0 : decide (0≤x6_1) = true:=decide_eq_true c4;clear c4
     by_cases c5 : ((zbe l0 x6_1).f0) = 1
     ·rw [if_pos c5] at H
      exact absurd H (by simp)
     ·rw [if_neg c5] at H
      have c5b0 : (((zbe l0 x6_1).f0) == 1) = false:=beq_eq_false_iff_ne.mpr c5;have c5b1 : (((zbe l0 x6_1).f0) != 1) = true:=bne_iff_ne.mpr c5
      by_cases c6 : ((zbe l0 x6_1).f0) = 2
      ·rw [if_pos c6] at H
       exact absurd H (by simp)
      ·rw [if_neg c6] at H
       have c6b0 : (((zbe l0 x6_1).f0) == 2) = false:=beq_eq_false_iff_ne.mpr c6;have c6b1 : (((zbe l0 x6_1).f0) != 2) = true:=bne_iff_ne.mpr c6
       by_cases c7 : ((zbe l0 x6_1).f0) = 5
       ·rw [if_pos c7] at H
        have c7b0 : (((zbe l0 x6_1).f0) == 5) = true:=beq_iff_eq.mpr c7;have c7b1 : (((zbe l0 x6_1).f0) != 5) = false:=bne_eq_false_iff_eq.mpr c7;clear c7
        by_cases c8 : x5_1.size + a1.size≤9223372036854775807
        ·rw [if_pos c8] at H
         have c8b0:=eq_true c8;have c8b1 : decide (x5_1.size + a1.size≤9223372036854775807) = true:=decide_eq_true c8;(try have c8b2 : (9223372036854775807 < x5_1.size + a1.size) = False:=eq_false (Nat.not_lt.2 c8))
         by_cases c9 : (x5_1 ++ a1).size + 4≤9223372036854775807
         ·rw [if_pos c9] at H
          have c9b0:=eq_true c9;have c9b1 : decide ((x5_1 ++ a1).size + 4≤9223372036854775807) = true:=decide_eq_true c9;(try have c9b2 : (9223372036854775807 < (x5_1 ++ a1).size + 4) = False:=eq_false (Nat.not_lt.2 c9))
          try have c9b3 : (9223372036854775807 < x5_1.size + a1.size + 4) = False:=by have h_:=c9b2;simp only [ByteArray.size_append] at h_;exact h_
          by_cases c10 : 0 < (((zbe l0 x6_1).f2).length : Int)
          ·rw [if_pos c10] at H
           have c10b0 : decide (0 < (((zbe l0 x6_1).f2).length : Int)) = true:=decide_eq_true c10;have c10b1 : decide (0 < ((zbe l0 x6_1).f2).length) = true:=decide_eq_true (by omega);clear c10;replace H:=Option.bind_eq_some_iff.mp H;obtain ⟨t468,A110,H⟩:=H;replace H : (if ((x5_1 ++ a1) ++ (⟨#[111,117,116,32]⟩ : ByteArray)).size + t468.size≤9223372036854775807 then (if (((x5_1 ++ a1) ++ (⟨#[111,117,116,32]⟩ : ByteArray)) ++ t468).size + 2≤9223372036854775807 then (zbu.l0 k1 l0 a1 ((((x5_1 ++ a1) ++ (⟨#[111,117,116,32]⟩ : ByteArray)) ++ t468) ++ (⟨#[59,10]⟩ : ByteArray)) (wrap64 (x6_1 + 1))) else (none)) else (none)) = some r:=H;have A11:=zA0 A110;clear A110
           by_cases c12 : ((x5_1 ++ a1) ++ (⟨#[111,117,116,32]⟩ : ByteArray)).size + t468.size≤9223372036854775807
           ·rw [if_pos c12] at H
            have c12b0:=eq_true c12;have c12b1 : decide (((x5_1 ++ a1) ++ (⟨#[111,117,116,32]⟩ : ByteArray)).size + t468.size≤9223372036854775807) = true:=decide_eq_true c12;(try have c12b2 : (9223372036854775807 < ((x5_1 ++ a1) ++ (⟨#[111,117,116,32]⟩ : ByteArray)).size + t468.size) = False:=eq_false (Nat.not_lt.2 c12))
            try have c12b3 : (9223372036854775807 < x5_1.size + a1.size + 4 + t468.size) = False:=by have h_:=c12b2;simp only [ByteArray.size_append] at h_;exact h_
            by_cases c13 : (((x5_1 ++ a1) ++ (⟨#[111,117,116,32]⟩ : ByteArray)) ++ t468).size + 2≤9223372036854775807
            ·rw [if_pos c13] at H
             have c13b0:=eq_true c13;have c13b1 : decide ((((x5_1 ++ a1) ++ (⟨#[111,117,116,32]⟩ : ByteArray)) ++ t468).size + 2≤9223372036854775807) = true:=decide_eq_true c13;(try have c13b2 : (9223372036854775807 < (((x5_1 ++ a1) ++ (⟨#[111,117,116,32]⟩ : ByteArray)) ++ t468).size + 2) = False:=eq_false (Nat.not_lt.2 c13))
             try have c13b3 : (9223372036854775807 < x5_1.size + a1.size + 4 + t468.size + 2) = False:=by have h_:=c13b2;simp only [ByteArray.size_append] at h_;exact h_
             have H':=zA0 H;clear H;have p465 : 0≤(x6_1 : Int):=of_decide_eq_true yq3;have q465 : x6_1 < (l0.length : Int):=of_decide_eq_true yq3;obtain ⟨ad465,A465_2,c465_2,A465_3,c465_3,A465_4,c465_4,e465,hx465_0,hx465_1,hx465_2,hx465_3,hx465_4,hl465_2,hi465_2,hl465_3,hi465_3,hl465_4,hi465_4⟩:=at_T114 HR0.out x6_1 p465 q465;cases e465;replace hx465_0:=(HB.out.cell (World.block_lt_of_cell? w _ hx465_0)).trans hx465_0;replace hx465_1:=(HB.out.cell (World.block_lt_of_cell? w _ hx465_1)).trans hx465_1;replace hx465_2:=(HB.out.cell (World.block_lt_of_cell? w _ hx465_2)).trans hx465_2;replace hx465_3:=(HB.out.cell (World.block_lt_of_cell? w _ hx465_3)).trans hx465_3;replace hx465_4:=(HB.out.cell (World.block_lt_of_cell? w _ hx465_4)).trans hx465_4;have HR465_2:=zA0 hi465_2;have HC465_2:=zA0 hl465_2;clear hi465_2 hl465_2;have HR465_3:=zA0 hi465_3;have HC465_3:=zA0 hl465_3;clear hi465_3 hl465_3;have HR465_4:=zA0 hi465_4;have HC465_4:=zA0 hl465_4;clear hi465_4 hl465_4;replace p465:=eq_true p465;replace q465:=eq_true q465
             go_wp2_with (first | ((with_reducible refine zbm (N:=7) rfl ?_);refine zbk ?hg (N:=7) ?hd (cs:=#[.int .i64 0,.string (⟨#[]⟩ : ByteArray),.slice none 0 0,.slice none 0 0,.slice none 0 0]) (t:=114) ?hr ?_;(case hd => rfl);(case hg => rfl);(case hr => first | (go_simp;done) | (go_simp;rfl));intro gb466 hg w14 hbox hb;have n0_:=zA0 (zaj (zs0 HB) hb);have n1_:=zA0 (hbox);have n2_:=zA0 ((yq30 : w.heap.size≤gb466));have n3_:=zA0 ((yq30 : w.heap.size≤gb466));clear HB;revert n0_ n1_ n2_ n3_;intro HB BK466 GW466 GE466;clear hb hbox hg;obtain ⟨_,_,_,_,_⟩:=zc5 BK466.out;obtain ⟨_,_,_,_,_⟩:=zf5 BK466.out;have p467 : 0≤(0 : Int):=(by omega);have q467 : 0 < (((zbe l0 x6_1).f2).length : Int):=of_decide_eq_true yq3;obtain ⟨ad467,A467_4,c467_4,e467,hx467_0,hx467_1,hx467_2,hx467_3,hx467_4,hl467_4,hi467_4⟩:=zea HR465_2.out 0 p467 q467;cases e467;have qi467 : (0 < ((zbe l0 x6_1).f2).length) = True:=eq_true (by omega);(try rw [show ((0 : Int)).toNat = 0 from rfl] at hx467_0);(try rw [show 0 * 5 = 0 from rfl] at hx467_0);(try rw [Addr.add_zero'] at hx467_0);(try rw [show ((0 : Int)).toNat = 0 from rfl] at hx467_1);(try rw [show 0 * 5 = 0 from rfl] at hx467_1);(try rw [Addr.add_zero'] at hx467_1);(try rw [show ((0 : Int)).toNat = 0 from rfl] at hx467_2);(try rw [show 0 * 5 = 0 from rfl] at hx467_2);(try rw [Addr.add_zero'] at hx467_2);(try rw [show ((0 : Int)).toNat = 0 from rfl] at hx467_3);(try rw [show 0 * 5 = 0 from rfl] at hx467_3);(try rw [Addr.add_zero'] at hx467_3);(try rw [show ((0 : Int)).toNat = 0 from rfl] at hx467_4);(try rw [show 0 * 5 = 0 from rfl] at hx467_4);(try rw [Addr.add_zero'] at hx467_4);have hn467_0 : ad467.block≠gb466:=Nat.ne_of_lt (Nat.lt_of_lt_of_le yq129 GW466.out);have hn467_1 : ad467.block≠gb466:=Nat.ne_of_lt (Nat.lt_of_lt_of_le yq129 GW466.out);have hn467_2 : ad467.block≠gb466:=Nat.ne_of_lt (Nat.lt_of_lt_of_le yq129 GW466.out);have hn467_3 : ad467.block≠gb466:=Nat.ne_of_lt (Nat.lt_of_lt_of_le yq129 GW466.out);have hn467_4 : ad467.block≠gb466:=Nat.ne_of_lt (Nat.lt_of_lt_of_le yq129 GW466.out);replace hx467_0:=(HB.out.cell (World.block_lt_of_cell? w _ hx467_0)).trans hx467_0;replace hx467_1:=(HB.out.cell (World.block_lt_of_cell? w _ hx467_1)).trans hx467_1;replace hx467_2:=(HB.out.cell (World.block_lt_of_cell? w _ hx467_2)).trans hx467_2;replace hx467_3:=(HB.out.cell (World.block_lt_of_cell? w _ hx467_3)).trans hx467_3;replace hx467_4:=(HB.out.cell (World.block_lt_of_cell? w _ hx467_4)).trans hx467_4;have HR467_4:=zA0 hi467_4;have HC467_4:=zA0 hl467_4;clear hi467_4 hl467_4;replace hx467_0:=(zbc (p:=⟨gb466,0,none⟩) yq114 (.int .i64 ((zbe l0 x6_1).f0))).trans hx467_0;replace hx467_1:=(zbc (p:=⟨gb466,0,none⟩) yq114 (.int .i64 ((zbe l0 x6_1).f0))).trans hx467_1;replace hx467_2:=(zbc (p:=⟨gb466,0,none⟩) yq114 (.int .i64 ((zbe l0 x6_1).f0))).trans hx467_2;replace hx467_3:=(zbc (p:=⟨gb466,0,none⟩) yq114 (.int .i64 ((zbe l0 x6_1).f0))).trans hx467_3;replace hx467_4:=(zbc (p:=⟨gb466,0,none⟩) yq114 (.int .i64 ((zbe l0 x6_1).f0))).trans hx467_4;replace hx467_0:=(zbc (p:=⟨gb466,1,none⟩) yq113 (.string ((zbe l0 x6_1).f1))).trans hx467_0;replace hx467_1:=(zbc (p:=⟨gb466,1,none⟩) yq113 (.string ((zbe l0 x6_1).f1))).trans hx467_1;replace hx467_2:=(zbc (p:=⟨gb466,1,none⟩) yq113 (.string ((zbe l0 x6_1).f1))).trans hx467_2;replace hx467_3:=(zbc (p:=⟨gb466,1,none⟩) yq113 (.string ((zbe l0 x6_1).f1))).trans hx467_3;replace hx467_4:=(zbc (p:=⟨gb466,1,none⟩) yq113 (.string ((zbe l0 x6_1).f1))).trans hx467_4;replace hx467_0:=(zbc (p:=⟨gb466,2,none⟩) yq112 (.slice (some ad467) ((zbe l0 x6_1).f2).length c465_2)).trans hx467_0;replace hx467_1:=(zbc (p:=⟨gb466,2,none⟩) yq112 (.slice (some ad467) ((zbe l0 x6_1).f2).length c465_2)).trans hx467_1;replace hx467_2:=(zbc (p:=⟨gb466,2,none⟩) yq112 (.slice (some ad467) ((zbe l0 x6_1).f2).length c465_2)).trans hx467_2;replace hx467_3:=(zbc (p:=⟨gb466,2,none⟩) yq112 (.slice (some ad467) ((zbe l0 x6_1).f2).length c465_2)).trans hx467_3;replace hx467_4:=(zbc (p:=⟨gb466,2,none⟩) yq112 (.slice (some ad467) ((zbe l0 x6_1).f2).length c465_2)).trans hx467_4;replace hx467_0:=(zbc (p:=⟨gb466,3,none⟩) yq111 (.slice A465_3 ((zbe l0 x6_1).f3).length c465_3)).trans hx467_0;replace hx467_1:=(zbc (p:=⟨gb466,3,none⟩) yq111 (.slice A465_3 ((zbe l0 x6_1).f3).length c465_3)).trans hx467_1;replace hx467_2:=(zbc (p:=⟨gb466,3,none⟩) yq111 (.slice A465_3 ((zbe l0 x6_1).f3).length c465_3)).trans hx467_2;replace hx467_3:=(zbc (p:=⟨gb466,3,none⟩) yq111 (.slice A465_3 ((zbe l0 x6_1).f3).length c465_3)).trans hx467_3;replace hx467_4:=(zbc (p:=⟨gb466,3,none⟩) yq111 (.slice A465_3 ((zbe l0 x6_1).f3).length c465_3)).trans hx467_4;replace hx467_0:=(zbc (p:=⟨gb466,4,none⟩) yq110 (.slice A465_4 ((zbe l0 x6_1).f4).length c465_4)).trans hx467_0;replace hx467_1:=(zbc (p:=⟨gb466,4,none⟩) yq110 (.slice A465_4 ((zbe l0 x6_1).f4).length c465_4)).trans hx467_1;replace hx467_2:=(zbc (p:=⟨gb466,4,none⟩) yq110 (.slice A465_4 ((zbe l0 x6_1).f4).length c465_4)).trans hx467_2;replace hx467_3:=(zbc (p:=⟨gb466,4,none⟩) yq110 (.slice A465_4 ((zbe l0 x6_1).f4).length c465_4)).trans hx467_3;replace hx467_4:=(zbc (p:=⟨gb466,4,none⟩) yq110 (.slice A465_4 ((zbe l0 x6_1).f4).length c465_4)).trans hx467_4;clear hn467_0 hn467_1 hn467_2 hn467_3 hn467_4;replace p467:=eq_true p467;replace q467:=eq_true q467) | ((with_reducible refine zav (f:=78) rfl ?_);refine zcf (some 100) rfl rfl Tryz.func78 (by kernel_rfl) rfl #[.agg #[.int .i64 ((zad ((zbe l0 x6_1).f2) 0).f0),.int .i64 ((zad ((zbe l0 x6_1).f2) 0).f1),.int .u64 ((zad ((zbe l0 x6_1).f2) 0).f2),.string ((zad ((zbe l0 x6_1).f2) 0).f3),.slice A467_4 ((zad ((zbe l0 x6_1).f2) 0).f4).length c467_4]] rfl zt ?_;(with_reducible refine (zat.calls k1 ((zad ((zbe l0 x6_1).f2) 0).f0) ((zad ((zbe l0 x6_1).f2) 0).f1) ((zad ((zbe l0 x6_1).f2) 0).f2) ((zad ((zbe l0 x6_1).f2) 0).f3) _ _ ((zad ((zbe l0 x6_1).f2) 0).f4) t468 _ ?side1 ?side2 A11.out).mono ?_);(case side1 => exact Kd.C_below HR467_4.out (by first | exact zs1 HB GE466 | exact zs0 HB));(case side2 => exact HC467_4.out);rintro e w16 ⟨rfl,hb⟩;refine ⟨_,rfl,?_⟩;have n0_:=zA0 (za4 (g:=gb466) (o:=.cells #[.int .i64 ((zbe l0 x6_1).f0),.string ((zbe l0 x6_1).f1),.slice (some ad467) ((zbe l0 x6_1).f2).length c465_2,.slice A465_3 ((zbe l0 x6_1).f3).length c465_3,.slice A465_4 ((zbe l0 x6_1).f4).length c465_4] 114 (0,0)) (by refine yb1 ?_;refine zaz (cs:=#[.int .i64 ((zbe l0 x6_1).f0),.string ((zbe l0 x6_1).f1),.slice (some ad467) ((zbe l0 x6_1).f2).length c465_2,.slice A465_3 ((zbe l0 x6_1).f3).length c465_3,.slice none 0 0]) ?_ 4 _ rfl;refine yb1 ?_;refine zaz (cs:=#[.int .i64 ((zbe l0 x6_1).f0),.string ((zbe l0 x6_1).f1),.slice (some ad467) ((zbe l0 x6_1).f2).length c465_2,.slice none 0 0,.slice none 0 0]) ?_ 3 _ rfl;refine yb1 ?_;refine zaz (cs:=#[.int .i64 ((zbe l0 x6_1).f0),.string ((zbe l0 x6_1).f1),.slice none 0 0,.slice none 0 0,.slice none 0 0]) ?_ 2 _ rfl;refine yb1 ?_;refine zaz (cs:=#[.int .i64 ((zbe l0 x6_1).f0),.string (⟨#[]⟩ : ByteArray),.slice none 0 0,.slice none 0 0,.slice none 0 0]) ?_ 1 _ rfl;refine yb1 ?_;refine zaz (cs:=#[.int .i64 0,.string (⟨#[]⟩ : ByteArray),.slice none 0 0,.slice none 0 0,.slice none 0 0]) ?_ 0 _ rfl;refine yb1 ?_;exact BK466.out) hb);have n1_:=zA0 (zaj (by first | exact zs1 HB GE466 | exact zs0 HB) hb);clear BK466 HB;revert n0_ n1_;intro BK466 HB;clear hb))
             go_roundg k1
             case measure => have:=HK1.out;omega
             case rel => exact ⟨((((x5_1 ++ a1) ++ (⟨#[111,117,116,32]⟩ : ByteArray)) ++ t468) ++ (⟨#[59,10]⟩ : ByteArray)),(wrap64 (x6_1 + 1)),yq6,yq6,H',⟨yq95⟩,⟨by repeat (first | (with_reducible first | exact HB.out | apply zbp | apply za5 | apply zbr | refine zba ?_ GE466.out) | exact HB.out)⟩⟩
            ·rw [if_neg c13] at H
             exact absurd H (by simp)
           ·rw [if_neg c12] at H
            exact absurd H (by simp)
          ·rw [if_neg c10] at H
           exact absurd H (by simp)
         ·rw [if_neg c9] at H
          exact absurd H (by simp)
        ·rw [if_neg c8] at H
         exact absurd H (by simp)
       ·rw [if_neg c7] at H
        have c7b0 : (((zbe l0 x6_1).f0) == 5) = false:=beq_eq_false_iff_ne.mpr c7;have c7b1 : (((zbe l0 x6_1).f0) != 5) = true:=bne_iff_ne.mpr c7
        by_cases c17 : ((zbe l0 x6_1).f0) = 3
        ·rw [if_pos c17] at H
         exact absurd H (by simp)
        ·rw [if_neg c17] at H
         exact absurd H (by simp)
    ·rw [if_neg c4] at H
     exact absurd H (by simp)
   ·rw [if_neg c3] at H
    have c3b0 : decide (x6_1 < (l0.length : Int)) = false:=decide_eq_false c3;clear c3;obtain rfl:=Option.some.inj H;go_wp2;go_ret;exact ⟨yq7,zs0 HB⟩
end Go.Proofs.YtkgdhdjkpnalmaaGreatDoor.P
end
