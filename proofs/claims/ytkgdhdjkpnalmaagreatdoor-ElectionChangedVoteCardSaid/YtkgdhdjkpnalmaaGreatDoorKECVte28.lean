/- What is proved here: a part of the proof of ElectionChangedVote: Px40, Epp, Shelf. No conditions beside those that each theorem states. -/
import Derived.Test.YtkgdhdjkpnalmaaGreatDoorKECVte4
import Derived.Test.YtkgdhdjkpnalmaaGreatDoorKECVte19
import Derived.Test.YtkgdhdjkpnalmaaGreatDoorKECVte21
import Derived.Test.YtkgdhdjkpnalmaaGreatDoorKECVte23
import Derived.Test.YtkgdhdjkpnalmaaGreatDoorKECVte27
import Derived.Test.YtkgdhdjkpnalmaaGreatDoorKECVte9
import Derived.Test.YtkgdhdjkpnalmaaGreatDoorKECVte18
import Derived.Shelf.Strings.Builder1
import Derived.Shelf.Strings.BuilderF
import Derived.Shelf.Strings.BuilderK
import Derived.Shelf.Strings.BuilderCap
import Derived.Test.YtkgdhdjkpnalmaaGreatDoorProg
set_option linter.unusedVariables false
set_option linter.unusedSimpArgs false
section
namespace Go.Proofs.YtkgdhdjkpnalmaaGreatDoor.P
open Go.RowKit Go.Proofs.YtkgdhdjkpnalmaaGreatDoorW.PrintWords Go.Proofs.YtkgdhdjkpnalmaaGreatDoorW.PrintLast Go.Proofs.YtkgdhdjkpnalmaaGreatDoorW.PrintMore
attribute [local go_sem] zcd zca zci zcj zb1 zb2 zcc zcb
mutual
def zbi.l0 : Nat→Int→List (S50)→List (S87)→List (S114)→Option (Bool)
 | 0,_,_,_,_ => none
 | k + 1,x3,x476000,x476001,x476002 => if x3 < (x476000.length : Int) then (if 0≤x3 then ((zce.f k ((zaq x476000 x3).f0)).bind fun t478 => (if t478 = true then (if ((zaq x476000 x3).f1) < 1 then (none) else (if ((zaq x476000 x3).f1) > 13 then (none) else (if ((zaq x476000 x3).f2) < 1 then (none) else (if ((zaq x476000 x3).f2) > 16 then (none) else (if ((zaq x476000 x3).f3) < 0 then (none) else (if ((zaq x476000 x3).f3) > 64 then (none) else (zbi.l0 k (wrap64 (x3 + 1)) x476000 x476001 x476002))))))) else (none))) else (none)) else (zbi.l1 k 0 x476000 x476001 x476002)
def zbi.l1 : Nat→Int→List (S50)→List (S87)→List (S114)→Option (Bool)
 | 0,_,_,_,_ => none
 | k + 1,x5,x476000,x476001,x476002 => if x5 < (x476001.length : Int) then (none) else ((za9.f k x476002 1).bind fun t479 => (if t479 = true then ((za0.f k x476000 x476001 x476002).bind fun t480 => (some (decide ((t480.size : Int)≤20000)))) else (some false)))
end
def zbi.f (k : Nat) (l0_0 : List (S50)) (l0_1 : List (S87)) (l0_2 : List (S114)) : Option (Bool):=zbi.l0 k 0 l0_0 l0_1 l0_2
theorem zbi.mono_l : ∀ k,(∀ y0 y1 y2 y3,LeO (zbi.l0 k y0 y1 y2 y3) (zbi.l0 (k + 1) y0 y1 y2 y3))∧(∀ y0 y1 y2 y3,LeO (zbi.l1 k y0 y1 y2 y3) (zbi.l1 (k + 1) y0 y1 y2 y3))
 | 0 => ⟨fun _ _ _ _ r h => by simp [zbi.l0] at h,fun _ _ _ _ r h => by simp [zbi.l1] at h⟩
 | k + 1 => by
  obtain ⟨ih0,ih1⟩:=zbi.mono_l k;refine ⟨?_,?_⟩
  ·intro y0 y1 y2 y3
   unfold zbi.l0
   exact (by repeat' first | with_reducible apply ih0 | with_reducible apply ih1 | with_reducible apply zce.mono | with_reducible apply LeO.refl | with_reducible apply LeO.none | (with_reducible refine LeO.ite ?_ ?_) | (with_reducible refine LeO.bind ?_ (fun _ => ?_)))
  ·intro y0 y1 y2 y3
   unfold zbi.l1
   exact (by repeat' first | with_reducible apply ih0 | with_reducible apply ih1 | with_reducible apply za0.mono | with_reducible apply za9.mono | with_reducible apply LeO.refl | with_reducible apply LeO.none | (with_reducible refine LeO.ite ?_ ?_) | (with_reducible refine LeO.bind ?_ (fun _ => ?_)))
theorem zbi.mono : ∀ a0 a1 a2 k,LeO (zbi.f k a0 a1 a2) (zbi.f (k + 1) a0 a1 a2):=by
 intro a0 a1 a2 k;obtain ⟨ih0,ih1⟩:=zbi.mono_l k;unfold zbi.f
 exact yq37
set_option maxHeartbeats 8000000 in
set_option maxRecDepth 100000 in
theorem zbi.calls (k : Nat) (A0_0 : Option Addr) (c0_0 : Nat) (l0_0 : List (S50)) (A0_1 : Option Addr) (c0_1 : Nat) (l0_1 : List (S87)) (A0_2 : Option Addr) (c0_2 : Nat) (l0_2 : List (S114)) (r : Bool) (w : World) (hr0_0 : Kd.C k50 w A0_0 l0_0.length l0_0) (hc0_0 : l0_0.length≤c0_0) (hr0_1 : Kd.C k87 w A0_1 l0_1.length l0_1) (hc0_1 : l0_1.length≤c0_1) (hr0_2 : Kd.C k114 w A0_2 l0_2.length l0_2) (hc0_2 : l0_2.length≤c0_2) (h : zbi.f k l0_0 l0_1 l0_2 = some r) :
  Calls Tryz.prog 28 #[.agg #[.slice A0_0 l0_0.length c0_0,.slice A0_1 l0_1.length c0_1,.slice A0_2 l0_2.length c0_2]] w fun e w' => e = .returned (.bool r)∧Below w.heap.size w w':=by
 have hu33:=Tryz.underlying33;have hu50:=Tryz.underlying50;have hu87:=Tryz.underlying87;have HR0_0:=zA0 hr0_0;have HC0_0:=zA0 hc0_0;clear hr0_0 hc0_0;have HR0_1:=zA0 hr0_1;have HC0_1:=zA0 hc0_1;clear hr0_1 hc0_1;have HR0_2:=zA0 hr0_2;have HC0_2:=zA0 hc0_2;clear hr0_2 hc0_2;have HB:=zA0 (Below.refl w.heap.size w);have H : (zbi.l0 k 0 l0_0 l0_1 l0_2) = some r:=h;clear h;have H':=zA0 H;clear H;go_enter Tryz.func28,Tryz.ntmps28
 go_wp2_with (first | ((with_reducible refine zbm (N:=1) rfl ?_);(try (refine zcy (by rfl) ?_;dsimp only));refine zbk ?hg (N:=1) ?hd (cs:=#[.slice A0_0 l0_0.length c0_0,.slice A0_1 l0_1.length c0_1,.slice A0_2 l0_2.length c0_2]) (t:=33) ?hr ?_;(case hd => rfl);(case hg => rfl);(case hr => first | (go_simp;done) | (go_simp;rfl));intro gb475 hg w2 hbox hb;have n0_:=zA0 (zaj (zs0 HB) hb);have n1_:=zA0 (hbox);have n2_:=zA0 ((yq30 : w.heap.size≤gb475));have n3_:=zA0 ((yq30 : w.heap.size≤gb475));clear HB;revert n0_ n1_ n2_ n3_;intro HB BK475 GW475 GE475;clear hb hbox hg))
 go_loopg [3] k (fun kq v3 w' => ∃ (x3_1 : Int),v3 = .int .i64 x3_1∧Aside0 (zbi.l0 kq x3_1 l0_0 l0_1 l0_2 = some r)∧Aside0 (kq≤k)∧Aside0 (w'.heap[gb475]? = some (.cells #[(.slice A0_0 l0_0.length c0_0),(.slice A0_1 l0_1.length c0_1),(.slice A0_2 l0_2.length c0_2)] 33 (0,0)))∧Aside0 (Below w.heap.size w w'))
 case atStart => exact ⟨(0),yq6,H',⟨Nat.le_refl _⟩,⟨yp2 BK475⟩,⟨yq189⟩⟩
 case round =>
  clear H';obtain ⟨x3_1,rfl,HA,HK1,BK475,HB⟩:=hrel
  cases gk with
  | zero => exact absurd HA.out (by simp [zbi.l0])
  | succ k1 =>
   have H:=HA.out;clear HA;simp only [zbi.l0] at H
   by_cases c3 : x3_1 < (l0_0.length : Int)
   ·rw [if_pos c3] at H
    have c3b0 : decide (x3_1 < (l0_0.length : Int)) = true:=decide_eq_true c3;clear c3
    by_cases c4 : 0≤x3_1
    ·rw [if_pos c4] at H
     have c4b0 : decide (0≤x3_1) = true:=decide_eq_true c4;clear c4;replace H:=Option.bind_eq_some_iff.mp H;obtain ⟨t478,A50,H⟩:=H;replace H : (if t478 = true then (if ((zaq l0_0 x3_1).f1) < 1 then (none) else (if ((zaq l0_0 x3_1).f1) > 13 then (none) else (if ((zaq l0_0 x3_1).f2) < 1 then (none) else (if ((zaq l0_0 x3_1).f2) > 16 then (none) else (if ((zaq l0_0 x3_1).f3) < 0 then (none) else (if ((zaq l0_0 x3_1).f3) > 64 then (none) else (zbi.l0 k1 (wrap64 (x3_1 + 1)) l0_0 l0_1 l0_2))))))) else (none)) = some r:=H;have A5:=zA0 A50;clear A50
     by_cases c6 : t478 = true
     ·subst c6
      have H1 : (if ((zaq l0_0 x3_1).f1) < 1 then (none) else (if ((zaq l0_0 x3_1).f1) > 13 then (none) else (if ((zaq l0_0 x3_1).f2) < 1 then (none) else (if ((zaq l0_0 x3_1).f2) > 16 then (none) else (if ((zaq l0_0 x3_1).f3) < 0 then (none) else (if ((zaq l0_0 x3_1).f3) > 64 then (none) else (zbi.l0 k1 (wrap64 (x3_1 + 1)) l0_0 l0_1 l0_2))))))) = some r:=yq36
      clear H;have H:=H1;clear H1
      by_cases c7 : ((zaq l0_0 x3_1).f1) < 1
      ·rw [if_pos c7] at H
       exact absurd H (by simp)
      ·rw [if_neg c7] at H
       have c7b0 : decide (((zaq l0_0 x3_1).f1) < 1) = false:=decide_eq_false c7;clear c7
       by_cases c8 : ((zaq l0_0 x3_1).f1) > 13
       ·rw [if_pos c8] at H
        exact absurd H (by simp)
       ·rw [if_neg c8] at H
        have c8b0 : decide (13 < ((zaq l0_0 x3_1).f1)) = false:=decide_eq_false c8;clear c8
        by_cases c9 : ((zaq l0_0 x3_1).f2) < 1
        ·rw [if_pos c9] at H
         exact absurd H (by simp)
        ·rw [if_neg c9] at H
         have c9b0 : decide (((zaq l0_0 x3_1).f2) < 1) = false:=decide_eq_false c9;clear c9
         by_cases c10 : ((zaq l0_0 x3_1).f2) > 16
         ·rw [if_pos c10] at H
          exact absurd H (by simp)
         ·rw [if_neg c10] at H
          have c10b0 : decide (16 < ((zaq l0_0 x3_1).f2)) = false:=decide_eq_false c10;clear c10
          by_cases c11 : ((zaq l0_0 x3_1).f3) < 0
          ·rw [if_pos c11] at H
           exact absurd H (by simp)
          ·rw [if_neg c11] at H
           have c11b0 : decide (((zaq l0_0 x3_1).f3) < 0) = false:=decide_eq_false c11;clear c11
           by_cases c12 : ((zaq l0_0 x3_1).f3) > 64
           ·rw [if_pos c12] at H
            exact absurd H (by simp)
           ·rw [if_neg c12] at H
            have c12b0 : decide (64 < ((zaq l0_0 x3_1).f3)) = false:=decide_eq_false c12;clear c12;have H':=zA0 H;clear H;obtain ⟨_,_,_⟩:=zc3 BK475.out;obtain ⟨_,_,_⟩:=zf3 BK475.out;have p476 : 0≤(x3_1 : Int):=of_decide_eq_true yq3;have q476 : x3_1 < (l0_0.length : Int):=of_decide_eq_true yq3;obtain ⟨ad476,e476,hx476_0,hx476_1,hx476_2,hx476_3⟩:=at_T50 HR0_0.out x3_1 p476 q476;cases e476;replace hx476_0:=(HB.out.cell (World.block_lt_of_cell? w _ hx476_0)).trans hx476_0;replace hx476_1:=(HB.out.cell (World.block_lt_of_cell? w _ hx476_1)).trans hx476_1;replace hx476_2:=(HB.out.cell (World.block_lt_of_cell? w _ hx476_2)).trans hx476_2;replace hx476_3:=(HB.out.cell (World.block_lt_of_cell? w _ hx476_3)).trans hx476_3;replace p476:=eq_true p476;replace q476:=eq_true q476
            go_wp2_with (first | ((with_reducible refine zbm (N:=4) rfl ?_);(try (refine zcy (by rfl) ?_;dsimp only));refine zbk ?hg (N:=4) ?hd (cs:=#[.string (⟨#[]⟩ : ByteArray),.int .i64 0,.int .i64 0,.int .i64 0]) (t:=50) ?hr ?_;(case hd => rfl);(case hg => rfl);(case hr => first | (go_simp;done) | (go_simp;rfl));intro gb477 hg w14 hbox hb;have n0_:=zA0 (za4 (g:=gb475) (o:=.cells #[.slice (some ad476) l0_0.length c0_0,.slice A0_1 l0_1.length c0_1,.slice A0_2 l0_2.length c0_2] 33 (0,0)) (zb BK475) hb);have n1_:=zA0 (zaj yq142 hb);have n2_:=zA0 (hbox);have n3_:=zA0 ((by rw [hg];exact (zb7 yq142) : w.heap.size≤gb477));have n4_:=zA0 ((by rw [hg];exact (zb7 yq142) : w.heap.size≤gb477));have n5_:=zA0 ((by rw [hg];exact Nat.ne_of_lt (zcs (g:=gb475) (o:=.cells #[.slice (some ad476) l0_0.length c0_0,.slice A0_1 l0_1.length c0_1,.slice A0_2 l0_2.length c0_2] 33 (0,0)) (zb BK475)) : gb475≠gb477));have n6_:=zA0 ((by rw [hg];exact Nat.ne_of_gt (zcs (g:=gb475) (o:=.cells #[.slice (some ad476) l0_0.length c0_0,.slice A0_1 l0_1.length c0_1,.slice A0_2 l0_2.length c0_2] 33 (0,0)) (zb BK475)) : gb477≠gb475));clear BK475 HB;revert n0_ n1_ n2_ n3_ n4_ n5_ n6_;intro BK475 HB BK477 GW477 GE477 NB475_477 NB477_475;clear hb hbox hg;have hnb15:=NB477_475.out;have hnc15:=NB475_477.out;obtain ⟨_,_,_,_⟩:=zc4 BK477.out;obtain ⟨_,_,_,_⟩:=zf4 BK477.out) | ((with_reducible refine zav (f:=44) rfl ?_);refine zcf (some 21) rfl rfl Tryz.func44 (by kernel_rfl) rfl #[.string ((zaq l0_0 x3_1).f0)] rfl zt ?_;(with_reducible refine (zce.calls k1 ((zaq l0_0 x3_1).f0) true _ A5.out).mono ?_);rintro e w17 ⟨rfl,hb⟩;refine ⟨_,rfl,?_⟩;have n0_:=zA0 (za4 (g:=gb475) (o:=.cells #[.slice (some ad476) l0_0.length c0_0,.slice A0_1 l0_1.length c0_1,.slice A0_2 l0_2.length c0_2] 33 (0,0)) (by refine yb1 ?_;refine zbv ?_ NB475_477.out _;refine yb1 ?_;refine zbv ?_ NB475_477.out _;refine yb1 ?_;refine zbv ?_ NB475_477.out _;refine yb1 ?_;refine zbv ?_ NB475_477.out _;refine yb1 ?_;exact BK475.out) hb);have n1_:=zA0 (za4 (g:=gb477) (o:=.cells #[.string ((zaq l0_0 x3_1).f0),.int .i64 ((zaq l0_0 x3_1).f1),.int .i64 ((zaq l0_0 x3_1).f2),.int .i64 ((zaq l0_0 x3_1).f3)] 50 (0,0)) (by refine yb1 ?_;refine zaz (cs:=#[.string ((zaq l0_0 x3_1).f0),.int .i64 ((zaq l0_0 x3_1).f1),.int .i64 ((zaq l0_0 x3_1).f2),.int .i64 0]) ?_ 3 _ rfl;refine yb1 ?_;refine zaz (cs:=#[.string ((zaq l0_0 x3_1).f0),.int .i64 ((zaq l0_0 x3_1).f1),.int .i64 0,.int .i64 0]) ?_ 2 _ rfl;refine yb1 ?_;refine zaz (cs:=#[.string ((zaq l0_0 x3_1).f0),.int .i64 0,.int .i64 0,.int .i64 0]) ?_ 1 _ rfl;refine yb1 ?_;refine zaz (cs:=#[.string (⟨#[]⟩ : ByteArray),.int .i64 0,.int .i64 0,.int .i64 0]) ?_ 0 _ rfl;refine yb1 ?_;exact BK477.out) hb);have n2_:=zA0 (zaj (by first | exact zs2 HB GE475 GE477 | exact zs1 HB GE475 | exact zs0 HB) hb);clear BK475 BK477 HB;revert n0_ n1_ n2_;intro BK475 BK477 HB;clear hb;obtain ⟨_,_,_,_⟩:=zc4 BK477.out;obtain ⟨_,_,_,_⟩:=zf4 BK477.out))
            go_roundg k1
            case measure => have:=HK1.out;omega
            case rel => exact ⟨(wrap64 (x3_1 + 1)),yq6,H',⟨yq95⟩,⟨yp2 BK475⟩,⟨by repeat (first | (with_reducible first | exact HB.out | apply zbp | apply za5 | apply zbr | refine zba ?_ GE475.out | refine zba ?_ GE477.out) | exact HB.out)⟩⟩
     ·replace c6:=Bool.eq_false_iff.mpr c6
      subst c6
      have H1 : (none) = some r:=yq12
      clear H;have H:=H1;clear H1;exact absurd H (by simp)
    ·rw [if_neg c4] at H
     exact absurd H (by simp)
   ·rw [if_neg c3] at H
    have c3b0 : decide (x3_1 < (l0_0.length : Int)) = false:=decide_eq_false c3;clear c3;have H':=zA0 H;clear H;obtain ⟨_,_,_⟩:=zc3 BK475.out;obtain ⟨_,_,_⟩:=zf3 BK475.out;go_wp2
    go_loopg [5] k1 (fun kq v5 w' => ∃ (x5_2 : Int),v5 = .int .i64 x5_2∧Aside0 (zbi.l1 kq x5_2 l0_0 l0_1 l0_2 = some r)∧Aside0 (kq≤k1)∧Aside0 (w'.heap[gb475]? = some (.cells #[(.slice A0_0 l0_0.length c0_0),(.slice A0_1 l0_1.length c0_1),(.slice A0_2 l0_2.length c0_2)] 33 (0,0)))∧Aside0 (Below w.heap.size w w'))
    case atStart => exact ⟨(0),yq6,H',⟨Nat.le_refl _⟩,⟨yp2 BK475⟩,⟨yq189⟩⟩
    case round =>
     clear H';(try clear q4);(try clear hx4);(try clear hx476_0);(try clear hx476_1);(try clear hx476_2);(try clear hx476_3);(try clear q476);obtain ⟨x5_2,rfl,HA,HK2,BK475,HB⟩:=hrel
     cases gk with
     | zero => exact absurd HA.out (by simp [zbi.l1])
     | succ k2 =>
      have H:=HA.out;clear HA;simp only [zbi.l1] at H
      by_cases c20 : x5_2 < (l0_1.length : Int)
      ·rw [if_pos c20] at H
       exact absurd H (by simp)
      ·rw [if_neg c20] at H
       have c20b0 : decide (x5_2 < (l0_1.length : Int)) = false:=decide_eq_false c20;clear c20;replace H:=Option.bind_eq_some_iff.mp H;obtain ⟨t479,A210,H⟩:=H;replace H : (if t479 = true then ((za0.f k2 l0_0 l0_1 l0_2).bind fun t480 => (some (decide ((t480.size : Int)≤20000)))) else (some false)) = some r:=H;have A21:=zA0 A210;clear A210
       by_cases c22 : t479 = true
       ·subst c22
        have H1 : ((za0.f k2 l0_0 l0_1 l0_2).bind fun t480 => (some (decide ((t480.size : Int)≤20000)))) = some r:=yq36
        clear H;have H:=H1;clear H1;replace H:=Option.bind_eq_some_iff.mp H;obtain ⟨t480,A230,H⟩:=H;replace H : (some (decide ((t480.size : Int)≤20000))) = some r:=H;have A23:=zA0 A230;clear A230;obtain rfl:=Option.some.inj H;obtain ⟨_,_,_⟩:=zc3 BK475.out;obtain ⟨_,_,_⟩:=zf3 BK475.out
        go_wp2_with (first | ((with_reducible refine zav (f:=45) rfl ?_);refine zcf (some 81) rfl rfl Tryz.func45 (by kernel_rfl) rfl #[.slice A0_2 l0_2.length c0_2,.int .i64 1] rfl zt ?_;(with_reducible refine (za9.calls k2 _ _ l0_2 1 true _ ?side1 ?side2 A21.out).mono ?_);(case side1 => exact yq107);(case side2 => exact HC0_2.out);rintro e w25 ⟨rfl,hb⟩;refine ⟨_,rfl,?_⟩;have n0_:=zA0 (za4 (g:=gb475) (o:=.cells #[.slice A0_0 l0_0.length c0_0,.slice A0_1 l0_1.length c0_1,.slice A0_2 l0_2.length c0_2] 33 (0,0)) (zb BK475) hb);have n1_:=zA0 (zaj yq142 hb);clear BK475 HB;revert n0_ n1_;intro BK475 HB;clear hb;obtain ⟨_,_,_⟩:=zc3 BK475.out;obtain ⟨_,_,_⟩:=zf3 BK475.out) | (go_at_call 46;(with_reducible refine (za0.calls k2 _ _ l0_0 _ _ l0_1 _ _ l0_2 t480 _ ?side1 ?side2 ?side3 ?side4 ?side5 ?side6 A23.out).mono ?_);(case side1 => exact (by repeat (first | exact (Kd.C_below HR0_0.out HB.out) | (with_reducible refine Kd.C_alloc ?_ _) | (with_reducible refine Kd.C_drewN ?_ _) | (with_reducible refine Kd.C_drew ?_))));(case side2 => exact HC0_0.out);(case side3 => exact (by repeat (first | exact (Kd.C_below HR0_1.out HB.out) | (with_reducible refine Kd.C_alloc ?_ _) | (with_reducible refine Kd.C_drewN ?_ _) | (with_reducible refine Kd.C_drew ?_))));(case side4 => exact HC0_1.out);(case side5 => exact yq107);(case side6 => exact HC0_2.out);rintro e w27 ⟨rfl,hb⟩;have n0_:=zA0 (za4 (g:=gb475) (o:=.cells #[.slice A0_0 l0_0.length c0_0,.slice A0_1 l0_1.length c0_1,.slice A0_2 l0_2.length c0_2] 33 (0,0)) (zb BK475) hb);have n1_:=zA0 (zaj yq142 hb);clear BK475 HB;revert n0_ n1_;intro BK475 HB;clear hb))
        go_ret;exact ⟨yq7,yq142⟩
       ·replace c22:=Bool.eq_false_iff.mpr c22
        subst c22
        have H1 : (some false) = some r:=yq12
        clear H;have H:=H1;clear H1;obtain rfl:=Option.some.inj H;obtain ⟨_,_,_⟩:=zc3 BK475.out;obtain ⟨_,_,_⟩:=zf3 BK475.out
        go_wp2_with (first | ((with_reducible refine zav (f:=45) rfl ?_);refine zcf (some 81) rfl rfl Tryz.func45 (by kernel_rfl) rfl #[.slice A0_2 l0_2.length c0_2,.int .i64 1] rfl zt ?_;(with_reducible refine (za9.calls k2 _ _ l0_2 1 false _ ?side1 ?side2 A21.out).mono ?_);(case side1 => exact yq107);(case side2 => exact HC0_2.out);rintro e w29 ⟨rfl,hb⟩;refine ⟨_,rfl,?_⟩;have n0_:=zA0 (za4 (g:=gb475) (o:=.cells #[.slice A0_0 l0_0.length c0_0,.slice A0_1 l0_1.length c0_1,.slice A0_2 l0_2.length c0_2] 33 (0,0)) (zb BK475) hb);have n1_:=zA0 (zaj yq142 hb);clear BK475 HB;revert n0_ n1_;intro BK475 HB;clear hb))
        go_ret;exact ⟨yq7,yq142⟩
end Go.Proofs.YtkgdhdjkpnalmaaGreatDoor.P
end
section
namespace Go.Proofs.YtkgdhdjkpnalmaaGreatDoor.P
open Go.RowKit Go.Proofs.YtkgdhdjkpnalmaaGreatDoorW.PrintWords Go.Proofs.YtkgdhdjkpnalmaaGreatDoorW.PrintLast Go.Proofs.YtkgdhdjkpnalmaaGreatDoorW.PrintMore
def zb9.f (k : Nat) (a0 : ByteArray) : Option ((List S50) × (List S87) × (List S114) × Int × Int) :=
 (zbt.f k a0).bind fun t => (if t.2.2 = 0 then ((zae.f k t.1 0 false).bind fun u => (if u.2.2.2.2 = true then (none) else (if u.2.2.2.1 < (t.1.length : Int) then (none) else ((zbi.f k u.1 u.2.1 u.2.2.1).bind fun v => (if v = true then (some (u.1,u.2.1,u.2.2.1,0,0)) else (none)))))) else (none))
theorem zb9.mono : ∀ a0 k,LeO (zb9.f k a0) (zb9.f (k + 1) a0):=by
 intro a0 k;unfold zb9.f
 exact (by repeat' first | with_reducible apply zbt.mono | with_reducible apply zae.mono | with_reducible apply zbi.mono | with_reducible apply LeO.refl | with_reducible apply LeO.none | (with_reducible refine LeO.ite ?_ ?_) | (with_reducible refine LeO.bind ?_ (fun _ => ?_)))
set_option maxHeartbeats 8000000 in
set_option maxRecDepth 100000 in
theorem zb9.calls (k : Nat) (a0 : ByteArray) (r1 : List S50) (r2 : List S87) (r3 : List S114) (r4 r5 : Int) (w : World) (h : zb9.f k a0 = some (r1,r2,r3,r4,r5)) :
  Calls Tryz.prog 9 #[.string a0] w fun e w' => ∃ v0_ v1_ v2_ : Value,e = .returned (.tuple #[.agg #[v0_,v1_,v2_],.int .i64 r4,.int .i64 r5])∧Kd.R k50 50 w' w.heap.size (fun k_ => (w.heap.size≤k_)) v0_ r1∧Kd.R k87 87 w' w.heap.size (fun k_ => (w.heap.size≤k_)) v1_ r2∧Kd.N k114 114 w' w.heap.size (fun k_ => (w.heap.size≤k_)∧some k_≠(v0_ : Value).ownBlock∧some k_≠(v1_ : Value).ownBlock) v2_ r3∧Below w.heap.size w w':=by
 unfold zb9.f at h;obtain ⟨⟨t1,t2,t3⟩,hl,h⟩:=Option.bind_eq_some_iff.1 h;replace h : (if t3 = 0 then ((zae.f k t1 0 false).bind fun u => (if u.2.2.2.2 = true then (none) else (if u.2.2.2.1 < (t1.length : Int) then (none) else ((zbi.f k u.1 u.2.1 u.2.2.1).bind fun v => (if v = true then (some (u.1,u.2.1,u.2.2.1,0,0)) else (none)))))) else (none)) = some (r1,r2,r3,r4,r5):=h
 by_cases c0 : t3 = 0
 rotate_left
 ·rw [if_neg c0] at h;cases h
 rw [if_pos c0] at h;subst c0;obtain ⟨⟨u1,u2,u3,u4,u5⟩,hp,h⟩:=Option.bind_eq_some_iff.1 h;replace h : (if u5 = true then (none) else (if u4 < (t1.length : Int) then (none) else ((zbi.f k u1 u2 u3).bind fun v => (if v = true then (some (u1,u2,u3,(0 : Int),(0 : Int))) else (none))))) = some (r1,r2,r3,r4,r5):=h
 by_cases c1 : u5 = true
 ·rw [if_pos c1] at h;cases h
 rw [if_neg c1] at h
 obtain rfl : u5 = false:=by simpa using c1
 by_cases c2 : u4 < (t1.length : Int)
 ·rw [if_pos c2] at h;cases h
 rw [if_neg c2] at h;obtain ⟨v,hv,h⟩:=Option.bind_eq_some_iff.1 h
 by_cases c3 : v = true
 rotate_left
 ·rw [if_neg c3] at h;cases h
 subst c3;rw [if_pos rfl] at h;simp only [Option.some.injEq,Prod.mk.injEq] at h;obtain ⟨rfl,rfl,rfl,rfl,rfl⟩:=h;have d2 : decide (u4 < (t1.length : Int)) = false:=decide_eq_false c2;have HL:=zA0 hl;have HP:=zA0 hp;have HV:=zA0 hv;clear hl hp hv c1 c2;go_enter Tryz.func9,Tryz.ntmps9
 go_upto_region 1 with (first | ((with_reducible refine zbm (N:=2) rfl ?_);refine zbk ?hg (N:=2) ?hd (cs:=#[.slice none 0 0,.slice none 0 0,.slice none 0 0]) (t:=33) ?hr ?_;(case hd => rfl);(case hg => rfl);(case hr => first | (go_simp;done) | (go_simp;rfl));intro gb hgb w1 hbox hbb;have hGW : w.heap.size≤gb:=(by rw [hgb];exact Nat.le_refl _);clear hgb))
 have hs1:=hbb.size;have hlt1 : gb < w1.heap.size:=zcs hbox;have HX1:=zA0 hbox;have HB1:=zA0 hbb;clear hbox hbb
 go_wp2_with fail
 refine (zbt.calls k a0 t1 t2 0 w1 HL.out).mono ?_;rintro e w2 ⟨v0,rfl,ho,b2⟩;obtain ⟨A,c,rfl⟩:=Kd.R_slice ho;have hC:=(Kd.R_reads' ho).2.2;have hcap:=(Kd.R_reads' ho).2.1;have hs2:=b2.size;have hx2:=(b2.block gb hlt1).trans HX1.out;have HB2:=zA0 (zaj HB1.out b2);have hlt2 : gb < w2.heap.size:=zcs hx2;have HX2:=zA0 hx2;have HC2:=zA0 hC;clear hx2 b2 ho hC
 go_wp2_with fail
 have hI3:=zay.new w2 w2 A c t1 0 false (Below.refl _ _) HC2.out;have hB3:=zbp (Below.refl w2.heap.size w2) (.cells #[.slice A t1.length c,.int .i64 0,.bool false] 71);have hx3:=(hB3.block gb hlt2).trans HX2.out;generalize w2.alloc (.cells #[.slice A t1.length c,.int .i64 0,.bool false] 71) = w3 at *;have hs3:=hB3.size;refine (zae.calls k w2.heap.size t1 0 false u1 u2 u3 u4 false w2 w3 hI3 hB3 HP.out).mono ?_;rintro e w4 ⟨v0,v1,v2,rfl,o0,o1,o2,hI4,b4,hk4⟩;have hs4:=hk4.1;have hx4:=(b4.block gb hlt2).trans HX2.out;have HB4:=zA0 (zaj HB2.out b4);obtain ⟨B0,e0,rfl⟩:=Kd.R_slice o0;obtain ⟨B1,e1,rfl⟩:=Kd.R_slice o1;obtain ⟨B2,e2,rfl⟩:=Kd.N_slice o2;obtain ⟨AS,cS,HG4,hg4,HS4⟩:=hI4;have hlt4 : gb < w4.heap.size:=zcs hx4;have hgl4 : w2.heap.size < w4.heap.size:=zcs HG4;have HX4:=zA0 hx4;have HGG:=zA0 HG4;have O0:=zA0 o0;have O1:=zA0 o1;have O2:=zA0 o2;clear hx4 HG4 o0 o1 o2 HS4 hg4 b4 hk4 hx3 hI3 hB3 HX2 HC2 HX1 HB1
 go_upto_region 6 with (first | ((with_reducible refine zbm (N:=9) rfl ?_);refine zbk ?hg (N:=9) ?hd (cs:=#[.slice none 0 0,.slice none 0 0,.slice none 0 0]) (t:=33) ?hr ?_;(case hd => rfl);(case hg => rfl);(case hr => first | (go_simp;done) | (go_simp;rfl));intro gc hgc w5 hbx5 hbb5;have hG5 : w4.heap.size≤gc:=(by rw [hgc];exact Nat.le_refl _);have hn1 : w2.heap.size≠gc:=(by rw [hgc];exact Nat.ne_of_lt hgl4);have hn2 : gb≠gc:=(by rw [hgc];exact Nat.ne_of_lt hlt4);clear hgc;have hg5:=(hbb5.block _ hgl4).trans HGG.out;have z0:=zcq hg5;have z1:=zcn hg5;have z2:=zco hg5;have y0 : w5.cell? ⟨gc,0,none⟩ = some (.slice none 0 0):=(zbf hbx5 0).trans rfl;have y1 : w5.cell? ⟨gc,1,none⟩ = some (.slice none 0 0):=(zbf hbx5 1).trans rfl;have y2 : w5.cell? ⟨gc,2,none⟩ = some (.slice none 0 0):=(zbf hbx5 2).trans rfl;have f0:=zap hbx5 0;have f1:=zap hbx5 1;have f2:=zap hbx5 2;have hn1':=hn1.symm;have hn2':=hn2.symm))
 have hx6 : (((w5.setCell ⟨gc,0,none⟩ (.slice B0 u1.length e0)).setCell ⟨gc,1,none⟩ (.slice B1 u2.length e1)).setCell ⟨gc,2,none⟩ (.slice B2 u3.length e2)).heap[gc]? = some (.cells #[.slice B0 u1.length e0,.slice B1 u2.length e1,.slice B2 u3.length e2] 33 (0,0)):=by
  refine zaz (cs:=#[.slice B0 u1.length e0,.slice B1 u2.length e1,.slice none 0 0]) ?_ 2 _ rfl;refine zaz (cs:=#[.slice B0 u1.length e0,.slice none 0 0,.slice none 0 0]) ?_ 1 _ rfl;refine zaz (cs:=#[.slice none 0 0,.slice none 0 0,.slice none 0 0]) ?_ 0 _ rfl;exact hbx5
 have hB46 : Below w4.heap.size w4 (((w5.setCell ⟨gc,0,none⟩ (.slice B0 u1.length e0)).setCell ⟨gc,1,none⟩ (.slice B1 u2.length e1)).setCell ⟨gc,2,none⟩ (.slice B2 u3.length e2)):=zba (zba (zba hbb5 hG5) hG5) hG5;clear z0 z1 z2 y0 y1 y2 f0 f1 f2 hbx5 hbb5 hg5;generalize (((w5.setCell ⟨gc,0,none⟩ (.slice B0 u1.length e0)).setCell ⟨gc,1,none⟩ (.slice B1 u2.length e1)).setCell ⟨gc,2,none⟩ (.slice B2 u3.length e2)) = w6 at *;have hg6:=(hB46.block _ hgl4).trans HGG.out;have hxb6:=(hB46.block gb hlt4).trans HX4.out;have z1:=zcn hg6;have z2:=zco hg6;have y0 : w6.cell? ⟨gc,0,none⟩ = some (.slice B0 u1.length e0):=(zbf hx6 0).trans rfl;have y1 : w6.cell? ⟨gc,1,none⟩ = some (.slice B1 u2.length e1):=(zbf hx6 1).trans rfl;have y2 : w6.cell? ⟨gc,2,none⟩ = some (.slice B2 u3.length e2):=(zbf hx6 2).trans rfl;have HB46:=zA0 hB46;have HX6:=zA0 hx6;have HXB6:=zA0 hxb6;have hltc : gc < w6.heap.size:=zcs hx6;have hltb : gb < w6.heap.size:=zcs hxb6;have hs6:=hB46.size;clear hg6 hxb6 hx6 hB46
 go_wp2_with fail
 refine (zbi.calls k B0 e0 u1 B1 e1 u2 B2 e2 u3 true w6 (Kd.R_reads' (Kd.R_below O0.out HB46.out)).2.2 (Kd.R_reads' (Kd.R_below O0.out HB46.out)).2.1 (Kd.R_reads' (Kd.R_below O1.out HB46.out)).2.2 (Kd.R_reads' (Kd.R_below O1.out HB46.out)).2.1 (Kd.N_reads' (Kd.N_below O2.out HB46.out)).2.2 (Kd.N_reads' (Kd.N_below O2.out HB46.out)).2.1 HV.out).mono ?_;rintro e w7 ⟨rfl,b7⟩;have hx7:=(b7.block gc hltc).trans HX6.out;have hxb7:=(b7.block gb hltb).trans HXB6.out;have HB47:=zA0 (zaj HB46.out b7);have y0' : w7.cell? ⟨gc,0,none⟩ = some (.slice B0 u1.length e0):=(zbf hx7 0).trans rfl;have y1' : w7.cell? ⟨gc,1,none⟩ = some (.slice B1 u2.length e1):=(zbf hx7 1).trans rfl;have y2' : w7.cell? ⟨gc,2,none⟩ = some (.slice B2 u3.length e2):=(zbf hx7 2).trans rfl;have x0 : w7.cell? ⟨gb,0,none⟩ = some (.slice none 0 0):=(zbf hxb7 0).trans rfl;have x1 : w7.cell? ⟨gb,1,none⟩ = some (.slice none 0 0):=(zbf hxb7 1).trans rfl;have x2 : w7.cell? ⟨gb,2,none⟩ = some (.slice none 0 0):=(zbf hxb7 2).trans rfl;have f0:=zap hxb7 0;have f1:=zap hxb7 1;have f2:=zap hxb7 2;have HXB7:=zA0 hxb7;have hu:=Tryz.underlying33;clear b7 hx7 hxb7 y0 y1 y2 z1 z2;go_wp2
 refine bodyPost_ret (results_ctt rfl _ _ gb 33 #[.slice B0 u1.length e0,.slice B1 u2.length e1,.slice B2 u3.length e2] (0,0) _ rfl (by
  refine zaz (cs:=#[.slice B0 u1.length e0,.slice B1 u2.length e1,.slice none 0 0]) ?_ 2 _ rfl;refine zaz (cs:=#[.slice B0 u1.length e0,.slice none 0 0,.slice none 0 0]) ?_ 1 _ rfl;refine zaz (cs:=#[.slice none 0 0,.slice none 0 0,.slice none 0 0]) ?_ 0 _ rfl
  exact HXB7.out) Tryz.underlying33 rfl (by kernel_rfl)) rfl ?_
 have hw3 : w.heap.size≤w3.heap.size:=Nat.le_trans HB2.out.size hs3
 have hne : ∀ k_,w3.heap.size≤k_→k_≠gb:=fun k_ hk he => by omega
 exact ⟨_,_,_,rfl,Kd.R_lower (Kd.R_mono (ok':=fun k_ => w.heap.size≤k_) (Kd.R_far (p:=⟨gb,2,none⟩) (Kd.R_far (p:=⟨gb,1,none⟩) (Kd.R_far (p:=⟨gb,0,none⟩) (Kd.R_below O0.out HB47.out) hne (.slice B0 u1.length e0)) hne (.slice B1 u2.length e1)) hne (.slice B2 u3.length e2)) (fun k_ hk => Nat.le_trans hw3 hk)) hw3,
  Kd.R_lower (Kd.R_mono (ok':=fun k_ => w.heap.size≤k_) (Kd.R_far (p:=⟨gb,2,none⟩) (Kd.R_far (p:=⟨gb,1,none⟩) (Kd.R_far (p:=⟨gb,0,none⟩) (Kd.R_below O1.out HB47.out) hne (.slice B0 u1.length e0)) hne (.slice B1 u2.length e1)) hne (.slice B2 u3.length e2)) (fun k_ hk => Nat.le_trans hw3 hk)) hw3,
  Kd.N_lower (Kd.N_mono (Kd.N_far (p:=⟨gb,2,none⟩) (Kd.N_far (p:=⟨gb,1,none⟩) (Kd.N_far (p:=⟨gb,0,none⟩) (Kd.N_below O2.out HB47.out) (fun k_ hk => hne k_ hk.1) (.slice B0 u1.length e0)) (fun k_ hk => hne k_ hk.1) (.slice B1 u2.length e1)) (fun k_ hk => hne k_ hk.1) (.slice B2 u3.length e2)) (fun k_ hk => ⟨Nat.le_trans hw3 hk.1,hk.2⟩)) hw3,
  zba (zba (zba (zaj HB4.out HB47.out) hGW) hGW) hGW⟩
end Go.Proofs.YtkgdhdjkpnalmaaGreatDoor.P
end
section
/-
  DERIVED: THE SHELF's CONTRACTS AT THIS DUMP,IN PLAIN WORDS (tools/lay-plain.mjs out of 'TryzShelf.lean',which tools/lay-shelf.mjs wrote): THE SAME DECLARATIONS UNDER THE SAME NAMES: 'import','namespace','open','def','theorem' AND NOTHING ELSE: no command of the shelf's: FOR A HAND-IN. Each laying: the table of numbers ('.._ren') and one theorem,a field a fact of the dump's own or the kernel's comparison;each contract: ONE APPLICATION.
-/
namespace Go.Proofs
open Go.Shelf
def Tryz.lays169_ren : Go.Shelf.Ren:=⟨fun | 169 => 24 | n => n,fun | 70 => 54 | 9 => 9 | 0 => 0 | 72 => 57 | 37 => 55 | 127 => 90 | 3 => 3 | 5 => 5 | n => n,fun | n => n⟩
theorem Tryz.lays169 : Go.Proofs.Lays.n169 Tryz.prog Tryz.lays169_ren:={
  mixed:=by kernel_rfl
  f169:=Tryz.func24.trans (congrArg some (by kernel_rfl))
  t0:=Tryz.underlying0
  a0:=Tryz.isAgg0
  z0:=Tryz.sizeOf0
  v0:=Tryz.zeroValue0
  t3:=Tryz.underlying3
  a3:=Tryz.isAgg3
  z3:=Tryz.sizeOf3
  v3:=Tryz.zeroValue3
  t9:=Tryz.underlying9
  a9:=Tryz.isAgg9
  z9:=Tryz.sizeOf9
  v9:=Tryz.zeroValue9
  t37:=Tryz.underlying55
  a37:=Tryz.isAgg55
  z37:=Tryz.sizeOf55
  v37:=Tryz.zeroValue55
  t70:=Tryz.underlying54
  a70:=Tryz.isAgg54
  z70:=Tryz.sizeOf54
  v70:=Tryz.zeroValue54
  t72:=Tryz.underlying57
  a72:=Tryz.isAgg57
  z72:=Tryz.sizeOf57
  v72:=Tryz.zeroValue57
  t127:=Tryz.underlying90
  a127:=Tryz.isAgg90
  z127:=Tryz.sizeOf90
  v127:=Tryz.zeroValue90 }
theorem Tryz.Builder_Extra_169 : Builder.Extra Tryz.prog Tryz.lays169_ren:={
  sizeBuilder:=by kernel_rfl
  liesBuilder:=by kernel_rfl
  t5:=Tryz.underlying5
  a5:=Tryz.isAgg5
  z5:=Tryz.sizeOf5
  v5:=Tryz.zeroValue5
  infoByte:=by kernel_rfl
  cellsByte:=by kernel_rfl
  sizeByte:=by kernel_rfl
  neB5:=by decide }
open Go.RowKit in
theorem Tryz.Builder_String_any_k (B b : Nat) (l : List UInt8) (w : World) (h : Lib.IsBuilderF 57 5 B b (Lib.byteCells l) w) (hBw : B≤w.heap.size) :
    Calls Tryz.prog 24 #[.pointer (some ⟨b,0,none⟩)] w fun e w' => e = .returned (.string ⟨l.toArray⟩)∧(Lib.IsBuilderF 57 5 B b (Lib.byteCells l) w'∧Below B w w'∧Lib.OthersKept 5 (some b) w w'):=Any.Builder_String_any_k Tryz.lays169 Tryz.Builder_Extra_169 B b l w h hBw
end Go.Proofs
end
