/- What is proved here: a part of the proof of ElectionChangedVote: Px54, Px55. No conditions beside those that each theorem states. -/
import Derived.Test.YtkgdhdjkpnalmaaGreatDoorKECVte4
import Derived.Test.YtkgdhdjkpnalmaaGreatDoorKECVte33
import Derived.Test.YtkgdhdjkpnalmaaGreatDoorKECVte37
import Derived.Test.YtkgdhdjkpnalmaaGreatDoorKECVte39
set_option linter.unusedVariables false
set_option linter.unusedSimpArgs false
section
namespace Go.Proofs.YtkgdhdjkpnalmaaGreatDoor.P
open Go.RowKit Go.Proofs.YtkgdhdjkpnalmaaGreatDoorW.PrintWords Go.Proofs.YtkgdhdjkpnalmaaGreatDoorW.PrintLast Go.Proofs.YtkgdhdjkpnalmaaGreatDoorW.PrintMore
attribute [local go_sem] zcd zca zci zcj zb1 zb2 zcc zcb
def zde.f (k : Nat) (s0_0 : List (S50)) (s0_1 : List (S87)) (s0_2 : List (S114)) (s0_3 : List (S158)) (s0_4 : List (S158)) (s0_5 : List (List Int)) (s0_6 : Int) (s0_7 : Int) (s0_8 : Int) (a1_0 : Int) (a1_1 : ByteArray) (l1_2 : List (S117)) (l1_3 : List (S114)) (l1_4 : List (S114)) : Option (Int × Int × Int × Int):=(zdv.f s0_0 s0_1 s0_2 s0_3 s0_4 s0_5 s0_6 s0_7 s0_8).bind fun bt559 => (if bt559.1 = 0 then ((zbj.f k s0_0 s0_1 s0_2 s0_3 s0_4 s0_5 bt559.2.1 bt559.2.2.1 bt559.2.2.2 l1_2).bind fun bt563 => (if bt563.2.1 = 0 then (if a1_0 = 1 then (none) else (if a1_0 = 2 then (none) else (if a1_0 = 3 then (none) else (if a1_0 = 4 then (none) else (if a1_0 = 5 then (if bt563.2.2.2.2 > 0 then (none) else (some (0,bt563.2.2.1,bt563.2.2.2.1,bt563.2.2.2.2))) else (some (0,bt563.2.2.1,bt563.2.2.2.1,bt563.2.2.2.2))))))) else (none))) else (none))
theorem zde.mono : ∀ a0 a1 a2 a3 a4 a5 a6 a7 a8 a9 a10 a11 a12 a13 k,LeO (zde.f k a0 a1 a2 a3 a4 a5 a6 a7 a8 a9 a10 a11 a12 a13) (zde.f (k + 1) a0 a1 a2 a3 a4 a5 a6 a7 a8 a9 a10 a11 a12 a13):=by
 intro a0 a1 a2 a3 a4 a5 a6 a7 a8 a9 a10 a11 a12 a13 k;unfold zde.f
 exact (by repeat' first | with_reducible apply zbj.mono | with_reducible apply LeO.refl | with_reducible apply LeO.none | (with_reducible refine LeO.ite ?_ ?_) | (with_reducible refine LeO.bind ?_ (fun _ => ?_)))
set_option maxHeartbeats 8000000 in
set_option maxRecDepth 100000 in
theorem zde.calls (k : Nat) (g : Nat) (s0_0 : List (S50)) (s0_1 : List (S87)) (s0_2 : List (S114)) (s0_3 : List (S158)) (s0_4 : List (S158)) (s0_5 : List (List Int)) (s0_6 : Int) (s0_7 : Int) (s0_8 : Int) (a1_0 : Int) (a1_1 : ByteArray) (A1_2 : Option Addr) (c1_2 : Nat) (l1_2 : List (S117)) (A1_3 : Option Addr) (c1_3 : Nat) (l1_3 : List (S114)) (A1_4 : Option Addr) (c1_4 : Nat) (l1_4 : List (S114)) (r1 : Int) (r2 : Int) (r3 : Int) (r4 : Int) (w0 w : World) (hI : zax w0 w g s0_0 s0_1 s0_2 s0_3 s0_4 s0_5 s0_6 s0_7 s0_8) (hB : Below w0.heap.size w0 w) (hr1_2 : ∀ W_,zaf w W_ g none→Kd.C k117 W_ A1_2 l1_2.length l1_2) (hc1_2 : l1_2.length≤c1_2) (hr1_3 : ∀ W_,zaf w W_ g none→Kd.C k114 W_ A1_3 l1_3.length l1_3) (hc1_3 : l1_3.length≤c1_3) (hr1_4 : ∀ W_,zaf w W_ g none→Kd.C k114 W_ A1_4 l1_4.length l1_4) (hc1_4 : l1_4.length≤c1_4) (h : zde.f k s0_0 s0_1 s0_2 s0_3 s0_4 s0_5 s0_6 s0_7 s0_8 a1_0 a1_1 l1_2 l1_3 l1_4 = some (r1,r2,r3,r4)) :
  Calls Tryz.prog 79 #[.pointer (some ⟨g,0,none⟩),.agg #[.int .i64 a1_0,.string a1_1,.slice A1_2 l1_2.length c1_2,.slice A1_3 l1_3.length c1_3,.slice A1_4 l1_4.length c1_4]] w fun e w' => e = .returned (.int .i64 r1)∧zax w0 w' g s0_0 s0_1 s0_2 s0_3 s0_4 s0_5 r2 r3 r4∧Below w0.heap.size w0 w'∧zaf w w' g none:=by
 have hu114:=Tryz.underlying114;have hu155:=Tryz.underlying155;have hu158:=Tryz.underlying158;have hu33:=Tryz.underlying33;have HR1_2:=zA0 hr1_2;have HC1_2:=zA0 hc1_2;clear hr1_2 hc1_2;have HR1_3:=zA0 hr1_3;have HC1_3:=zA0 hc1_3;clear hr1_3 hc1_3;have HR1_4:=zA0 hr1_4;have HC1_4:=zA0 hc1_4;clear hr1_4 hc1_4;have HI0:=zA0 hI;have HK:=zA0 (zaf.refl w g none);have HL:=zA0 hB.size;clear hI;have HW0:=zA0 hB.size;have HB:=zA0 hB;clear hB;have H : ((zdv.f s0_0 s0_1 s0_2 s0_3 s0_4 s0_5 s0_6 s0_7 s0_8).bind fun bt559 => (if bt559.1 = 0 then ((zbj.f k s0_0 s0_1 s0_2 s0_3 s0_4 s0_5 bt559.2.1 bt559.2.2.1 bt559.2.2.2 l1_2).bind fun bt563 => (if bt563.2.1 = 0 then (if a1_0 = 1 then (none) else (if a1_0 = 2 then (none) else (if a1_0 = 3 then (none) else (if a1_0 = 4 then (none) else (if a1_0 = 5 then (if bt563.2.2.2.2 > 0 then (none) else (some (0,bt563.2.2.1,bt563.2.2.2.1,bt563.2.2.2.2))) else (some (0,bt563.2.2.1,bt563.2.2.2.1,bt563.2.2.2.2))))))) else (none))) else (none))) = some (r1,r2,r3,r4):=h;clear h;replace H:=Option.bind_eq_some_iff.mp H;obtain ⟨⟨t559,t560,t561,t562⟩,A30,H⟩:=H;replace H : (if t559 = 0 then ((zbj.f k s0_0 s0_1 s0_2 s0_3 s0_4 s0_5 t560 t561 t562 l1_2).bind fun bt563 => (if bt563.2.1 = 0 then (if a1_0 = 1 then (none) else (if a1_0 = 2 then (none) else (if a1_0 = 3 then (none) else (if a1_0 = 4 then (none) else (if a1_0 = 5 then (if bt563.2.2.2.2 > 0 then (none) else (some (0,bt563.2.2.1,bt563.2.2.2.1,bt563.2.2.2.2))) else (some (0,bt563.2.2.1,bt563.2.2.2.1,bt563.2.2.2.2))))))) else (none))) else (none)) = some (r1,r2,r3,r4):=H;have A3:=zA0 A30;clear A30
 by_cases c4 : t559 = 0
 ·rw [if_pos c4] at H
  have c4b0 : (t559 == 0) = true:=beq_iff_eq.mpr c4;have c4b1 : (t559 != 0) = false:=bne_eq_false_iff_eq.mpr c4;clear c4;replace H:=Option.bind_eq_some_iff.mp H;obtain ⟨⟨t563,t566,t567,t568,t569⟩,A50,H⟩:=H;replace H : (if t566 = 0 then (if a1_0 = 1 then (none) else (if a1_0 = 2 then (none) else (if a1_0 = 3 then (none) else (if a1_0 = 4 then (none) else (if a1_0 = 5 then (if t569 > 0 then (none) else (some (0,t567,t568,t569))) else (some (0,t567,t568,t569))))))) else (none)) = some (r1,r2,r3,r4):=H;have A5:=zA0 A50;clear A50
  by_cases c6 : t566 = 0
  ·rw [if_pos c6] at H
   have c6b0 : (t566 == 0) = true:=beq_iff_eq.mpr c6;have c6b1 : (t566 != 0) = false:=bne_eq_false_iff_eq.mpr c6;clear c6
   by_cases c7 : a1_0 = 1
   ·rw [if_pos c7] at H
    exact absurd H (by simp)
   ·rw [if_neg c7] at H
    have c7b0 : (a1_0 == 1) = false:=beq_eq_false_iff_ne.mpr c7;have c7b1 : (a1_0 != 1) = true:=bne_iff_ne.mpr c7
    by_cases c8 : a1_0 = 2
    ·rw [if_pos c8] at H
     exact absurd H (by simp)
    ·rw [if_neg c8] at H
     have c8b0 : (a1_0 == 2) = false:=beq_eq_false_iff_ne.mpr c8;have c8b1 : (a1_0 != 2) = true:=bne_iff_ne.mpr c8
     by_cases c9 : a1_0 = 3
     ·rw [if_pos c9] at H
      exact absurd H (by simp)
     ·rw [if_neg c9] at H
      have c9b0 : (a1_0 == 3) = false:=beq_eq_false_iff_ne.mpr c9;have c9b1 : (a1_0 != 3) = true:=bne_iff_ne.mpr c9
      by_cases c10 : a1_0 = 4
      ·rw [if_pos c10] at H
       exact absurd H (by simp)
      ·rw [if_neg c10] at H
       have c10b0 : (a1_0 == 4) = false:=beq_eq_false_iff_ne.mpr c10;have c10b1 : (a1_0 != 4) = true:=bne_iff_ne.mpr c10
       by_cases c11 : a1_0 = 5
       ·rw [if_pos c11] at H
        have c11b0 : (a1_0 == 5) = true:=beq_iff_eq.mpr c11;have c11b1 : (a1_0 != 5) = false:=bne_eq_false_iff_eq.mpr c11;clear c11
        by_cases c12 : t569 > 0
        ·rw [if_pos c12] at H
         exact absurd H (by simp)
        ·rw [if_neg c12] at H
         have c12b0 : decide (0 < t569) = false:=decide_eq_false c12;clear c12;simp only [Option.some.injEq,Prod.mk.injEq] at H;obtain ⟨rfl,rfl,rfl,rfl⟩:=H;go_enter Tryz.func79,Tryz.ntmps79
         go_wp2_with (first | ((with_reducible refine zbm (N:=3) rfl ?_);refine zbk ?hg (N:=3) ?hd (cs:=#[.int .i64 a1_0,.string a1_1,.slice A1_2 l1_2.length c1_2,.slice A1_3 l1_3.length c1_3,.slice A1_4 l1_4.length c1_4]) (t:=114) ?hr ?_;(case hd => rfl);(case hg => rfl);(case hr => first | (go_simp;done) | (go_simp;rfl));intro gb558 hg w13 hbox hb;have n0_:=zA0 (zax.below yq8 hb);have n1_:=zA0 (zaf.trans yq1 (zaf.of_below hb g none) (.inl rfl));have n2_:=zA0 (zaj yq21 hb);have n3_:=zA0 (hbox);have n4_:=zA0 ((zd1 : w.heap.size≤gb558));have n5_:=zA0 ((Nat.le_trans HW0.out (zd1 : w.heap.size≤gb558) : w0.heap.size≤gb558));have n6_:=zA0 ((by rw [hg];exact Nat.ne_of_lt (zax.lt (show zax w0 _ g s0_0 s0_1 s0_2 s0_3 s0_4 s0_5 s0_6 s0_7 s0_8 from yq8)) : g≠gb558));have n7_:=zA0 ((by rw [hg];exact Nat.ne_of_gt (zax.lt (show zax w0 _ g s0_0 s0_1 s0_2 s0_3 s0_4 s0_5 s0_6 s0_7 s0_8 from yq8)) : gb558≠g));clear HI0 HK HB;revert n0_ n1_ n2_ n3_ n4_ n5_ n6_ n7_;intro HI0 HK HB BK558 GW558 GE558 NB0_558 NB558_0;clear hb hbox hg) | ((with_reducible refine zav (f:=90) rfl ?_);refine zcf (some 11) rfl rfl Tryz.func90 (by kernel_rfl) rfl #[.pointer (some ⟨g,0,none⟩)] rfl zt ?_;(with_reducible refine (zdv.calls g s0_0 s0_1 s0_2 s0_3 s0_4 s0_5 s0_6 s0_7 s0_8 t559 t560 t561 t562 w0 _ ?side1 ?side2 A3.out).mono ?_);(case side1 => exact yq58);(case side2 => exact yq62);rintro e w14 ⟨rfl,hi,hb,hk⟩;refine ⟨_,rfl,?_⟩;have n0_:=zA0 (zaf.blk hk (g':=gb558) (o:=.cells #[.int .i64 a1_0,.string a1_1,.slice A1_2 l1_2.length c1_2,.slice A1_3 l1_3.length c1_3,.slice A1_4 l1_4.length c1_4] 114 (0,0)) (zb BK558) NB558_0.out (by simp));have n1_:=zA0 (zaf.trans yq42 hk (.inl rfl));have n2_:=zA0 (hb);have n3_:=zA0 (hi);clear BK558 HK HB HI0;revert n0_ n1_ n2_ n3_;intro BK558 HK HB HI0;clear hb hk hi;have hnb15:=NB558_0.out;have hnc15:=NB0_558.out;obtain ⟨_,_,_,_,_⟩:=zc5 BK558.out;obtain ⟨_,_,_,_,_⟩:=zf5 BK558.out) | ((with_reducible refine zav (f:=91) rfl ?_);refine zcf (some 19) rfl rfl Tryz.func91 (by kernel_rfl) rfl #[.pointer (some ⟨g,0,none⟩),.slice A1_2 l1_2.length c1_2] rfl zt ?_;(with_reducible refine (zbj.calls k g s0_0 s0_1 s0_2 s0_3 s0_4 s0_5 t560 t561 t562 _ _ l1_2 t563 t566 t567 t568 t569 w0 _ ?side1 ?side2 ?side3 ?side4 A5.out).mono ?_);(case side1 => exact yq58);(case side2 => exact yq62);(case side3 => exact Kd.C_foot_step HR1_2.out yq42);(case side4 => exact HC1_2.out);rintro e w17 ⟨v564,rfl,ho0,hi,hb,hk⟩;refine ⟨_,rfl,?_⟩;have n0_:=zA0 (zaf.blk hk (g':=gb558) (o:=.cells #[.int .i64 a1_0,.string a1_1,.slice A1_2 l1_2.length c1_2,.slice A1_3 l1_3.length c1_3,.slice A1_4 l1_4.length c1_4] 114 (0,0)) (zb BK558) NB558_0.out (by simp));have n1_:=zA0 (Kd.R_lower ho0 (zbo (w:=w) (g:=g) (row:=none) yq42));have n2_:=zA0 (zaf.trans yq42 hk (.inl rfl));have n3_:=zA0 (hb);have n4_:=zA0 (hi);clear BK558 HK HB HI0;revert n0_ n1_ n2_ n3_ n4_;intro BK558 HO565 HK HB HI0;clear hb hk hi ho0;obtain ⟨_,_,_,_,_⟩:=zc5 BK558.out;obtain ⟨_,_,_,_,_⟩:=zf5 BK558.out;obtain ⟨ASz19_0,cSz19_0,ASz19_1,cSz19_1,ASz19_2,cSz19_2,ASz19_3,cSz19_3,ASz19_4,cSz19_4,ASz19_5,cSz19_5,HGz19,hgz19,HSz19_0,HSz19_1,HSz19_2,HSz19_3,HSz19_4,HSz19_5⟩:=HI0.out;have hcz19_0:=cellS107_0 HGz19;have hcz19_1:=cellS107_1 HGz19;have hcz19_2:=cellS107_2 HGz19;have hcz19_3:=cellS107_3 HGz19;have hcz19_4:=cellS107_4 HGz19;have hcz19_5:=cellS107_5 HGz19;have hcz19_6:=cellS107_6 HGz19;have hcz19_7:=cellS107_7 HGz19;have hcz19_8:=cellS107_8 HGz19;have hfz19_6:=zap HGz19 6;have hfz19_7:=zap HGz19 7;have hfz19_8:=zap HGz19 8;clear HGz19 hgz19))
         go_ret;exact ⟨yq7,yq58,yq62,yq42⟩
       ·rw [if_neg c11] at H
        have c11b0 : (a1_0 == 5) = false:=beq_eq_false_iff_ne.mpr c11;have c11b1 : (a1_0 != 5) = true:=bne_iff_ne.mpr c11;simp only [Option.some.injEq,Prod.mk.injEq] at H;obtain ⟨rfl,rfl,rfl,rfl⟩:=H;go_enter Tryz.func79,Tryz.ntmps79
        go_wp2_with (first | ((with_reducible refine zbm (N:=3) rfl ?_);refine zbk ?hg (N:=3) ?hd (cs:=#[.int .i64 a1_0,.string a1_1,.slice A1_2 l1_2.length c1_2,.slice A1_3 l1_3.length c1_3,.slice A1_4 l1_4.length c1_4]) (t:=114) ?hr ?_;(case hd => rfl);(case hg => rfl);(case hr => first | (go_simp;done) | (go_simp;rfl));intro gb558 hg w20 hbox hb;have n0_:=zA0 (zax.below yq8 hb);have n1_:=zA0 (zaf.trans yq1 (zaf.of_below hb g none) (.inl rfl));have n2_:=zA0 (zaj yq21 hb);have n3_:=zA0 (hbox);have n4_:=zA0 ((zd1 : w.heap.size≤gb558));have n5_:=zA0 ((Nat.le_trans HW0.out (zd1 : w.heap.size≤gb558) : w0.heap.size≤gb558));have n6_:=zA0 ((by rw [hg];exact Nat.ne_of_lt (zax.lt (show zax w0 _ g s0_0 s0_1 s0_2 s0_3 s0_4 s0_5 s0_6 s0_7 s0_8 from yq8)) : g≠gb558));have n7_:=zA0 ((by rw [hg];exact Nat.ne_of_gt (zax.lt (show zax w0 _ g s0_0 s0_1 s0_2 s0_3 s0_4 s0_5 s0_6 s0_7 s0_8 from yq8)) : gb558≠g));clear HI0 HK HB;revert n0_ n1_ n2_ n3_ n4_ n5_ n6_ n7_;intro HI0 HK HB BK558 GW558 GE558 NB0_558 NB558_0;clear hb hbox hg) | ((with_reducible refine zav (f:=90) rfl ?_);refine zcf (some 11) rfl rfl Tryz.func90 (by kernel_rfl) rfl #[.pointer (some ⟨g,0,none⟩)] rfl zt ?_;(with_reducible refine (zdv.calls g s0_0 s0_1 s0_2 s0_3 s0_4 s0_5 s0_6 s0_7 s0_8 t559 t560 t561 t562 w0 _ ?side1 ?side2 A3.out).mono ?_);(case side1 => exact yq58);(case side2 => exact yq62);rintro e w21 ⟨rfl,hi,hb,hk⟩;refine ⟨_,rfl,?_⟩;have n0_:=zA0 (zaf.blk hk (g':=gb558) (o:=.cells #[.int .i64 a1_0,.string a1_1,.slice A1_2 l1_2.length c1_2,.slice A1_3 l1_3.length c1_3,.slice A1_4 l1_4.length c1_4] 114 (0,0)) (zb BK558) NB558_0.out (by simp));have n1_:=zA0 (zaf.trans yq42 hk (.inl rfl));have n2_:=zA0 (hb);have n3_:=zA0 (hi);clear BK558 HK HB HI0;revert n0_ n1_ n2_ n3_;intro BK558 HK HB HI0;clear hb hk hi;have hnb22:=NB558_0.out;have hnc22:=NB0_558.out;obtain ⟨_,_,_,_,_⟩:=zc5 BK558.out;obtain ⟨_,_,_,_,_⟩:=zf5 BK558.out) | ((with_reducible refine zav (f:=91) rfl ?_);refine zcf (some 19) rfl rfl Tryz.func91 (by kernel_rfl) rfl #[.pointer (some ⟨g,0,none⟩),.slice A1_2 l1_2.length c1_2] rfl zt ?_;(with_reducible refine (zbj.calls k g s0_0 s0_1 s0_2 s0_3 s0_4 s0_5 t560 t561 t562 _ _ l1_2 t563 t566 t567 t568 t569 w0 _ ?side1 ?side2 ?side3 ?side4 A5.out).mono ?_);(case side1 => exact yq58);(case side2 => exact yq62);(case side3 => exact Kd.C_foot_step HR1_2.out yq42);(case side4 => exact HC1_2.out);rintro e w24 ⟨v564,rfl,ho0,hi,hb,hk⟩;refine ⟨_,rfl,?_⟩;have n0_:=zA0 (zaf.blk hk (g':=gb558) (o:=.cells #[.int .i64 a1_0,.string a1_1,.slice A1_2 l1_2.length c1_2,.slice A1_3 l1_3.length c1_3,.slice A1_4 l1_4.length c1_4] 114 (0,0)) (zb BK558) NB558_0.out (by simp));have n1_:=zA0 (Kd.R_lower ho0 (zbo (w:=w) (g:=g) (row:=none) yq42));have n2_:=zA0 (zaf.trans yq42 hk (.inl rfl));have n3_:=zA0 (hb);have n4_:=zA0 (hi);clear BK558 HK HB HI0;revert n0_ n1_ n2_ n3_ n4_;intro BK558 HO565 HK HB HI0;clear hb hk hi ho0;obtain ⟨_,_,_,_,_⟩:=zc5 BK558.out;obtain ⟨_,_,_,_,_⟩:=zf5 BK558.out))
        go_ret;exact ⟨yq7,yq58,yq62,yq42⟩
  ·rw [if_neg c6] at H
   exact absurd H (by simp)
 ·rw [if_neg c4] at H
  exact absurd H (by simp)
def zb5.l0 : Nat→List (S114)→Int→List (S50)→List (S87)→List (S114)→List (S158)→List (S158)→List (List Int)→Int→Int→Int→Option (Int × Int × Int × Int)
 | 0,_,_,_,_,_,_,_,_,_,_,_ => none
 | k + 1,x1,x5,x1000,x1001,x1002,x1003,x1004,x1005,x1006,x1007,x1008 => if x5 < (x1.length : Int) then (if 0≤x5 then ((zde.f k x1000 x1001 x1002 x1003 x1004 x1005 x1006 x1007 x1008 ((zbe x1 x5).f0) ((zbe x1 x5).f1) ((zbe x1 x5).f2) ((zbe x1 x5).f3) ((zbe x1 x5).f4)).bind fun bt571 => (if bt571.1 = 0 then (zb5.l0 k x1 (wrap64 (x5 + 1)) x1000 x1001 x1002 x1003 x1004 x1005 bt571.2.1 bt571.2.2.1 bt571.2.2.2) else (none))) else (none)) else (some (0,x1006,x1007,x1008))
def zb5.f (k : Nat) (s0_0 : List (S50)) (s0_1 : List (S87)) (s0_2 : List (S114)) (s0_3 : List (S158)) (s0_4 : List (S158)) (s0_5 : List (List Int)) (s0_6 : Int) (s0_7 : Int) (s0_8 : Int) (l1 : List (S114)) : Option (Int × Int × Int × Int):=zb5.l0 k l1 0 s0_0 s0_1 s0_2 s0_3 s0_4 s0_5 s0_6 s0_7 s0_8
theorem zb5.mono_l : ∀ k,(∀ y0 y1 y2 y3 y4 y5 y6 y7 y8 y9 y10,LeO (zb5.l0 k y0 y1 y2 y3 y4 y5 y6 y7 y8 y9 y10) (zb5.l0 (k + 1) y0 y1 y2 y3 y4 y5 y6 y7 y8 y9 y10))
 | 0 => fun _ _ _ _ _ _ _ _ _ _ _ r h => by simp [zb5.l0] at h
 | k + 1 => by
  have ih0:=zb5.mono_l k
  ·intro y0 y1 y2 y3 y4 y5 y6 y7 y8 y9 y10
   unfold zb5.l0
   exact (by repeat' first | with_reducible apply ih0 | with_reducible apply zde.mono | with_reducible apply LeO.refl | with_reducible apply LeO.none | (with_reducible refine LeO.ite ?_ ?_) | (with_reducible refine LeO.bind ?_ (fun _ => ?_)))
theorem zb5.mono : ∀ a0 a1 a2 a3 a4 a5 a6 a7 a8 a9 k,LeO (zb5.f k a0 a1 a2 a3 a4 a5 a6 a7 a8 a9) (zb5.f (k + 1) a0 a1 a2 a3 a4 a5 a6 a7 a8 a9):=by
 intro a0 a1 a2 a3 a4 a5 a6 a7 a8 a9 k;have ih0:=zb5.mono_l k;unfold zb5.f
 exact yq11
set_option maxHeartbeats 8000000 in
set_option maxRecDepth 100000 in
theorem zb5.calls (k : Nat) (g : Nat) (s0_0 : List (S50)) (s0_1 : List (S87)) (s0_2 : List (S114)) (s0_3 : List (S158)) (s0_4 : List (S158)) (s0_5 : List (List Int)) (s0_6 : Int) (s0_7 : Int) (s0_8 : Int) (A1 : Option Addr) (c1 : Nat) (l1 : List (S114)) (r1 : Int) (r2 : Int) (r3 : Int) (r4 : Int) (w0 w : World) (hI : zax w0 w g s0_0 s0_1 s0_2 s0_3 s0_4 s0_5 s0_6 s0_7 s0_8) (hB : Below w0.heap.size w0 w) (hr1 : ∀ W_,zaf w W_ g none→Kd.C k114 W_ A1 l1.length l1) (hc1 : l1.length≤c1) (h : zb5.f k s0_0 s0_1 s0_2 s0_3 s0_4 s0_5 s0_6 s0_7 s0_8 l1 = some (r1,r2,r3,r4)) :
  Calls Tryz.prog 68 #[.pointer (some ⟨g,0,none⟩),.slice A1 l1.length c1] w fun e w' => e = .returned (.int .i64 r1)∧zax w0 w' g s0_0 s0_1 s0_2 s0_3 s0_4 s0_5 r2 r3 r4∧Below w0.heap.size w0 w'∧zaf w w' g none:=by
 have hu114:=Tryz.underlying114;have HR1:=zA0 hr1;have HC1:=zA0 hc1;clear hr1 hc1;have HI0:=zA0 hI;have HK:=zA0 (zaf.refl w g none);have HL:=zA0 hB.size;clear hI;have HW0:=zA0 hB.size;have HB:=zA0 hB;clear hB;have H : (zb5.l0 k l1 0 s0_0 s0_1 s0_2 s0_3 s0_4 s0_5 s0_6 s0_7 s0_8) = some (r1,r2,r3,r4):=h;clear h;have H':=zA0 H;clear H;go_enter Tryz.func68,Tryz.ntmps68;go_wp2
 go_loopg [5] k (fun kq v5 w' => ∃ (x5_1 : Int) (x1006_1 : Int) (x1007_1 : Int) (x1008_1 : Int),v5 = .int .i64 x5_1∧Aside0 (zb5.l0 kq l1 x5_1 s0_0 s0_1 s0_2 s0_3 s0_4 s0_5 x1006_1 x1007_1 x1008_1 = some (r1,r2,r3,r4))∧Aside0 (kq≤k)∧Aside0 (zax w0 w' g s0_0 s0_1 s0_2 s0_3 s0_4 s0_5 x1006_1 x1007_1 x1008_1)∧Aside0 (zaf w w' g none)∧Aside0 (Below w0.heap.size w0 w'))
 case atStart => exact ⟨(0),(s0_6),(s0_7),(s0_8),yq6,H',⟨Nat.le_refl _⟩,⟨yq8⟩,⟨yq1⟩,⟨yq21⟩⟩
 case round =>
  clear H';obtain ⟨x5_1,x1006_1,x1007_1,x1008_1,rfl,HA,HK1,HI0,HK,HB⟩:=hrel
  cases gk with
  | zero => exact absurd HA.out (by simp [zb5.l0])
  | succ k1 =>
   have H:=HA.out;clear HA;simp only [zb5.l0] at H
   by_cases c3 : x5_1 < (l1.length : Int)
   ·rw [if_pos c3] at H
    have c3b0 : decide (x5_1 < (l1.length : Int)) = true:=decide_eq_true c3;clear c3
    by_cases c4 : 0≤x5_1
    ·rw [if_pos c4] at H
     have c4b0 : decide (0≤x5_1) = true:=decide_eq_true c4;clear c4;replace H:=Option.bind_eq_some_iff.mp H;obtain ⟨⟨t571,t572,t573,t574⟩,A50,H⟩:=H;replace H : (if t571 = 0 then (zb5.l0 k1 l1 (wrap64 (x5_1 + 1)) s0_0 s0_1 s0_2 s0_3 s0_4 s0_5 t572 t573 t574) else (none)) = some (r1,r2,r3,r4):=H;have A5:=zA0 A50;clear A50
     by_cases c6 : t571 = 0
     ·rw [if_pos c6] at H
      have c6b0 : (t571 == 0) = true:=beq_iff_eq.mpr c6;have c6b1 : (t571 != 0) = false:=bne_eq_false_iff_eq.mpr c6;clear c6;have H':=zA0 H;clear H;have p570 : 0≤(x5_1 : Int):=of_decide_eq_true yq3;have q570 : x5_1 < (l1.length : Int):=of_decide_eq_true yq3;obtain ⟨ad570,A570_2,c570_2,A570_3,c570_3,A570_4,c570_4,e570,hx570_0,hx570_1,hx570_2,hx570_3,hx570_4,hl570_2,hi570_2,hl570_3,hi570_3,hl570_4,hi570_4⟩:=at_T114 (Kd.C_foot_now HR1.out HK.out) x5_1 p570 q570;cases e570;have HR570_2:=zA0 hi570_2;have HC570_2:=zA0 hl570_2;clear hi570_2 hl570_2;have HR570_3:=zA0 hi570_3;have HC570_3:=zA0 hl570_3;clear hi570_3 hl570_3;have HR570_4:=zA0 hi570_4;have HC570_4:=zA0 hl570_4;clear hi570_4 hl570_4;replace p570:=eq_true p570;replace q570:=eq_true q570
      go_wp2_with (first | ((with_reducible refine zav (f:=79) rfl ?_);refine zcf (some 18) rfl rfl Tryz.func79 (by kernel_rfl) rfl #[.pointer (some ⟨g,0,none⟩),.agg #[.int .i64 ((zbe l1 x5_1).f0),.string ((zbe l1 x5_1).f1),.slice A570_2 ((zbe l1 x5_1).f2).length c570_2,.slice A570_3 ((zbe l1 x5_1).f3).length c570_3,.slice A570_4 ((zbe l1 x5_1).f4).length c570_4]] rfl zt ?_;(with_reducible refine (zde.calls k1 g s0_0 s0_1 s0_2 s0_3 s0_4 s0_5 x1006_1 x1007_1 x1008_1 ((zbe l1 x5_1).f0) ((zbe l1 x5_1).f1) _ _ ((zbe l1 x5_1).f2) _ _ ((zbe l1 x5_1).f3) _ _ ((zbe l1 x5_1).f4) t571 t572 t573 t574 w0 _ ?side1 ?side2 ?side3 ?side4 ?side5 ?side6 ?side7 ?side8 A5.out).mono ?_);(case side1 => exact yq8);(case side2 => exact yq21);(case side3 => exact foot_T114_2 HR1.out HK.out yq1 _ (of_eq_true p570) (of_eq_true q570) rfl hx570_2);(case side4 => exact HC570_2.out);(case side5 => exact foot_T114_3 HR1.out HK.out yq1 _ (of_eq_true p570) (of_eq_true q570) rfl hx570_3);(case side6 => exact HC570_3.out);(case side7 => exact foot_T114_4 HR1.out HK.out yq1 _ (of_eq_true p570) (of_eq_true q570) rfl hx570_4);(case side8 => exact HC570_4.out);rintro e w7 ⟨rfl,hi,hb,hk⟩;refine ⟨_,rfl,?_⟩;have n0_:=zA0 (zaf.trans yq1 hk (.inl rfl));have n1_:=zA0 (hb);have n2_:=zA0 (hi);clear HK HB HI0;revert n0_ n1_ n2_;intro HK HB HI0;clear hb hk hi))
      go_roundg k1
      case measure => have:=HK1.out;omega
      case rel => exact ⟨(wrap64 (x5_1 + 1)),(t572),(t573),(t574),yq6,H',⟨yq95⟩,⟨yq8⟩,⟨yq1⟩,⟨yq21⟩⟩
     ·rw [if_neg c6] at H
      exact absurd H (by simp)
    ·rw [if_neg c4] at H
     exact absurd H (by simp)
   ·rw [if_neg c3] at H
    have c3b0 : decide (x5_1 < (l1.length : Int)) = false:=decide_eq_false c3;clear c3;simp only [Option.some.injEq,Prod.mk.injEq] at H;obtain ⟨rfl,rfl,rfl,rfl⟩:=H;go_wp2;go_ret;exact ⟨yq7,yq8,yq21,yq1⟩
end Go.Proofs.YtkgdhdjkpnalmaaGreatDoor.P
end
