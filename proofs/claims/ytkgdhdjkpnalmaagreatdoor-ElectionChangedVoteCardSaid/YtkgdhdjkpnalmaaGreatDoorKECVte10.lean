/- What is proved here: a part of the proof of ElectionChangedVote: Px4, Px5, Px6, Px7. No conditions beside those that each theorem states. -/
import Derived.Test.YtkgdhdjkpnalmaaGreatDoorKECVte4
import Derived.Test.YtkgdhdjkpnalmaaGreatDoorKECVte9
import Derived.StillTailTactics
set_option linter.unusedVariables false
set_option linter.unusedSimpArgs false
section
namespace Go.Proofs.YtkgdhdjkpnalmaaGreatDoor.P
open Go.RowKit Go.Proofs.YtkgdhdjkpnalmaaGreatDoorW.PrintWords Go.Proofs.YtkgdhdjkpnalmaaGreatDoorW.PrintLast Go.Proofs.YtkgdhdjkpnalmaaGreatDoorW.PrintMore
attribute [local go_sem] zcd zca zci zcj zb1 zb2 zcc zcb
def zbb.f (s0_0 : List (S92)) (s0_1 : Int) (s0_2 : Bool) (a1 : Int) : Option (Bool × Int × Bool):=if s0_1 < (s0_0.length : Int) then (if 0≤s0_1 then (some ((((zcz s0_0 s0_1).f0) == a1),s0_1,s0_2)) else (none)) else (some (false,s0_1,s0_2))
set_option maxHeartbeats 8000000 in
set_option maxRecDepth 100000 in
theorem zbb.calls (g : Nat) (s0_0 : List (S92)) (s0_1 : Int) (s0_2 : Bool) (a1 : Int) (r1 : Bool) (r2 : Int) (r3 : Bool) (w0 w : World) (hI : zay w0 w g s0_0 s0_1 s0_2) (hB : Below w0.heap.size w0 w) (h : zbb.f s0_0 s0_1 s0_2 a1 = some (r1,r2,r3)) :
  Calls Tryz.prog 62 #[.pointer (some ⟨g,0,none⟩),.int .i64 a1] w fun e w' => e = .returned (.bool r1)∧zay w0 w' g s0_0 r2 r3∧Below w0.heap.size w0 w'∧zaf w w' g none:=by
 have HI0:=zA0 hI;have HK:=zA0 (zaf.refl w g none);have HL:=zA0 hB.size;clear hI;have HW0:=zA0 hB.size;have HB:=zA0 hB;clear hB;have H : (if s0_1 < (s0_0.length : Int) then (if 0≤s0_1 then (some ((((zcz s0_0 s0_1).f0) == a1),s0_1,s0_2)) else (none)) else (some (false,s0_1,s0_2))) = some (r1,r2,r3):=h;clear h
 by_cases c3 : s0_1 < (s0_0.length : Int)
 ·rw [if_pos c3] at H
  have c3b0 : decide (s0_1 < (s0_0.length : Int)) = true:=decide_eq_true c3;clear c3
  by_cases c4 : 0≤s0_1
  ·rw [if_pos c4] at H
   have c4b0 : decide (0≤s0_1) = true:=decide_eq_true c4;clear c4;simp only [Option.some.injEq,Prod.mk.injEq] at H;obtain ⟨rfl,rfl,rfl⟩:=H;obtain ⟨ASz5_0,cSz5_0,HGz5,hgz5,HSz5_0⟩:=HI0.out;have hcz5_0:=zcq HGz5;have hcz5_1:=zcn HGz5;have hcz5_2:=zco HGz5;have hfz5_1:=zap HGz5 1;have hfz5_2:=zap HGz5 2;clear HGz5 hgz5;have p108 : 0≤(s0_1 : Int):=of_decide_eq_true yq3;have q108 : s0_1 < (s0_0.length : Int):=of_decide_eq_true yq3;obtain ⟨ad108,e108,hx108_0,hx108_1,hx108_2,hx108_3⟩:=at_T92 HSz5_0 s0_1 p108 q108;cases e108;replace hx108_0:=zby HB.out hx108_0;replace hx108_1:=zby HB.out hx108_1;replace hx108_2:=zby HB.out hx108_2;replace hx108_3:=zby HB.out hx108_3;replace p108:=eq_true p108;replace q108:=eq_true q108;go_enter Tryz.func62,Tryz.ntmps62;go_wp2
   repeat (go_quiet (fail);try go_wp2)
   go_ret;exact ⟨yq7,yq2,yq5,yq1⟩
  ·rw [if_neg c4] at H
   exact absurd H (by simp)
 ·rw [if_neg c3] at H
  have c3b0 : decide (s0_1 < (s0_0.length : Int)) = false:=decide_eq_false c3;clear c3;simp only [Option.some.injEq,Prod.mk.injEq] at H;obtain ⟨rfl,rfl,rfl⟩:=H;obtain ⟨ASz6_0,cSz6_0,HGz6,hgz6,HSz6_0⟩:=HI0.out;have hcz6_0:=zcq HGz6;have hcz6_1:=zcn HGz6;have hcz6_2:=zco HGz6;have hfz6_1:=zap HGz6 1;have hfz6_2:=zap HGz6 2;clear HGz6 hgz6;go_enter Tryz.func62,Tryz.ntmps62;go_wp2
  repeat (go_quiet (fail);try go_wp2)
  go_ret;exact ⟨yq7,yq2,yq5,yq1⟩
set_option maxHeartbeats 8000000 in
set_option maxRecDepth 100000 in
theorem zbb.still (g : Nat) (s0_0 : List (S92)) (s0_1 : Int) (s0_2 : Bool) (a1 : Int) (r1 : Bool) (r2 : Int) (r3 : Bool) (w0 w : World) (hI : zay w0 w g s0_0 s0_1 s0_2) (hB : Below w0.heap.size w0 w) (h : zbb.f s0_0 s0_1 s0_2 a1 = some (r1,r2,r3)) :
  Calls Tryz.prog 62 #[.pointer (some ⟨g,0,none⟩),.int .i64 a1] w fun e w' => e = .returned (.bool r1)∧zdl w w':=by
 have HI0:=zA0 hI;have HK:=zA0 (zaf.refl w g none);have HL:=zA0 hB.size;clear hI;have HW0:=zA0 hB.size;have HB:=zA0 hB;clear hB;have H : (if s0_1 < (s0_0.length : Int) then (if 0≤s0_1 then (some ((((zcz s0_0 s0_1).f0) == a1),s0_1,s0_2)) else (none)) else (some (false,s0_1,s0_2))) = some (r1,r2,r3):=h;clear h
 by_cases c3 : s0_1 < (s0_0.length : Int)
 ·rw [if_pos c3] at H
  have c3b0 : decide (s0_1 < (s0_0.length : Int)) = true:=decide_eq_true c3;clear c3
  by_cases c4 : 0≤s0_1
  ·rw [if_pos c4] at H
   have c4b0 : decide (0≤s0_1) = true:=decide_eq_true c4;clear c4;simp only [Option.some.injEq,Prod.mk.injEq] at H;obtain ⟨rfl,rfl,rfl⟩:=H;obtain ⟨ASz5_0,cSz5_0,HGz5,hgz5,HSz5_0⟩:=HI0.out;have hcz5_0:=zcq HGz5;have hcz5_1:=zcn HGz5;have hcz5_2:=zco HGz5;have hfz5_1:=zap HGz5 1;have hfz5_2:=zap HGz5 2;clear HGz5 hgz5;have p108 : 0≤(s0_1 : Int):=of_decide_eq_true yq3;have q108 : s0_1 < (s0_0.length : Int):=of_decide_eq_true yq3;obtain ⟨ad108,e108,hx108_0,hx108_1,hx108_2,hx108_3⟩:=at_T92 HSz5_0 s0_1 p108 q108;cases e108;replace hx108_0:=zby HB.out hx108_0;replace hx108_1:=zby HB.out hx108_1;replace hx108_2:=zby HB.out hx108_2;replace hx108_3:=zby HB.out hx108_3;replace p108:=eq_true p108;replace q108:=eq_true q108;go_enter Tryz.func62,Tryz.ntmps62;go_wp2
   repeat (go_quiet (fail);try go_wp2)
   go_ret;exact ⟨yq7,yq17⟩
  ·rw [if_neg c4] at H
   exact absurd H (by simp)
 ·rw [if_neg c3] at H
  have c3b0 : decide (s0_1 < (s0_0.length : Int)) = false:=decide_eq_false c3;clear c3;simp only [Option.some.injEq,Prod.mk.injEq] at H;obtain ⟨rfl,rfl,rfl⟩:=H;obtain ⟨ASz6_0,cSz6_0,HGz6,hgz6,HSz6_0⟩:=HI0.out;have hcz6_0:=zcq HGz6;have hcz6_1:=zcn HGz6;have hcz6_2:=zco HGz6;have hfz6_1:=zap HGz6 1;have hfz6_2:=zap HGz6 2;clear HGz6 hgz6;go_enter Tryz.func62,Tryz.ntmps62;go_wp2
  repeat (go_quiet (fail);try go_wp2)
  go_ret;exact ⟨yq7,yq17⟩
theorem zbb.same {l : List S92} {i : Int} {b : Bool} {a : Int} {r : Bool} {j : Int} {c : Bool} (h : zbb.f l i b a = some (r,j,c)) : j = i∧c = b:=by
 unfold zbb.f at h
 split at h
 ·split at h
  ·simp only [Option.some.injEq,Prod.mk.injEq] at h
   exact ⟨h.2.1.symm,h.2.2.symm⟩
  ·cases h
 ·simp only [Option.some.injEq,Prod.mk.injEq] at h
  exact ⟨h.2.1.symm,h.2.2.symm⟩
def zau.f (s0_0 : List (S92)) (s0_1 : Int) (s0_2 : Bool) (a1 : Int) : Option (Int × ByteArray × Int × Int × Int × Bool):=if s0_2 = true then (none) else ((zbb.f s0_0 s0_1 s0_2 a1).bind fun bt110 => (if bt110.1 = true then (if 0≤(wrap64 ((wrap64 (bt110.2.1 + 1)) - 1)) then (if (wrap64 ((wrap64 (bt110.2.1 + 1)) - 1)) < (s0_0.length : Int) then (some ((zcz s0_0 (wrap64 ((wrap64 (bt110.2.1 + 1)) - 1))).f0,(zcz s0_0 (wrap64 ((wrap64 (bt110.2.1 + 1)) - 1))).f1,(zcz s0_0 (wrap64 ((wrap64 (bt110.2.1 + 1)) - 1))).f2,(zcz s0_0 (wrap64 ((wrap64 (bt110.2.1 + 1)) - 1))).f3,wrap64 (bt110.2.1 + 1),bt110.2.2)) else (none)) else (none)) else (none)))
set_option maxHeartbeats 8000000 in
set_option maxRecDepth 100000 in
theorem zau.calls (g : Nat) (s0_0 : List (S92)) (s0_1 : Int) (s0_2 : Bool) (a1 : Int) (r1 : Int) (r2 : ByteArray) (r3 : Int) (r4 : Int) (r5 : Int) (r6 : Bool) (w0 w : World) (hI : zay w0 w g s0_0 s0_1 s0_2) (hB : Below w0.heap.size w0 w) (h : zau.f s0_0 s0_1 s0_2 a1 = some (r1,r2,r3,r4,r5,r6)) :
  Calls Tryz.prog 42 #[.pointer (some ⟨g,0,none⟩),.int .i64 a1] w fun e w' => e = .returned (.agg #[.int .i64 r1,.string r2,.int .u64 r3,.int .i64 r4])∧zay w0 w' g s0_0 r5 r6∧Below w0.heap.size w0 w'∧zaf w w' g none:=by
 have hu92:=Tryz.underlying92;have HI0:=zA0 hI;have HK:=zA0 (zaf.refl w g none);have HL:=zA0 hB.size;clear hI;have HW0:=zA0 hB.size;have HB:=zA0 hB;clear hB;have H : (if s0_2 = true then (none) else ((zbb.f s0_0 s0_1 s0_2 a1).bind fun bt110 => (if bt110.1 = true then (if 0≤(wrap64 ((wrap64 (bt110.2.1 + 1)) - 1)) then (if (wrap64 ((wrap64 (bt110.2.1 + 1)) - 1)) < (s0_0.length : Int) then (some ((zcz s0_0 (wrap64 ((wrap64 (bt110.2.1 + 1)) - 1))).f0,(zcz s0_0 (wrap64 ((wrap64 (bt110.2.1 + 1)) - 1))).f1,(zcz s0_0 (wrap64 ((wrap64 (bt110.2.1 + 1)) - 1))).f2,(zcz s0_0 (wrap64 ((wrap64 (bt110.2.1 + 1)) - 1))).f3,wrap64 (bt110.2.1 + 1),bt110.2.2)) else (none)) else (none)) else (none)))) = some (r1,r2,r3,r4,r5,r6):=h;clear h
 by_cases c3 : s0_2 = true
 ·subst c3
  have H1 : (none) = some (r1,r2,r3,r4,r5,r6):=yq36
  clear H;have H:=H1;clear H1;exact absurd H (by simp)
 ·replace c3:=Bool.eq_false_iff.mpr c3
  subst c3
  have H1 : ((zbb.f s0_0 s0_1 false a1).bind fun bt110 => (if bt110.1 = true then (if 0≤(wrap64 ((wrap64 (bt110.2.1 + 1)) - 1)) then (if (wrap64 ((wrap64 (bt110.2.1 + 1)) - 1)) < (s0_0.length : Int) then (some ((zcz s0_0 (wrap64 ((wrap64 (bt110.2.1 + 1)) - 1))).f0,(zcz s0_0 (wrap64 ((wrap64 (bt110.2.1 + 1)) - 1))).f1,(zcz s0_0 (wrap64 ((wrap64 (bt110.2.1 + 1)) - 1))).f2,(zcz s0_0 (wrap64 ((wrap64 (bt110.2.1 + 1)) - 1))).f3,wrap64 (bt110.2.1 + 1),bt110.2.2)) else (none)) else (none)) else (none))) = some (r1,r2,r3,r4,r5,r6):=yq12
  clear H;have H:=H1;clear H1;replace H:=Option.bind_eq_some_iff.mp H;obtain ⟨⟨t110,t111,t112⟩,A40,H⟩:=H;replace H : (if t110 = true then (if 0≤(wrap64 ((wrap64 (t111 + 1)) - 1)) then (if (wrap64 ((wrap64 (t111 + 1)) - 1)) < (s0_0.length : Int) then (some ((zcz s0_0 (wrap64 ((wrap64 (t111 + 1)) - 1))).f0,(zcz s0_0 (wrap64 ((wrap64 (t111 + 1)) - 1))).f1,(zcz s0_0 (wrap64 ((wrap64 (t111 + 1)) - 1))).f2,(zcz s0_0 (wrap64 ((wrap64 (t111 + 1)) - 1))).f3,wrap64 (t111 + 1),t112)) else (none)) else (none)) else (none)) = some (r1,r2,r3,r4,r5,r6):=H;have A4:=zA0 A40;clear A40
  by_cases c5 : t110 = true
  ·subst c5
   have H1 : (if 0≤(wrap64 ((wrap64 (t111 + 1)) - 1)) then (if (wrap64 ((wrap64 (t111 + 1)) - 1)) < (s0_0.length : Int) then (some ((zcz s0_0 (wrap64 ((wrap64 (t111 + 1)) - 1))).f0,(zcz s0_0 (wrap64 ((wrap64 (t111 + 1)) - 1))).f1,(zcz s0_0 (wrap64 ((wrap64 (t111 + 1)) - 1))).f2,(zcz s0_0 (wrap64 ((wrap64 (t111 + 1)) - 1))).f3,wrap64 (t111 + 1),t112)) else (none)) else (none)) = some (r1,r2,r3,r4,r5,r6):=yq36
   clear H;have H:=H1;clear H1
   obtain ⟨ji6,hji6⟩ : ∃ j_ : Int,(wrap64 ((wrap64 (t111 + 1)) - 1)) = j_:=⟨_,rfl⟩
   replace H : (if 0≤(ji6) then (if (ji6) < (s0_0.length : Int) then (some ((zcz s0_0 (ji6)).f0,(zcz s0_0 (ji6)).f1,(zcz s0_0 (ji6)).f2,(zcz s0_0 (ji6)).f3,wrap64 (t111 + 1),t112)) else (none)) else (none)) = some (r1,r2,r3,r4,r5,r6):=by first | (rw [hji6] at H;exact H) | (simp only [hji6] at H ⊢;exact H)
   (try rw [hji6] at A4);have hji6w : (IntKind.i64.wrap ((wrap64 (t111 + 1)) - 1)) = ji6:=(zc7 _).trans hji6
   by_cases c7 : 0≤(ji6)
   ·rw [if_pos c7] at H
    have c7b0 : decide (0≤(ji6)) = true:=decide_eq_true c7;clear c7
    by_cases c8 : (ji6) < (s0_0.length : Int)
    ·rw [if_pos c8] at H
     have c8b0 : decide ((ji6) < (s0_0.length : Int)) = true:=decide_eq_true c8;clear c8;simp only [Option.some.injEq,Prod.mk.injEq] at H;obtain ⟨rfl,rfl,rfl,rfl,rfl,rfl⟩:=H;go_enter Tryz.func42,Tryz.ntmps42
     go_wp2_with (first | ((with_reducible refine zbm (N:=4) rfl ?_);refine zbk ?hg (N:=4) ?hd (cs:=#[.int .i64 0,.string (⟨#[]⟩ : ByteArray),.int .u64 0,.int .i64 0]) (t:=92) ?hr ?_;(case hd => rfl);(case hg => rfl);(case hr => first | (go_simp;done) | (go_simp;rfl));intro gb109 hg w9 hbox hb;have n0_:=zA0 (zay.below yq2 hb);have n1_:=zA0 (zaf.trans yq1 (zaf.of_below hb g none) (.inl rfl));have n2_:=zA0 (zaj yq5 hb);have n3_:=zA0 (hbox);have n4_:=zA0 ((zd1 : w.heap.size≤gb109));have n5_:=zA0 ((Nat.le_trans HW0.out (zd1 : w.heap.size≤gb109) : w0.heap.size≤gb109));have n6_:=zA0 ((by rw [hg];exact Nat.ne_of_lt (zay.lt (show zay w0 _ g s0_0 s0_1 false from yq2)) : g≠gb109));have n7_:=zA0 ((by rw [hg];exact Nat.ne_of_gt (zay.lt (show zay w0 _ g s0_0 s0_1 false from yq2)) : gb109≠g));clear HI0 HK HB;revert n0_ n1_ n2_ n3_ n4_ n5_ n6_ n7_;intro HI0 HK HB BK109 GW109 GE109 NB0_109 NB109_0;clear hb hbox hg;obtain ⟨ASz10_0,cSz10_0,HGz10,hgz10,HSz10_0⟩:=HI0.out;have hcz10_0:=zcq HGz10;have hcz10_1:=zcn HGz10;have hcz10_2:=zco HGz10;have hfz10_1:=zap HGz10 1;have hfz10_2:=zap HGz10 2;clear HGz10 hgz10) | (go_at_call 62;(with_reducible refine (zbb.calls g s0_0 s0_1 false a1 true t111 t112 w0 _ ?side1 ?side2 A4.out).mono ?_);(case side1 => exact yq168);(case side2 => exact yq172);rintro e w11 ⟨rfl,hi,hb,hk⟩;have n0_:=zA0 (zaf.blk hk (g':=gb109) (o:=.cells #[.int .i64 0,.string (⟨#[]⟩ : ByteArray),.int .u64 0,.int .i64 0] 92 (0,0)) (zb BK109) NB109_0.out (by simp));have n1_:=zA0 (zaf.trans yq182 hk (.inl rfl));have n2_:=zA0 (hb);have n3_:=zA0 (hi);clear BK109 HK HB HI0;revert n0_ n1_ n2_ n3_;intro BK109 HK HB HI0;clear hb hk hi;obtain ⟨ASz12_0,cSz12_0,HGz12,hgz12,HSz12_0⟩:=HI0.out;have hcz12_0:=zcq HGz12;have hcz12_1:=zcn HGz12;have hcz12_2:=zco HGz12;have hfz12_1:=zap HGz12 1;have hfz12_2:=zap HGz12 2;clear HGz12 hgz12;have p113 : 0≤((ji6) : Int):=of_decide_eq_true yq3;have q113 : (ji6) < (s0_0.length : Int):=of_decide_eq_true yq3;obtain ⟨ad113,e113,hx113_0,hx113_1,hx113_2,hx113_3⟩:=at_T92 HSz12_0 (ji6) p113 q113;cases e113;have hn113_0 : ad113.block≠g:=Nat.ne_of_lt (Nat.lt_of_lt_of_le (by have:=World.block_lt_of_cell? _ _ hx113_0;first | rwa [zb8] at this | exact this) (zay.ge HI0.out));replace hx113_0:=zby HB.out hx113_0;replace hx113_1:=zby HB.out hx113_1;replace hx113_2:=zby HB.out hx113_2;replace hx113_3:=zby HB.out hx113_3;replace hx113_0:=(zbc (p:=⟨g,1,none⟩) yq128 (.int .i64 (wrap64 (t111 + 1)))).trans hx113_0;replace hx113_1:=(zbc (p:=⟨g,1,none⟩) yq128 (.int .i64 (wrap64 (t111 + 1)))).trans hx113_1;replace hx113_2:=(zbc (p:=⟨g,1,none⟩) yq128 (.int .i64 (wrap64 (t111 + 1)))).trans hx113_2;replace hx113_3:=(zbc (p:=⟨g,1,none⟩) yq128 (.int .i64 (wrap64 (t111 + 1)))).trans hx113_3;clear hn113_0;replace p113:=eq_true p113;replace q113:=eq_true q113;have hnb13:=NB109_0.out;have hnc13:=NB0_109.out;obtain ⟨_,_,_,_⟩:=zc4 BK109.out;obtain ⟨_,_,_,_⟩:=zf4 BK109.out))
     have mixed : Tryz.prog.follows .mixedOrders = true:=by kernel_rfl
     have y0 : (World.drew (w11.setCell ⟨g,1,none⟩ (.int .i64 (wrap64 (t111 + 1))))).cell? ⟨g,0,none⟩ = some (.slice (some ad113) s0_0.length cSz12_0):=(World.cell?_setCell_other _ _ _ _ (by simp)).trans hcz12_0;have y1 : (World.drew (w11.setCell ⟨g,1,none⟩ (.int .i64 (wrap64 (t111 + 1))))).cell? ⟨g,1,none⟩ = some (.int .i64 (wrap64 (t111 + 1))):=World.cell?_setCell_same' _ _ _ (by rw [hcz12_1];rfl);refine wp_region_still_tail 11 mixed (by kernel_rfl) ?_;simp only [List.take_succ_cons,List.take_zero,List.drop_succ_cons,List.drop_zero]
     change wpStill _ _ (World.drew _) _ _ _
     repeat still_step
     refine wpStill_nil ?_
     change wpList _ _ _ _ _ (World.drew _)
     go_wp2;refine bodyPost_ret (results_cell_row rfl _ _ gb109 92 #[.int .i64 ((zcz s0_0 (ji6)).f0),.string ((zcz s0_0 (ji6)).f1),.int .u64 ((zcz s0_0 (ji6)).f2),.int .i64 ((zcz s0_0 (ji6)).f3)] (0,0) _ rfl (by refine yb1 ?_;refine zaz (cs:=#[.int .i64 ((zcz s0_0 (ji6)).f0),.string ((zcz s0_0 (ji6)).f1),.int .u64 ((zcz s0_0 (ji6)).f2),.int .i64 0]) ?_ 3 _ rfl;refine yb1 ?_;refine zaz (cs:=#[.int .i64 ((zcz s0_0 (ji6)).f0),.string ((zcz s0_0 (ji6)).f1),.int .u64 0,.int .i64 0]) ?_ 2 _ rfl;refine yb1 ?_;refine zaz (cs:=#[.int .i64 ((zcz s0_0 (ji6)).f0),.string (⟨#[]⟩ : ByteArray),.int .u64 0,.int .i64 0]) ?_ 1 _ rfl;refine yb1 ?_;refine zaz (cs:=#[.int .i64 0,.string (⟨#[]⟩ : ByteArray),.int .u64 0,.int .i64 0]) ?_ 0 _ rfl;refine yb1 ?_;refine zbv ?_ NB109_0.out _;refine yb1 ?_;exact BK109.out) Tryz.underlying92 rfl (by kernel_rfl)) rfl ?_;exact ⟨by first | rfl | (simp [zdp,zdo] <;> rfl) | (simp only [← hji6];first | rfl | (simp [zdp,zdo] <;> rfl)) | (simp [*,zdp,zdo] <;> rfl),yq168,yq172,yq182⟩
    ·rw [if_neg c8] at H
     exact absurd H (by simp)
   ·rw [if_neg c7] at H
    exact absurd H (by simp)
  ·replace c5:=Bool.eq_false_iff.mpr c5
   subst c5
   have H1 : (none) = some (r1,r2,r3,r4,r5,r6):=yq12
   clear H;have H:=H1;clear H1;exact absurd H (by simp)
def zbq.j0 : Nat→ByteArray→Bool→Option (Int)
 | 0,_,_ => none
 | k + 1,x3,x12 => if x12 = true then (some 5) else (if x3.toList = ([42] : List UInt8) then (none) else (some 0))
def zbq.f (k : Nat) (a0 : ByteArray) : Option (Int):=if a0.toList = ([124] : List UInt8) then (none) else (if a0.toList = ([38] : List UInt8) then (none) else (if a0.toList = ([61,61] : List UInt8) then (some 3) else (if a0.toList = ([60] : List UInt8) then (none) else (if a0.toList = ([43] : List UInt8) then (zbq.j0 k a0 (a0.toList == ([43] : List UInt8))) else (zbq.j0 k a0 (a0.toList == ([45] : List UInt8)))))))
theorem zbq.mono_l : ∀ k,(∀ y0 y1,LeO (zbq.j0 k y0 y1) (zbq.j0 (k + 1) y0 y1))
 | 0 => fun _ _ r h => by simp [zbq.j0] at h
 | k + 1 => by
  have ih0:=zbq.mono_l k
  ·intro y0 y1
   unfold zbq.j0
   exact yq11
theorem zbq.mono : ∀ a0 k,LeO (zbq.f k a0) (zbq.f (k + 1) a0):=by
 intro a0 k;have ih0:=zbq.mono_l k;unfold zbq.f
 exact yq11
set_option maxHeartbeats 8000000 in
set_option maxRecDepth 100000 in
theorem zbq.calls (k : Nat) (a0 : ByteArray) (r : Int) (w : World) (h : zbq.f k a0 = some r) :
  Calls Tryz.prog 102 #[.string a0] w fun e w' => e = .returned (.int .i64 r)∧zdl w w':=by
 have H : (if a0.toList = ([124] : List UInt8) then (none) else (if a0.toList = ([38] : List UInt8) then (none) else (if a0.toList = ([61,61] : List UInt8) then (some 3) else (if a0.toList = ([60] : List UInt8) then (none) else (if a0.toList = ([43] : List UInt8) then (zbq.j0 k a0 (a0.toList == ([43] : List UInt8))) else (zbq.j0 k a0 (a0.toList == ([45] : List UInt8)))))))) = some r:=h;clear h
 by_cases c2 : a0.toList = ([124] : List UInt8)
 ·rw [if_pos c2] at H
  exact absurd H (by simp)
 ·rw [if_neg c2] at H
  have c2b0 : (a0.toList == ([124] : List UInt8)) = false:=beq_eq_false_iff_ne.mpr c2;have c2b1 : (a0.toList != ([124] : List UInt8)) = true:=bne_iff_ne.mpr c2
  by_cases c3 : a0.toList = ([38] : List UInt8)
  ·rw [if_pos c3] at H
   exact absurd H (by simp)
  ·rw [if_neg c3] at H
   have c3b0 : (a0.toList == ([38] : List UInt8)) = false:=beq_eq_false_iff_ne.mpr c3;have c3b1 : (a0.toList != ([38] : List UInt8)) = true:=bne_iff_ne.mpr c3
   by_cases c4 : a0.toList = ([61,61] : List UInt8)
   ·rw [if_pos c4] at H
    have c4b0 : (a0.toList == ([61,61] : List UInt8)) = true:=beq_iff_eq.mpr c4;have c4b1 : (a0.toList != ([61,61] : List UInt8)) = false:=bne_eq_false_iff_eq.mpr c4;clear c4;obtain rfl:=Option.some.inj H;go_enter Tryz.func102,Tryz.ntmps102;go_wp2;go_ret;exact ⟨yq6,yq17⟩
   ·rw [if_neg c4] at H
    have c4b0 : (a0.toList == ([61,61] : List UInt8)) = false:=beq_eq_false_iff_ne.mpr c4;have c4b1 : (a0.toList != ([61,61] : List UInt8)) = true:=bne_iff_ne.mpr c4
    by_cases c5 : a0.toList = ([60] : List UInt8)
    ·rw [if_pos c5] at H
     exact absurd H (by simp)
    ·rw [if_neg c5] at H
     have c5b0 : (a0.toList == ([60] : List UInt8)) = false:=beq_eq_false_iff_ne.mpr c5;have c5b1 : (a0.toList != ([60] : List UInt8)) = true:=bne_iff_ne.mpr c5;have HC6:=zA0 H;clear H;go_enter Tryz.func102,Tryz.ntmps102
     go_upto_if 12 with (fail)
     go_cut [12] (fun v12 wc => ∃ (kq : Nat) (x12_5 : Bool),v12 = .bool x12_5∧Aside0 (zbq.j0 kq a0 x12_5 = some r)∧Aside0 (kq≤k)∧zdl w wc)
     case first =>
      have H:=HC6.out;clear HC6
      by_cases c7 : a0.toList = ([43] : List UInt8)
      ·rw [if_pos c7] at H
       have c7b0 : (a0.toList == ([43] : List UInt8)) = true:=beq_iff_eq.mpr c7;have c7b1 : (a0.toList != ([43] : List UInt8)) = false:=bne_eq_false_iff_eq.mpr c7;clear c7
       (first | rw [c7b0] | (simp only [zc7,zdc];rw [c7b0]) | skip)
       have H':=zA0 H;clear H;go_wp2
       go_meet
       case rel => exact ⟨_,((a0.toList == ([43] : List UInt8))),yq6,H',⟨yq209⟩,yq17⟩
      ·rw [if_neg c7] at H
       have c7b0 : (a0.toList == ([43] : List UInt8)) = false:=beq_eq_false_iff_ne.mpr c7;have c7b1 : (a0.toList != ([43] : List UInt8)) = true:=bne_iff_ne.mpr c7
       (first | rw [c7b0] | (simp only [zc7,zdc];rw [c7b0]) | skip)
       have H':=zA0 H;clear H;go_wp2
       go_meet
       case rel => exact ⟨_,((a0.toList == ([45] : List UInt8))),yq6,H',⟨yq209⟩,yq17⟩
     case rest =>
      clear HC6;obtain ⟨kq,x12_5,rfl,HA,HJ5,⟨mc5,rfl⟩⟩:=hcut
      cases kq with
      | zero => exact absurd HA.out (by simp [zbq.j0])
      | succ kj5 =>
       have H:=HA.out;clear HA;simp only [zbq.j0] at H
       by_cases c8 : x12_5 = true
       ·subst c8
        have H1 : (some 5) = some r:=yq36
        clear H;have H:=H1;clear H1;obtain rfl:=Option.some.inj H;go_wp2;go_ret;exact ⟨yq6,yq17⟩
       ·replace c8:=Bool.eq_false_iff.mpr c8
        subst c8
        have H1 : (if a0.toList = ([42] : List UInt8) then (none) else (some 0)) = some r:=yq12
        clear H;have H:=H1;clear H1
        by_cases c9 : a0.toList = ([42] : List UInt8)
        ·rw [if_pos c9] at H
         exact absurd H (by simp)
        ·rw [if_neg c9] at H
         have c9b0 : (a0.toList == ([42] : List UInt8)) = false:=beq_eq_false_iff_ne.mpr c9;have c9b1 : (a0.toList != ([42] : List UInt8)) = true:=bne_iff_ne.mpr c9;obtain rfl:=Option.some.inj H;go_wp2;go_ret;exact ⟨yq6,yq17⟩
def zdq.f (a0 : ByteArray) : Option (Int):=if a0.toList = ([124] : List UInt8) then (none) else (if a0.toList = ([38] : List UInt8) then (none) else (if a0.toList = ([61,61] : List UInt8) then (some 5) else (if a0.toList = ([60] : List UInt8) then (none) else (if a0.toList = ([43] : List UInt8) then (some 1) else (if a0.toList = ([45] : List UInt8) then (none) else (none))))))
set_option maxHeartbeats 8000000 in
set_option maxRecDepth 100000 in
theorem zdq.calls (a0 : ByteArray) (r : Int) (w : World) (h : zdq.f a0 = some r) :
  Calls Tryz.prog 103 #[.string a0] w fun e w' => e = .returned (.int .i64 r)∧zdl w w':=by
 have H : (if a0.toList = ([124] : List UInt8) then (none) else (if a0.toList = ([38] : List UInt8) then (none) else (if a0.toList = ([61,61] : List UInt8) then (some 5) else (if a0.toList = ([60] : List UInt8) then (none) else (if a0.toList = ([43] : List UInt8) then (some 1) else (if a0.toList = ([45] : List UInt8) then (none) else (none))))))) = some r:=h;clear h
 by_cases c2 : a0.toList = ([124] : List UInt8)
 ·rw [if_pos c2] at H
  exact absurd H (by simp)
 ·rw [if_neg c2] at H
  have c2b0 : (a0.toList == ([124] : List UInt8)) = false:=beq_eq_false_iff_ne.mpr c2;have c2b1 : (a0.toList != ([124] : List UInt8)) = true:=bne_iff_ne.mpr c2
  by_cases c3 : a0.toList = ([38] : List UInt8)
  ·rw [if_pos c3] at H
   exact absurd H (by simp)
  ·rw [if_neg c3] at H
   have c3b0 : (a0.toList == ([38] : List UInt8)) = false:=beq_eq_false_iff_ne.mpr c3;have c3b1 : (a0.toList != ([38] : List UInt8)) = true:=bne_iff_ne.mpr c3
   by_cases c4 : a0.toList = ([61,61] : List UInt8)
   ·rw [if_pos c4] at H
    have c4b0 : (a0.toList == ([61,61] : List UInt8)) = true:=beq_iff_eq.mpr c4;have c4b1 : (a0.toList != ([61,61] : List UInt8)) = false:=bne_eq_false_iff_eq.mpr c4;clear c4;obtain rfl:=Option.some.inj H;go_enter Tryz.func103,Tryz.ntmps103;go_wp2;go_ret;exact ⟨yq6,yq17⟩
   ·rw [if_neg c4] at H
    have c4b0 : (a0.toList == ([61,61] : List UInt8)) = false:=beq_eq_false_iff_ne.mpr c4;have c4b1 : (a0.toList != ([61,61] : List UInt8)) = true:=bne_iff_ne.mpr c4
    by_cases c5 : a0.toList = ([60] : List UInt8)
    ·rw [if_pos c5] at H
     exact absurd H (by simp)
    ·rw [if_neg c5] at H
     have c5b0 : (a0.toList == ([60] : List UInt8)) = false:=beq_eq_false_iff_ne.mpr c5;have c5b1 : (a0.toList != ([60] : List UInt8)) = true:=bne_iff_ne.mpr c5
     by_cases c6 : a0.toList = ([43] : List UInt8)
     ·rw [if_pos c6] at H
      have c6b0 : (a0.toList == ([43] : List UInt8)) = true:=beq_iff_eq.mpr c6;have c6b1 : (a0.toList != ([43] : List UInt8)) = false:=bne_eq_false_iff_eq.mpr c6;clear c6;obtain rfl:=Option.some.inj H;go_enter Tryz.func103,Tryz.ntmps103;go_wp2;go_ret;exact ⟨yq6,yq17⟩
     ·rw [if_neg c6] at H
      have c6b0 : (a0.toList == ([43] : List UInt8)) = false:=beq_eq_false_iff_ne.mpr c6;have c6b1 : (a0.toList != ([43] : List UInt8)) = true:=bne_iff_ne.mpr c6
      by_cases c7 : a0.toList = ([45] : List UInt8)
      ·rw [if_pos c7] at H
       exact absurd H (by simp)
      ·rw [if_neg c7] at H
       exact absurd H (by simp)
end Go.Proofs.YtkgdhdjkpnalmaaGreatDoor.P
end
