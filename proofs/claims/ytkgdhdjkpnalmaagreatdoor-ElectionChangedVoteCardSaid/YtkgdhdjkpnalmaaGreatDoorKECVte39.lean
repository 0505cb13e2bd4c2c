/- What is proved here: a part of the proof of ElectionChangedVote: Fot, Px48. No conditions beside those that each theorem states. -/
import Derived.Test.YtkgdhdjkpnalmaaGreatDoorKECVte4
import Derived.Test.YtkgdhdjkpnalmaaGreatDoorKECVte33
import Derived.Test.YtkgdhdjkpnalmaaGreatDoorKECVte37
import Derived.Test.YtkgdhdjkpnalmaaGreatDoorKECVte38
set_option linter.unusedVariables false
set_option linter.unusedSimpArgs false
section
namespace Go.Proofs.YtkgdhdjkpnalmaaGreatDoor.P
open Go.RowKit Go.Proofs.YtkgdhdjkpnalmaaGreatDoorW.PrintWords Go.Proofs.YtkgdhdjkpnalmaaGreatDoorW.PrintLast Go.Proofs.YtkgdhdjkpnalmaaGreatDoorW.PrintMore
theorem foot_cell {w wc W' : World} {g : Nat} {a : Addr} {v : Value} (hne : a.block≠g) (hlt : a.block < w.heap.size) (h1 : zaf w wc g none) (h2 : zaf w W' g none) (hc : wc.cell? a = some v) : W'.cell? a = some v:=by
  have e : W'.heap[a.block]? = wc.heap[a.block]?:=(h2.2 _ hlt hne (by simp)).trans (h1.2 _ hlt hne (by simp)).symm
  unfold World.cell? at hc ⊢
  rw [e]
  exact hc
theorem foot_T117_4 {w wc wd : World} {g : Nat} {A : Option Addr} {n : Nat} {xs : List S117} (h : ∀ W',zaf w W' g none→Kd.C k117 W' A n xs) (hkc : zaf w wc g none) (hkd : zaf w wd g none) (i : Int) (h0 : 0≤i) (h1 : i < n) {ad : Addr} {B : Option Addr} {L c : Nat} (e : A = some ad)
    (hx : wc.cell? ⟨(ad.add (i.toNat * 5)).block,(ad.add (i.toNat * 5)).off + 4,none⟩ = some (.slice B L c)) : ∀ W',zaf wd W' g none→Kd.C k117 W' B (zad xs i).f4.length (zad xs i).f4:=by
  subst e
  intro W' hW
  have hn : 0 < n:=by omega
  have hs : 0 < k117.sz:=Nat.zero_lt_succ _
  have hw:=hkd.trans hW (.inl rfl)
  have hne:=Kd.foot_ne h hn hs
  have hlt:=Kd.foot_lt h hn hs
  obtain ⟨ad',A4,c4,e',x0,x1,x2,x3,x4,l4,i4⟩:=zea (h W' hw) i h0 h1
  cases e'
  have hb : (ad.add (i.toNat * 5)).block = ad.block:=by unfold Addr.add;split <;> rfl
  have q:=foot_cell (a:=⟨(ad.add (i.toNat * 5)).block,(ad.add (i.toNat * 5)).off + 4,none⟩) (by show (ad.add (i.toNat * 5)).block≠g;rw [hb];exact hne) (by show (ad.add (i.toNat * 5)).block < _;rw [hb];exact hlt) hkc hw hx
  rw [x4] at q
  injection q with q
  injection q with q1 q2 q3
  rw [← q1]
  exact i4
theorem foot_T114_2 {w wc wd : World} {g : Nat} {A : Option Addr} {n : Nat} {xs : List S114} (h : ∀ W',zaf w W' g none→Kd.C k114 W' A n xs) (hkc : zaf w wc g none) (hkd : zaf w wd g none) (i : Int) (h0 : 0≤i) (h1 : i < n) {ad : Addr} {B : Option Addr} {L c : Nat} (e : A = some ad)
    (hx : wc.cell? ⟨(ad.add (i.toNat * 5)).block,(ad.add (i.toNat * 5)).off + 2,none⟩ = some (.slice B L c)) : ∀ W',zaf wd W' g none→Kd.C k117 W' B (zbe xs i).f2.length (zbe xs i).f2:=by
  subst e
  intro W' hW
  have hn : 0 < n:=by omega
  have hs : 0 < k114.sz:=Nat.zero_lt_succ _
  have hw:=hkd.trans hW (.inl rfl)
  have hne:=Kd.foot_ne h hn hs
  have hlt:=Kd.foot_lt h hn hs
  obtain ⟨ad',A2,c2,A3,c3,A4,c4,e',x0,x1,x2,x3,x4,l2,i2,l3,i3,l4,i4⟩:=at_T114 (h W' hw) i h0 h1
  cases e'
  have hb : (ad.add (i.toNat * 5)).block = ad.block:=by unfold Addr.add;split <;> rfl
  have q:=foot_cell (a:=⟨(ad.add (i.toNat * 5)).block,(ad.add (i.toNat * 5)).off + 2,none⟩) (by show (ad.add (i.toNat * 5)).block≠g;rw [hb];exact hne) (by show (ad.add (i.toNat * 5)).block < _;rw [hb];exact hlt) hkc hw hx
  rw [x2] at q
  injection q with q
  injection q with q1 q2 q3
  rw [← q1]
  exact i2
theorem foot_T114_3 {w wc wd : World} {g : Nat} {A : Option Addr} {n : Nat} {xs : List S114} (h : ∀ W',zaf w W' g none→Kd.C k114 W' A n xs) (hkc : zaf w wc g none) (hkd : zaf w wd g none) (i : Int) (h0 : 0≤i) (h1 : i < n) {ad : Addr} {B : Option Addr} {L c : Nat} (e : A = some ad)
    (hx : wc.cell? ⟨(ad.add (i.toNat * 5)).block,(ad.add (i.toNat * 5)).off + 3,none⟩ = some (.slice B L c)) : ∀ W',zaf wd W' g none→Kd.C k114 W' B (zbe xs i).f3.length (zbe xs i).f3:=by
  subst e
  intro W' hW
  have hn : 0 < n:=by omega
  have hs : 0 < k114.sz:=Nat.zero_lt_succ _
  have hw:=hkd.trans hW (.inl rfl)
  have hne:=Kd.foot_ne h hn hs
  have hlt:=Kd.foot_lt h hn hs
  obtain ⟨ad',A2,c2,A3,c3,A4,c4,e',x0,x1,x2,x3,x4,l2,i2,l3,i3,l4,i4⟩:=at_T114 (h W' hw) i h0 h1
  cases e'
  have hb : (ad.add (i.toNat * 5)).block = ad.block:=by unfold Addr.add;split <;> rfl
  have q:=foot_cell (a:=⟨(ad.add (i.toNat * 5)).block,(ad.add (i.toNat * 5)).off + 3,none⟩) (by show (ad.add (i.toNat * 5)).block≠g;rw [hb];exact hne) (by show (ad.add (i.toNat * 5)).block < _;rw [hb];exact hlt) hkc hw hx
  rw [x3] at q
  injection q with q
  injection q with q1 q2 q3
  rw [← q1]
  exact i3
theorem foot_T114_4 {w wc wd : World} {g : Nat} {A : Option Addr} {n : Nat} {xs : List S114} (h : ∀ W',zaf w W' g none→Kd.C k114 W' A n xs) (hkc : zaf w wc g none) (hkd : zaf w wd g none) (i : Int) (h0 : 0≤i) (h1 : i < n) {ad : Addr} {B : Option Addr} {L c : Nat} (e : A = some ad)
    (hx : wc.cell? ⟨(ad.add (i.toNat * 5)).block,(ad.add (i.toNat * 5)).off + 4,none⟩ = some (.slice B L c)) : ∀ W',zaf wd W' g none→Kd.C k114 W' B (zbe xs i).f4.length (zbe xs i).f4:=by
  subst e
  intro W' hW
  have hn : 0 < n:=by omega
  have hs : 0 < k114.sz:=Nat.zero_lt_succ _
  have hw:=hkd.trans hW (.inl rfl)
  have hne:=Kd.foot_ne h hn hs
  have hlt:=Kd.foot_lt h hn hs
  obtain ⟨ad',A2,c2,A3,c3,A4,c4,e',x0,x1,x2,x3,x4,l2,i2,l3,i3,l4,i4⟩:=at_T114 (h W' hw) i h0 h1
  cases e'
  have hb : (ad.add (i.toNat * 5)).block = ad.block:=by unfold Addr.add;split <;> rfl
  have q:=foot_cell (a:=⟨(ad.add (i.toNat * 5)).block,(ad.add (i.toNat * 5)).off + 4,none⟩) (by show (ad.add (i.toNat * 5)).block≠g;rw [hb];exact hne) (by show (ad.add (i.toNat * 5)).block < _;rw [hb];exact hlt) hkc hw hx
  rw [x4] at q
  injection q with q
  injection q with q1 q2 q3
  rw [← q1]
  exact i4
end Go.Proofs.YtkgdhdjkpnalmaaGreatDoor.P
end
section
namespace Go.Proofs.YtkgdhdjkpnalmaaGreatDoor.P
open Go.RowKit Go.Proofs.YtkgdhdjkpnalmaaGreatDoorW.PrintWords Go.Proofs.YtkgdhdjkpnalmaaGreatDoorW.PrintLast Go.Proofs.YtkgdhdjkpnalmaaGreatDoorW.PrintMore
attribute [local go_sem] zcd zca zci zcj zb1 zb2 zcc zcb
set_option maxHeartbeats 8000000 in
set_option maxRecDepth 100000 in
theorem zbj.step (k : Nat) (ih104 : ∀ m,m < k→zcg.C m) (ih : ∀ m,m < k→zbj.C m) : zbj.C k:=by
 intro g s0_0 s0_1 s0_2 s0_3 s0_4 s0_5 s0_6 s0_7 s0_8 A1 c1 l1 r1 r2 r3 r4 r5 w0 w hI hB hr1 hc1 h
 cases k with
 | zero => exact absurd h (by simp [zbj.f])
 | succ k =>
 simp only [zbj.f] at h;have hu117:=Tryz.underlying117;have hu155:=Tryz.underlying155;have HR1:=zA0 hr1;have HC1:=zA0 hc1;clear hr1 hc1;have HI0:=zA0 hI;have HK:=zA0 (zaf.refl w g none);have HL:=zA0 hB.size;clear hI;have HW0:=zA0 hB.size;have HB:=zA0 hB;clear hB;have H : (zbj.l0 k l1 ([] : List (S155)) 0 s0_0 s0_1 s0_2 s0_3 s0_4 s0_5 s0_6 s0_7 s0_8) = some (r1,r2,r3,r4,r5):=h;clear h;have H':=zA0 H;clear H;go_enter Tryz.func91,Tryz.ntmps91;go_wp2
 go_loopg [6,7] k (fun kq v6 v7 w' => ∃ (x6_1 : List (S155)) (x7_1 : Int) (x1006_1 : Int) (x1007_1 : Int) (x1008_1 : Int),v7 = .int .i64 x7_1∧Aside0 (zbj.l0 kq l1 x6_1 x7_1 s0_0 s0_1 s0_2 s0_3 s0_4 s0_5 x1006_1 x1007_1 x1008_1 = some (r1,r2,r3,r4,r5))∧Aside0 (kq≤k)∧Aside0 (Kd.R k155 155 w' w.heap.size (fun _ => True) v6 x6_1)∧Aside0 (zax w0 w' g s0_0 s0_1 s0_2 s0_3 s0_4 s0_5 x1006_1 x1007_1 x1008_1)∧Aside0 (zaf w w' g none)∧Aside0 (Below w0.heap.size w0 w'))
 case atStart => exact ⟨(([] : List (S155))),(0),(s0_6),(s0_7),(s0_8),yq6,H',⟨Nat.le_refl _⟩,⟨yq44⟩,⟨yq8⟩,⟨yq1⟩,⟨yq21⟩⟩
 case round =>
  clear H';obtain ⟨x6_1,x7_1,x1006_1,x1007_1,x1008_1,rfl,HA,HK1,HO_6,HI0,HK,HB⟩:=hrel
  cases gk with
  | zero => exact absurd HA.out (by simp [zbj.l0])
  | succ k1 =>
   have H:=HA.out;clear HA;simp only [zbj.l0] at H
   by_cases c3 : x7_1 < (l1.length : Int)
   ·rw [if_pos c3] at H
    have c3b0 : decide (x7_1 < (l1.length : Int)) = true:=decide_eq_true c3;clear c3
    by_cases c4 : 0≤x7_1
    ·rw [if_pos c4] at H
     have c4b0 : decide (0≤x7_1) = true:=decide_eq_true c4;clear c4;replace H:=Option.bind_eq_some_iff.mp H;obtain ⟨⟨t536,t537,t538,t539,t540,t541,t542,t543⟩,A50,H⟩:=H;replace H : (if t540 = 0 then (if x6_1.length < 4398046511104 then (zbj.l0 k1 l1 (x6_1 ++ [(⟨t536,t537,t538,t539⟩ : S155)]) (wrap64 (x7_1 + 1)) s0_0 s0_1 s0_2 s0_3 s0_4 s0_5 t541 t542 t543) else (none)) else (none)) = some (r1,r2,r3,r4,r5):=H;have A5:=zA0 A50;clear A50
     by_cases c6 : t540 = 0
     ·rw [if_pos c6] at H
      have c6b0 : (t540 == 0) = true:=beq_iff_eq.mpr c6;have c6b1 : (t540 != 0) = false:=bne_eq_false_iff_eq.mpr c6;clear c6
      by_cases c7 : x6_1.length < 4398046511104
      ·rw [if_pos c7] at H
       have LMc7:=zA0 c7;clear c7
       obtain ⟨y545,hy545⟩ : ∃ y_ : List (S155),y_ = (x6_1 ++ [(⟨t536,t537,t538,t539⟩ : S155)]):=⟨_,rfl⟩
       replace H : (zbj.l0 k1 l1 y545 (wrap64 (x7_1 + 1)) s0_0 s0_1 s0_2 s0_3 s0_4 s0_5 t541 t542 t543) = some (r1,r2,r3,r4,r5):=yr hy545 H
       have Ny545:=zA0 hy545;clear hy545;have H':=zA0 H;clear H;have p535 : 0≤(x7_1 : Int):=of_decide_eq_true yq3;have q535 : x7_1 < (l1.length : Int):=of_decide_eq_true yq3;obtain ⟨ad535,A535_4,c535_4,e535,hx535_0,hx535_1,hx535_2,hx535_3,hx535_4,hl535_4,hi535_4⟩:=zea (Kd.C_foot_now HR1.out HK.out) x7_1 p535 q535;cases e535;have HR535_4:=zA0 hi535_4;have HC535_4:=zA0 hl535_4;clear hi535_4 hl535_4;replace p535:=eq_true p535;replace q535:=eq_true q535
       go_wp2_with (first | ((with_reducible refine zav (f:=104) rfl ?_);refine zcf (some 22) rfl rfl Tryz.func104 (by kernel_rfl) rfl #[.pointer (some ⟨g,0,none⟩),.agg #[.int .i64 ((zad l1 x7_1).f0),.int .i64 ((zad l1 x7_1).f1),.int .u64 ((zad l1 x7_1).f2),.string ((zad l1 x7_1).f3),.slice A535_4 ((zad l1 x7_1).f4).length c535_4]] rfl zt ?_;(with_reducible refine (ih104 k1 yq95 g s0_0 s0_1 s0_2 s0_3 s0_4 s0_5 x1006_1 x1007_1 x1008_1 ((zad l1 x7_1).f0) ((zad l1 x7_1).f1) ((zad l1 x7_1).f2) ((zad l1 x7_1).f3) _ _ ((zad l1 x7_1).f4) t536 t537 t538 t539 t540 t541 t542 t543 w0 _ ?side1 ?side2 ?side3 ?side4 A5.out).mono ?_);(case side1 => exact yq8);(case side2 => exact yq21);(case side3 => exact foot_T117_4 HR1.out HK.out yq1 _ (of_eq_true p535) (of_eq_true q535) rfl hx535_4);(case side4 => exact HC535_4.out);rintro e w8 ⟨rfl,hi,hb,hk⟩;refine ⟨_,rfl,?_⟩;have n0_:=zA0 (Kd.R_mono (Kd.R_keep (zax.apart (show zax w0 _ g s0_0 s0_1 s0_2 s0_3 s0_4 s0_5 x1006_1 x1007_1 x1008_1 from yq8) (zrR HO_6) (by decide)) hk (fun _ h => h.2)) (fun _ h => h.1));have n1_:=zA0 (zaf.trans yq1 hk (.inl rfl));have n2_:=zA0 (hb);have n3_:=zA0 (hi);clear HO_6 HK HB HI0;revert n0_ n1_ n2_ n3_;intro HO_6 HK HB HI0;clear hb hk hi) | ((with_reducible refine zbm (N:=8) rfl ?_);refine zbk ?hg (N:=8) ?hd (cs:=#[.int .i64 0,.int .i64 0,.bool false,.int .u64 0]) (t:=155) ?hr ?_;(case hd => rfl);(case hg => rfl);(case hr => first | (go_simp;done) | (go_simp;rfl));intro gb544 hg w9 hbox hb;have n0_:=zA0 (Kd.R_below (Kd.R_elderB (zrR HO_6) gb544 (Nat.le_of_eq hg.symm)) hb);have n1_:=zA0 (zax.below yq8 hb);have n2_:=zA0 (zaf.trans yq1 (zaf.of_below hb g none) (.inl rfl));have n3_:=zA0 (zaj yq21 hb);have n4_:=zA0 (hbox);have n5_:=zA0 ((zd1 : w.heap.size≤gb544));have n6_:=zA0 ((Nat.le_trans HW0.out (zd1 : w.heap.size≤gb544) : w0.heap.size≤gb544));have n7_:=zA0 ((by rw [hg];exact Nat.ne_of_lt (zax.lt (show zax w0 _ g s0_0 s0_1 s0_2 s0_3 s0_4 s0_5 t541 t542 t543 from yq8)) : g≠gb544));have n8_:=zA0 ((by rw [hg];exact Nat.ne_of_gt (zax.lt (show zax w0 _ g s0_0 s0_1 s0_2 s0_3 s0_4 s0_5 t541 t542 t543 from yq8)) : gb544≠g));clear HO_6 HI0 HK HB;revert n0_ n1_ n2_ n3_ n4_ n5_ n6_ n7_ n8_;intro HO_6 HI0 HK HB BK544 GW544 GE544 NB0_544 NB544_0;clear hb hbox hg;have hnb10:=NB544_0.out;have hnc10:=NB0_544.out;obtain ⟨_,_,_,_⟩:=zc4 BK544.out;obtain ⟨_,_,_,_⟩:=zf4 BK544.out) | ((with_reducible refine zdn (b:=.append) (xs:=#[.tmp 28,.tmp 30]) rfl ?_);at_builtin;refine Kd.R_append k155 w.heap.size rfl (.tmp 28) (.tmp 30) 149 155 (.agg #[(.int .i64 0),(.int .i64 0),(.bool false),(.int .u64 0)]) 32 rfl Tryz.underlying149 info155 rfl (by decide) (by omega) u6 x6_1 (⟨t536,t537,t538,t539⟩ : S155) [.int .i64 t536,.int .i64 t537,.bool t538,.int .u64 t539] (fun k_ => k_≠gb544) (fun _ => False) rfl (by first | (go_simp;done) | (go_simp;rfl)) ?aP (fun _ hk => hk.elim) ?aF ?aO (Below.refl _ _) ?aS ?aL ?_;(case aP => exact k155_mkM _ _ _ (⟨t536,t537,t538,t539⟩ : S155));(case aF => exact (fun k_ hk => Kd.freshB (g:=gb544) (o:=.cells #[.int .i64 t536,.int .i64 t537,.bool t538,.int .u64 t539] 155 (0,0)) yq117 k_ hk));(case aO => exact (by refine yb2 ?_;exact Kd.R_mono (Kd.R_far (p:=⟨gb544,3,none⟩) (Kd.R_far (p:=⟨gb544,2,none⟩) (Kd.R_far (p:=⟨gb544,1,none⟩) (Kd.R_far (p:=⟨gb544,0,none⟩) (Kd.R_mono HO_6.out (fun k_ hk => (⟨hk,hk.2⟩ : _∧k_≠gb544))) (fun _ hk => hk.2) (.int .i64 t536)) (fun _ hk => hk.2) (.int .i64 t537)) (fun _ hk => hk.2) (.bool t538)) (fun _ hk => hk.2) (.int .u64 t539)) (fun _ hk => hk.1.2)));(case aS => exact (zbo (w:=w) (g:=g) (row:=none) yq126));(case aL => have:=LMc7.out;omega);intro v546 w12 ho hb hg hat;rw [← Ny545.out] at ho;have n0_:=zA0 (zax.grown (show zax w0 _ g s0_0 s0_1 s0_2 s0_3 s0_4 s0_5 t541 t542 t543 from yq156) hg (zax.own_ne HI0.out HO_6.out (by decide)));have n1_:=zA0 (zdf (g:=gb544) (o:=.cells #[.int .i64 t536,.int .i64 t537,.bool t538,.int .u64 t539] 155 (0,0)) yq117 hg (Kd.R_away HO_6.out (fun _ hk => hk.2)));have n2_:=zA0 (zed yq169 HL.out hb);have n3_:=zA0 (zaf.trans yq126 (zaf.of_grown hg g) (Kd.R_base2 HO_6.out));have n4_:=zA0 (ho);clear HI0 BK544 HB HK HO_6;revert n0_ n1_ n2_ n3_ n4_;intro HI0 BK544 HB HK HO547;clear ho hb hg hat))
       go_roundg k1
       case measure => have:=HK1.out;omega
       case rel => exact ⟨(y545),(wrap64 (x7_1 + 1)),(t541),(t542),(t543),yq6,H',⟨yq95⟩,⟨by refine yb2 ?_;exact Kd.R_mono HO547.out (fun _ hk => trivial)⟩,⟨yq156⟩,⟨yq126⟩,⟨yq169⟩⟩
      ·rw [if_neg c7] at H
       exact absurd H (by simp)
     ·rw [if_neg c6] at H
      exact absurd H (by simp)
    ·rw [if_neg c4] at H
     exact absurd H (by simp)
   ·rw [if_neg c3] at H
    have c3b0 : decide (x7_1 < (l1.length : Int)) = false:=decide_eq_false c3;clear c3;simp only [Option.some.injEq,Prod.mk.injEq] at H;obtain ⟨rfl,rfl,rfl,rfl,rfl⟩:=H;go_wp2
    go_ret2
    exact ⟨_,yq7,yp1 HO_6,yq8,yq21,yq1⟩
theorem zcg.group (k : Nat) : zcg.C k∧zbj.C k:=by
 induction k using Nat.strongRecOn with
 | _ k ih =>
 exact ⟨zcg.step k (fun m h => (ih m h).1) (fun m h => (ih m h).2),zbj.step k (fun m h => (ih m h).1) (fun m h => (ih m h).2)⟩
theorem zbj.calls (k : Nat) : ∀ (g : Nat) (s0_0 : List (S50)) (s0_1 : List (S87)) (s0_2 : List (S114)) (s0_3 : List (S158)) (s0_4 : List (S158)) (s0_5 : List (List Int)) (s0_6 : Int) (s0_7 : Int) (s0_8 : Int) (A1 : Option Addr) (c1 : Nat) (l1 : List (S117)) (r1 : List (S155)) (r2 : Int) (r3 : Int) (r4 : Int) (r5 : Int) (w0 w : World) (hI : zax w0 w g s0_0 s0_1 s0_2 s0_3 s0_4 s0_5 s0_6 s0_7 s0_8) (hB : Below w0.heap.size w0 w) (hr1 : ∀ W_,zaf w W_ g none→Kd.C k117 W_ A1 l1.length l1) (hc1 : l1.length≤c1) (h : zbj.f k s0_0 s0_1 s0_2 s0_3 s0_4 s0_5 s0_6 s0_7 s0_8 l1 = some (r1,r2,r3,r4,r5)),
  Calls Tryz.prog 91 #[.pointer (some ⟨g,0,none⟩),.slice A1 l1.length c1] w fun e w' => ∃ v0_ : Value,e = .returned (.tuple #[v0_,.int .i64 r2])∧Kd.R k155 155 w' w.heap.size (fun _ => True) v0_ r1∧zax w0 w' g s0_0 s0_1 s0_2 s0_3 s0_4 s0_5 r3 r4 r5∧Below w0.heap.size w0 w'∧zaf w w' g none:=(zcg.group k).2
end Go.Proofs.YtkgdhdjkpnalmaaGreatDoor.P
end
