/- What is proved here: a part of the proof of ElectionChangedVote: Px27. No conditions beside those that each theorem states. -/
import Derived.Test.YtkgdhdjkpnalmaaGreatDoorKECVte4
import Derived.Test.YtkgdhdjkpnalmaaGreatDoorKECVte19
set_option linter.unusedVariables false
set_option linter.unusedSimpArgs false
section
namespace Go.Proofs.YtkgdhdjkpnalmaaGreatDoor.P
open Go.RowKit Go.Proofs.YtkgdhdjkpnalmaaGreatDoorW.PrintWords Go.Proofs.YtkgdhdjkpnalmaaGreatDoorW.PrintLast Go.Proofs.YtkgdhdjkpnalmaaGreatDoorW.PrintMore
attribute [local go_sem] zcd zca zci zcj zb1 zb2 zcc zcb
mutual
def zac.j0 : Nat→Int→Bool→Int→Int→Int→ByteArray→List (S117)→Option (Bool)
 | 0,_,_,_,_,_,_,_ => none
 | k + 1,x1,x16,x423000,x423001,x423002,x423003,x423004 => if x16 = true then (none) else (if x423000 = 2 then (zac.j1 k x1 true x423000 x423001 x423002 x423003 x423004) else (zac.j1 k x1 (x423000 == 3) x423000 x423001 x423002 x423003 x423004))
def zac.j1 : Nat→Int→Bool→Int→Int→Int→ByteArray→List (S117)→Option (Bool)
 | 0,_,_,_,_,_,_,_ => none
 | k + 1,x1,x5,x423000,x423001,x423002,x423003,x423004 => if x5 = true then ((zce.f k x423003).bind fun t424 => (if t424 = true then (zac.j2 k x1 false x423000 x423001 x423002 x423003 x423004) else (zac.j2 k x1 true x423000 x423001 x423002 x423003 x423004))) else (zac.j2 k x1 (x423003.toList != ([] : List UInt8)) x423000 x423001 x423002 x423003 x423004)
def zac.j2 : Nat→Int→Bool→Int→Int→Int→ByteArray→List (S117)→Option (Bool)
 | 0,_,_,_,_,_,_,_ => none
 | k + 1,x1,x40,x423000,x423001,x423002,x423003,x423004 => if x40 = true then (none) else (if x423000 = 4 then (if x423001 < 1 then (zac.j3 k x1 true x423000 x423001 x423002 x423003 x423004) else (if x423001 > 7 then (zac.j3 k x1 true x423000 x423001 x423002 x423003 x423004) else (zac.j3 k x1 false x423000 x423001 x423002 x423003 x423004))) else (zac.j3 k x1 (x423001 != 0) x423000 x423001 x423002 x423003 x423004))
def zac.j3 : Nat→Int→Bool→Int→Int→Int→ByteArray→List (S117)→Option (Bool)
 | 0,_,_,_,_,_,_,_ => none
 | k + 1,x1,x63,x423000,x423001,x423002,x423003,x423004 => if x63 = true then (none) else (if x423002 > 1152921504606846975 then (zac.j4 k x1 true x423000 x423001 x423002 x423003 x423004) else (if x423000 = 1 then (zac.j4 k x1 false x423000 x423001 x423002 x423003 x423004) else (zac.j4 k x1 (x423002 != 0) x423000 x423001 x423002 x423003 x423004)))
def zac.j4 : Nat→Int→Bool→Int→Int→Int→ByteArray→List (S117)→Option (Bool)
 | 0,_,_,_,_,_,_,_ => none
 | k + 1,x1,x76,x423000,x423001,x423002,x423003,x423004 => if x76 = true then (none) else (zac.l0 k x1 0 x423000 x423001 x423002 x423003 x423004)
def zac.l0 : Nat→Int→Int→Int→Int→Int→ByteArray→List (S117)→Option (Bool)
 | 0,_,_,_,_,_,_,_ => none
 | k + 1,x1,x6,x423000,x423001,x423002,x423003,x423004 => if x6 < (x423004.length : Int) then (if 0≤x6 then ((zac.f k ((zad x423004 x6).f0) ((zad x423004 x6).f1) ((zad x423004 x6).f2) ((zad x423004 x6).f3) ((zad x423004 x6).f4) (wrap64 (x1 + 1))).bind fun t426 => (if t426 = true then (zac.l0 k x1 (wrap64 (x6 + 1)) x423000 x423001 x423002 x423003 x423004) else (none))) else (none)) else (some true)
def zac.f : Nat→Int→Int→Int→ByteArray→List (S117)→Int→Option (Bool)
 | 0,_,_,_,_,_,_ => none
 | k + 1,a0_0,a0_1,a0_2,a0_3,l0_4,a1 => if a1 > 24 then (zac.j0 k a1 true a0_0 a0_1 a0_2 a0_3 l0_4) else ((zbn.f k a0_0 a0_1 a0_2 a0_3 l0_4).bind fun t423 => (zac.j0 k a1 (t423 != (l0_4.length : Int)) a0_0 a0_1 a0_2 a0_3 l0_4))
end
theorem zac.mono_l : ∀ k,(∀ y0 y1 y2 y3 y4 y5,LeO (zac.f k y0 y1 y2 y3 y4 y5) (zac.f (k + 1) y0 y1 y2 y3 y4 y5))∧(∀ y0 y1 y2 y3 y4 y5 y6,LeO (zac.j0 k y0 y1 y2 y3 y4 y5 y6) (zac.j0 (k + 1) y0 y1 y2 y3 y4 y5 y6))∧(∀ y0 y1 y2 y3 y4 y5 y6,LeO (zac.j1 k y0 y1 y2 y3 y4 y5 y6) (zac.j1 (k + 1) y0 y1 y2 y3 y4 y5 y6))∧(∀ y0 y1 y2 y3 y4 y5 y6,LeO (zac.j2 k y0 y1 y2 y3 y4 y5 y6) (zac.j2 (k + 1) y0 y1 y2 y3 y4 y5 y6))∧(∀ y0 y1 y2 y3 y4 y5 y6,LeO (zac.j3 k y0 y1 y2 y3 y4 y5 y6) (zac.j3 (k + 1) y0 y1 y2 y3 y4 y5 y6))∧(∀ y0 y1 y2 y3 y4 y5 y6,LeO (zac.j4 k y0 y1 y2 y3 y4 y5 y6) (zac.j4 (k + 1) y0 y1 y2 y3 y4 y5 y6))∧(∀ y0 y1 y2 y3 y4 y5 y6,LeO (zac.l0 k y0 y1 y2 y3 y4 y5 y6) (zac.l0 (k + 1) y0 y1 y2 y3 y4 y5 y6))
 | 0 => ⟨fun _ _ _ _ _ _ r h => by simp [zac.f] at h,fun _ _ _ _ _ _ _ r h => by simp [zac.j0] at h,fun _ _ _ _ _ _ _ r h => by simp [zac.j1] at h,fun _ _ _ _ _ _ _ r h => by simp [zac.j2] at h,fun _ _ _ _ _ _ _ r h => by simp [zac.j3] at h,fun _ _ _ _ _ _ _ r h => by simp [zac.j4] at h,fun _ _ _ _ _ _ _ r h => by simp [zac.l0] at h⟩
 | k + 1 => by
  obtain ⟨ih0,ih1,ih2,ih3,ih4,ih5,ih6⟩:=zac.mono_l k;refine ⟨?_,?_,?_,?_,?_,?_,?_⟩
  ·intro y0 y1 y2 y3 y4 y5
   unfold zac.f
   exact (by repeat' first | with_reducible apply ih0 | with_reducible apply ih1 | with_reducible apply ih2 | with_reducible apply ih3 | with_reducible apply ih4 | with_reducible apply ih5 | with_reducible apply ih6 | with_reducible apply zbn.mono | with_reducible apply LeO.refl | with_reducible apply LeO.none | (with_reducible refine LeO.ite ?_ ?_) | (with_reducible refine LeO.bind ?_ (fun _ => ?_)))
  ·intro y0 y1 y2 y3 y4 y5 y6
   unfold zac.j0
   exact yq48
  ·intro y0 y1 y2 y3 y4 y5 y6
   unfold zac.j1
   exact (by repeat' first | with_reducible apply ih0 | with_reducible apply ih1 | with_reducible apply ih2 | with_reducible apply ih3 | with_reducible apply ih4 | with_reducible apply ih5 | with_reducible apply ih6 | with_reducible apply zce.mono | with_reducible apply LeO.refl | with_reducible apply LeO.none | (with_reducible refine LeO.ite ?_ ?_) | (with_reducible refine LeO.bind ?_ (fun _ => ?_)))
  ·intro y0 y1 y2 y3 y4 y5 y6
   unfold zac.j2
   exact yq48
  ·intro y0 y1 y2 y3 y4 y5 y6
   unfold zac.j3
   exact yq48
  ·intro y0 y1 y2 y3 y4 y5 y6
   unfold zac.j4
   exact yq48
  ·intro y0 y1 y2 y3 y4 y5 y6
   unfold zac.l0
   exact yq48
theorem zac.mono : ∀ a0 a1 a2 a3 a4 a5 k,LeO (zac.f k a0 a1 a2 a3 a4 a5) (zac.f (k + 1) a0 a1 a2 a3 a4 a5):=by
 intro a0 a1 a2 a3 a4 a5 k;obtain ⟨ih0,ih1,ih2,ih3,ih4,ih5,ih6⟩:=zac.mono_l k;exact ih0 a0 a1 a2 a3 a4 a5
def zac.T1 : Bool × List (List Nat × List Nat):=(true,[([],[]),([0],[0]),([1],[1]),([2],[2]),([3,2,2],[2,3]),([2],[2]),([5,2],[2,5]),([6,2],[2,6]),([4,7,2],[2,4,7]),([2,8],[2,8])])
def zac.B1 : List Nat:=[0,1,3,7,15,7,39,103,255,511]
theorem zac.tab1 : rtab .any (opsOf Tryz.f76 1) = zac.T1:=by kernel_rfl
theorem zac.bits1 : waitsOk zac.T1.2 zac.B1 = true:=by kernel_rfl
set_option maxHeartbeats 8000000 in
set_option maxRecDepth 100000 in
theorem zac.calls (k : Nat) : ∀ (a0_0 : Int) (a0_1 : Int) (a0_2 : Int) (a0_3 : ByteArray) (A0_4 : Option Addr) (c0_4 : Nat) (l0_4 : List (S117)) (a1 : Int) (r : Bool) (w : World) (hr0_4 : Kd.C k117 w A0_4 l0_4.length l0_4) (hc0_4 : l0_4.length≤c0_4) (h : zac.f k a0_0 a0_1 a0_2 a0_3 l0_4 a1 = some r),
  Calls Tryz.prog 76 #[.agg #[.int .i64 a0_0,.int .i64 a0_1,.int .u64 a0_2,.string a0_3,.slice A0_4 l0_4.length c0_4],.int .i64 a1] w fun e w' => e = .returned (.bool r)∧Below w.heap.size w w':=by
 induction k using Nat.strongRecOn with
 | _ k ih =>
 intro a0_0 a0_1 a0_2 a0_3 A0_4 c0_4 l0_4 a1 r w hr0_4 hc0_4 h
 cases k with
 | zero => exact absurd h (by simp [zac.f])
 | succ k =>
 simp only [zac.f] at h;have hu117:=Tryz.underlying117;have HR0_4:=zA0 hr0_4;have HC0_4:=zA0 hc0_4;clear hr0_4 hc0_4;have HB:=zA0 (Below.refl w.heap.size w);have H : (if a1 > 24 then (zac.j0 k a1 true a0_0 a0_1 a0_2 a0_3 l0_4) else ((zbn.f k a0_0 a0_1 a0_2 a0_3 l0_4).bind fun t423 => (zac.j0 k a1 (t423 != (l0_4.length : Int)) a0_0 a0_1 a0_2 a0_3 l0_4))) = some r:=h;clear h;have HC3:=zA0 H;clear H;go_enter Tryz.func76,Tryz.ntmps76
 go_upto_region 1 with (first | ((with_reducible refine zbm (N:=2) rfl ?_);(try (refine zcy (by rfl) ?_;dsimp only));refine zbk ?hg (N:=2) ?hd (cs:=#[.int .i64 a0_0,.int .i64 a0_1,.int .u64 a0_2,.string a0_3,.slice A0_4 l0_4.length c0_4]) (t:=117) ?hr ?_;(case hd => rfl);(case hg => rfl);(case hr => first | (go_simp;done) | (go_simp;rfl));intro gb422 hg w4 hbox hb;have n0_:=zA0 (zaj (zs0 HB) hb);have n1_:=zA0 (hbox);have n2_:=zA0 ((yq30 : w.heap.size≤gb422));have n3_:=zA0 ((yq30 : w.heap.size≤gb422));clear HB;revert n0_ n1_ n2_ n3_;intro HB BK422 GW422 GE422;clear hb hbox hg))
 (try simp only [Act.put,za1,za2,za3])
 go_cut [16] (fun v16 wc => ∃ (kq : Nat) (x16_2 : Bool),v16 = .bool x16_2∧Aside0 (zac.j0 kq a1 x16_2 a0_0 a0_1 a0_2 a0_3 l0_4 = some r)∧Aside0 (kq≤k)∧Aside0 (wc.heap[gb422]? = some (.cells #[.int .i64 a0_0,.int .i64 a0_1,.int .u64 a0_2,.string a0_3,(.slice A0_4 l0_4.length c0_4)] 117 (0,0)))∧Aside0 (Below w.heap.size w wc))
 case first =>
  have H:=HC3.out;clear HC3
  by_cases c5 : a1 > 24
  ·rw [if_pos c5] at H
   have c5b0 : decide (24 < a1) = true:=decide_eq_true c5;clear c5
   (first | rw [c5b0] | (simp only [zc7,zdc];rw [c5b0]) | skip)
   have H':=zA0 H;clear H;(try go_wp2);have n0_:=zA0 (zdg BK422.out);have n1_:=zA0 (zbr HB.out);clear BK422 HB;revert n0_ n1_;intro BK422 HB
   refine start_ (n:=10) (S:=fun w' => True) (ds:=[]) #[false,false,false,false,false,false,false,false,false,false] (by kernel_rfl) rfl rfl trivial (fun hHeld => ?_);refine with_tabW zac.tab1 zac.bits1 (fun HT_ HW_ => ?_)
   generalize w4.drew = w6 at BK422 HB hHeld ⊢;refine yzA (i:=0) (N:=some 7) #[true,false,false,false,false,false,false,false,false,false] (zch HT_.out (by kernel_rfl)) ?_;refine yzA (i:=1) (N:=some 8) #[true,true,false,false,false,false,false,false,false,false] (zch HT_.out (by kernel_rfl)) ?_;refine yzA (i:=2) (N:=some 9) #[true,true,true,false,false,false,false,false,false,false] (zch HT_.out (by kernel_rfl)) ?_;refine yzB (i:=3) (N:=some 10) #[true,true,true,true,false,false,false,false,false,false] (zch HT_.out (by kernel_rfl)) ?_;refine yzB (i:=4) (N:=some 11) #[true,true,true,true,true,false,false,false,false,false] (zch HT_.out (by kernel_rfl)) ?_;refine yzB (i:=5) (N:=some 12) #[true,true,true,true,true,true,false,false,false,false] (zch HT_.out (by kernel_rfl)) ?_;refine yzB (i:=6) (N:=some 13) #[true,true,true,true,true,true,true,false,false,false] (zch HT_.out (by kernel_rfl)) ?_;refine yzB (i:=7) (N:=some 14) #[true,true,true,true,true,true,true,true,false,false] (zch HT_.out (by kernel_rfl)) ?_;refine yzB (i:=8) (N:=some 15) #[true,true,true,true,true,true,true,true,true,false] (zch HT_.out (by kernel_rfl)) ?_;refine yzA (i:=9) (N:=some 16) #[true,true,true,true,true,true,true,true,true,true] (zch HT_.out (by kernel_rfl)) ?_;refine done_ (done_of HT_.out (by kernel_rfl)) ?_;(try go_wp2)
   go_meet
   case rel => exact ⟨_,(true),yq6,H',⟨yq209⟩,⟨yp2 BK422⟩,⟨yq26⟩⟩
  ·rw [if_neg c5] at H
   have c5b0 : decide (24 < a1) = false:=decide_eq_false c5;clear c5
   (first | rw [c5b0] | (simp only [zc7,zdc];rw [c5b0]) | skip)
   replace H:=Option.bind_eq_some_iff.mp H;obtain ⟨t423,A70,H⟩:=H;replace H : (zac.j0 k a1 (t423 != (l0_4.length : Int)) a0_0 a0_1 a0_2 a0_3 l0_4) = some r:=H;have A7:=zA0 A70;clear A70;have H':=zA0 H;clear H;(try go_wp2);have n0_:=zA0 (zdg BK422.out);have n1_:=zA0 (zbr HB.out);clear BK422 HB;revert n0_ n1_;intro BK422 HB
   refine start_ (n:=10) (S:=fun w' => w'.cell? ⟨gb422,0,none⟩ = some (.int .i64 a0_0)∧w'.cell? ⟨gb422,1,none⟩ = some (.int .i64 a0_1)∧w'.cell? ⟨gb422,2,none⟩ = some (.int .u64 a0_2)∧w'.cell? ⟨gb422,3,none⟩ = some (.string a0_3)∧w'.cell? ⟨gb422,4,none⟩ = some (.slice A0_4 l0_4.length c0_4)) (ds:=[]) #[false,false,false,false,false,false,false,false,false,false] (by kernel_rfl) rfl rfl ⟨(zk0 BK422.out),(zk1 BK422.out),(zk2 BK422.out),(zk3 BK422.out),(zk4 BK422.out)⟩ (fun hHeld => ?_);refine with_tabW zac.tab1 zac.bits1 (fun HT_ HW_ => ?_)
   generalize w4.drew = w8 at BK422 HB hHeld ⊢;refine yzA (i:=0) (N:=some 7) #[true,false,false,false,false,false,false,false,false,false] (zch HT_.out (by kernel_rfl)) ?_;refine yzA (i:=1) (N:=some 8) #[true,true,false,false,false,false,false,false,false,false] (zch HT_.out (by kernel_rfl)) ?_;refine yzA (i:=2) (N:=some 9) #[true,true,true,false,false,false,false,false,false,false] (zch HT_.out (by kernel_rfl)) ?_;refine yzA (i:=5) (N:=some 12) #[true,true,true,false,false,true,false,false,false,false] (zch HT_.out (by kernel_rfl)) ?_;refine take_ (i:=3) (N:=some 10) (v:=?_) (a':=?_) #[true,true,true,true,false,true,false,false,false,false] rfl rfl (zdi HT_.out HW_.out (by kernel_rfl)) (fun _ _ _ h => h) (Or.inl ⟨by rfl,?_⟩) hHeld ?_ ?_;rotate_left;(· rintro w' ⟨s0,s1,s2,s3,s4⟩;go_simp;with_reducible rfl);rotate_left;(· simp only [Act.put,za1,za2,za3,zc7,zdc];rfl);refine take_ (i:=6) (N:=some 13) (v:=?_) (a':=?_) #[true,true,true,true,false,true,true,false,false,false] rfl rfl (zdi HT_.out HW_.out (by kernel_rfl)) (fun _ _ _ h => h) (Or.inl ⟨by rfl,?_⟩) hHeld ?_ ?_;rotate_left;(· rintro w' ⟨s0,s1,s2,s3,s4⟩;go_simp;with_reducible rfl);rotate_left;(· simp only [Act.put,za1,za2,za3,zc7,zdc];rfl);refine yzA (i:=7) (N:=some 14) #[true,true,true,true,false,true,true,true,false,false] (zch HT_.out (by kernel_rfl)) ?_;refine one_ (i:=4) (N:=some 11) #[true,true,true,true,true,true,true,true,false,false] rfl rfl (one_of HT_.out (by kernel_rfl)) (by decide) (fun K hK => ?_);refine goes_ Tryz.func86 (by kernel_rfl) rfl #[.agg #[.int .i64 a0_0,.int .i64 a0_1,.int .u64 a0_2,.string a0_3,.slice A0_4 l0_4.length c0_4]] (by rfl) rfl rfl zt ?_;with_reducible refine (zbn.calls k a0_0 a0_1 a0_2 a0_3 _ _ l0_4 t423 _ ?side1 ?side2 A7.out).mono ?_
   (case side1 => exact yq61)
   (case side2 => exact HC0_4.out)
   rintro e w9 ⟨rfl,hb⟩;refine ⟨_,rfl,?_⟩;have n0_:=zA0 (za4 (g:=gb422) (o:=.cells #[.int .i64 a0_0,.int .i64 a0_1,.int .u64 a0_2,.string a0_3,.slice A0_4 l0_4.length c0_4] 117 (0,0)) (zb BK422) hb);have n1_:=zA0 (zaj yq192 hb);clear BK422 HB;revert n0_ n1_;intro BK422 HB;clear hb;refine hK.out _ _ ⟨(zk0 BK422.out),(zk1 BK422.out),(zk2 BK422.out),(zk3 BK422.out),(zk4 BK422.out)⟩ (fun hHeld => ?_);clear hK K;refine norm_ (a':=?_) ?_ ?_;rotate_left
   ·show Act.put _ (some 11) _ = _
    simp only [Act.put,za1,za2,za3,zc7,zdc];rfl
   refine yzA (i:=8) (N:=some 15) #[true,true,true,true,true,true,true,true,true,false] (zch HT_.out (by kernel_rfl)) ?_;refine yzA (i:=9) (N:=some 16) #[true,true,true,true,true,true,true,true,true,true] (zch HT_.out (by kernel_rfl)) ?_;refine done_ (done_of HT_.out (by kernel_rfl)) ?_;(try go_wp2)
   go_meet
   case rel => exact ⟨_,((t423 != (l0_4.length : Int))),yq6,H',⟨yq209⟩,⟨yp2 BK422⟩,⟨yq26⟩⟩
 case rest =>
  clear HC3;obtain ⟨kq,x16_2,rfl,HA,HJ2,BK422,HB⟩:=hcut
  cases kq with
  | zero => exact absurd HA.out (by simp [zac.j0])
  | succ kj2 =>
   have H:=HA.out;clear HA;simp only [zac.j0] at H
   by_cases c10 : x16_2 = true
   ·subst c10
    have H1 : (none) = some r:=yq36
    clear H;have H:=H1;clear H1;exact absurd H (by simp)
   ·replace c10:=Bool.eq_false_iff.mpr c10
    subst c10
    have H1 : (if a0_0 = 2 then (zac.j1 kj2 a1 true a0_0 a0_1 a0_2 a0_3 l0_4) else (zac.j1 kj2 a1 (a0_0 == 3) a0_0 a0_1 a0_2 a0_3 l0_4)) = some r:=yq12
    clear H;have H:=H1;clear H1;have HC11:=zA0 H;clear H
    go_upto_region 3 with (fail)
    go_cut [5] (fun v5 wc => ∃ (kq : Nat) (x5_10 : Bool),v5 = .bool x5_10∧Aside0 (zac.j1 kq a1 x5_10 a0_0 a0_1 a0_2 a0_3 l0_4 = some r)∧Aside0 (kq≤kj2)∧Aside0 (wc.heap[gb422]? = some (.cells #[.int .i64 a0_0,.int .i64 a0_1,.int .u64 a0_2,.string a0_3,(.slice A0_4 l0_4.length c0_4)] 117 (0,0)))∧Aside0 (Below w.heap.size w wc))
    case first =>
     have H:=HC11.out;clear HC11
     by_cases c12 : a0_0 = 2
     ·rw [if_pos c12] at H
      have c12b0 : (a0_0 == 2) = true:=beq_iff_eq.mpr c12;have c12b1 : (a0_0 != 2) = false:=bne_eq_false_iff_eq.mpr c12;clear c12
      (first | rw [c12b0] | (simp only [zc7,zdc];rw [c12b0]) | skip)
      have H':=zA0 H;clear H;obtain ⟨_,_,_,_,_⟩:=zc5 BK422.out;obtain ⟨_,_,_,_,_⟩:=zf5 BK422.out;go_wp2
      go_meet
      case rel => exact ⟨_,(true),yq6,H',⟨yq193⟩,⟨yp2 BK422⟩,⟨yq26⟩⟩
     ·rw [if_neg c12] at H
      have c12b0 : (a0_0 == 2) = false:=beq_eq_false_iff_ne.mpr c12;have c12b1 : (a0_0 != 2) = true:=bne_iff_ne.mpr c12
      (first | rw [c12b0] | (simp only [zc7,zdc];rw [c12b0]) | skip)
      have H':=zA0 H;clear H;obtain ⟨_,_,_,_,_⟩:=zc5 BK422.out;obtain ⟨_,_,_,_,_⟩:=zf5 BK422.out;go_wp2
      go_meet
      case rel => exact ⟨_,((a0_0 == 3)),yq6,H',⟨yq193⟩,⟨yp2 BK422⟩,⟨yq26⟩⟩
    case rest =>
     clear HC11;obtain ⟨kq,x5_10,rfl,HA,HJ10,BK422,HB⟩:=hcut
     cases kq with
     | zero => exact absurd HA.out (by simp [zac.j1])
     | succ kj10 =>
      have H:=HA.out;clear HA;simp only [zac.j1] at H;have HC15:=zA0 H;clear H
      go_upto_region 4 with (fail)
      go_cut [40] (fun v40 wc => ∃ (kq : Nat) (x40_14 : Bool),v40 = .bool x40_14∧Aside0 (zac.j2 kq a1 x40_14 a0_0 a0_1 a0_2 a0_3 l0_4 = some r)∧Aside0 (kq≤kj10)∧Aside0 (wc.heap[gb422]? = some (.cells #[.int .i64 a0_0,.int .i64 a0_1,.int .u64 a0_2,.string a0_3,(.slice A0_4 l0_4.length c0_4)] 117 (0,0)))∧Aside0 (Below w.heap.size w wc))
      case first =>
       have H:=HC15.out;clear HC15
       by_cases c16 : x5_10 = true
       ·subst c16
        have H1 : ((zce.f kj10 a0_3).bind fun t424 => (if t424 = true then (zac.j2 kj10 a1 false a0_0 a0_1 a0_2 a0_3 l0_4) else (zac.j2 kj10 a1 true a0_0 a0_1 a0_2 a0_3 l0_4))) = some r:=yq36
        clear H;have H:=H1;clear H1;replace H:=Option.bind_eq_some_iff.mp H;obtain ⟨t424,A170,H⟩:=H;replace H : (if t424 = true then (zac.j2 kj10 a1 false a0_0 a0_1 a0_2 a0_3 l0_4) else (zac.j2 kj10 a1 true a0_0 a0_1 a0_2 a0_3 l0_4)) = some r:=H;have A17:=zA0 A170;clear A170
        by_cases c18 : t424 = true
        ·subst c18
         have H1 : (zac.j2 kj10 a1 false a0_0 a0_1 a0_2 a0_3 l0_4) = some r:=yq36
         clear H;have H:=H1;clear H1;have H':=zA0 H;clear H;obtain ⟨_,_,_,_,_⟩:=zc5 BK422.out;obtain ⟨_,_,_,_,_⟩:=zf5 BK422.out
         go_wp2_with (first | (go_at_call 44;(with_reducible refine (zce.calls kj10 a0_3 true _ A17.out).mono ?_);rintro e w20 ⟨rfl,hb⟩;have n0_:=zA0 (za4 (g:=gb422) (o:=.cells #[.int .i64 a0_0,.int .i64 a0_1,.int .u64 a0_2,.string a0_3,.slice A0_4 l0_4.length c0_4] 117 (0,0)) (zb BK422) hb);have n1_:=zA0 (zaj yq192 hb);clear BK422 HB;revert n0_ n1_;intro BK422 HB;clear hb))
         go_meet
         case rel => exact ⟨_,(false),yq6,H',⟨yq199⟩,⟨yp2 BK422⟩,⟨yq26⟩⟩
        ·replace c18:=Bool.eq_false_iff.mpr c18
         subst c18
         have H1 : (zac.j2 kj10 a1 true a0_0 a0_1 a0_2 a0_3 l0_4) = some r:=yq12
         clear H;have H:=H1;clear H1;have H':=zA0 H;clear H;obtain ⟨_,_,_,_,_⟩:=zc5 BK422.out;obtain ⟨_,_,_,_,_⟩:=zf5 BK422.out
         go_wp2_with (first | (go_at_call 44;(with_reducible refine (zce.calls kj10 a0_3 false _ A17.out).mono ?_);rintro e w22 ⟨rfl,hb⟩;have n0_:=zA0 (za4 (g:=gb422) (o:=.cells #[.int .i64 a0_0,.int .i64 a0_1,.int .u64 a0_2,.string a0_3,.slice A0_4 l0_4.length c0_4] 117 (0,0)) (zb BK422) hb);have n1_:=zA0 (zaj yq192 hb);clear BK422 HB;revert n0_ n1_;intro BK422 HB;clear hb))
         go_meet
         case rel => exact ⟨_,(true),yq6,H',⟨yq199⟩,⟨yp2 BK422⟩,⟨yq26⟩⟩
       ·replace c16:=Bool.eq_false_iff.mpr c16
        subst c16
        have H1 : (zac.j2 kj10 a1 (a0_3.toList != ([] : List UInt8)) a0_0 a0_1 a0_2 a0_3 l0_4) = some r:=yq12
        clear H;have H:=H1;clear H1;have H':=zA0 H;clear H;obtain ⟨_,_,_,_,_⟩:=zc5 BK422.out;obtain ⟨_,_,_,_,_⟩:=zf5 BK422.out;go_wp2
        go_meet
        case rel => exact ⟨_,((a0_3.toList != ([] : List UInt8))),(by first | rfl | (simp;done) | (simp;cases a0_3.toList <;> rfl) | (simp [*];done)),H',⟨yq199⟩,⟨yp2 BK422⟩,⟨yq26⟩⟩
      case rest =>
       clear HC15;obtain ⟨kq,x40_14,rfl,HA,HJ14,BK422,HB⟩:=hcut
       cases kq with
       | zero => exact absurd HA.out (by simp [zac.j2])
       | succ kj14 =>
        have H:=HA.out;clear HA;simp only [zac.j2] at H
        by_cases c24 : x40_14 = true
        ·subst c24
         have H1 : (none) = some r:=yq36
         clear H;have H:=H1;clear H1;exact absurd H (by simp)
        ·replace c24:=Bool.eq_false_iff.mpr c24
         subst c24
         have H1 : (if a0_0 = 4 then (if a0_1 < 1 then (zac.j3 kj14 a1 true a0_0 a0_1 a0_2 a0_3 l0_4) else (if a0_1 > 7 then (zac.j3 kj14 a1 true a0_0 a0_1 a0_2 a0_3 l0_4) else (zac.j3 kj14 a1 false a0_0 a0_1 a0_2 a0_3 l0_4))) else (zac.j3 kj14 a1 (a0_1 != 0) a0_0 a0_1 a0_2 a0_3 l0_4)) = some r:=yq12
         clear H;have H:=H1;clear H1;have HC25:=zA0 H;clear H
         go_upto_region 6 with (fail)
         go_cut [63] (fun v63 wc => ∃ (kq : Nat) (x63_24 : Bool),v63 = .bool x63_24∧Aside0 (zac.j3 kq a1 x63_24 a0_0 a0_1 a0_2 a0_3 l0_4 = some r)∧Aside0 (kq≤kj14)∧Aside0 (wc.heap[gb422]? = some (.cells #[.int .i64 a0_0,.int .i64 a0_1,.int .u64 a0_2,.string a0_3,(.slice A0_4 l0_4.length c0_4)] 117 (0,0)))∧Aside0 (Below w.heap.size w wc))
         case first =>
          have H:=HC25.out;clear HC25
          by_cases c26 : a0_0 = 4
          ·rw [if_pos c26] at H
           have c26b0 : (a0_0 == 4) = true:=beq_iff_eq.mpr c26;have c26b1 : (a0_0 != 4) = false:=bne_eq_false_iff_eq.mpr c26;clear c26
           (first | rw [c26b0] | (simp only [zc7,zdc];rw [c26b0]) | skip)
           by_cases c27 : a0_1 < 1
           ·rw [if_pos c27] at H
            have c27b0 : decide (a0_1 < 1) = true:=decide_eq_true c27;clear c27;have H':=zA0 H;clear H;obtain ⟨_,_,_,_,_⟩:=zc5 BK422.out;obtain ⟨_,_,_,_,_⟩:=zf5 BK422.out;go_wp2
            go_meet
            case rel => exact ⟨_,(true),yq6,H',⟨yq150⟩,⟨yp2 BK422⟩,⟨yq26⟩⟩
           ·rw [if_neg c27] at H
            have c27b0 : decide (a0_1 < 1) = false:=decide_eq_false c27;clear c27
            by_cases c29 : a0_1 > 7
            ·rw [if_pos c29] at H
             have c29b0 : decide (7 < a0_1) = true:=decide_eq_true c29;clear c29;have H':=zA0 H;clear H;obtain ⟨_,_,_,_,_⟩:=zc5 BK422.out;obtain ⟨_,_,_,_,_⟩:=zf5 BK422.out;go_wp2
             go_meet
             case rel => exact ⟨_,(true),yq6,H',⟨yq150⟩,⟨yp2 BK422⟩,⟨yq26⟩⟩
            ·rw [if_neg c29] at H
             have c29b0 : decide (7 < a0_1) = false:=decide_eq_false c29;clear c29;have H':=zA0 H;clear H;obtain ⟨_,_,_,_,_⟩:=zc5 BK422.out;obtain ⟨_,_,_,_,_⟩:=zf5 BK422.out;go_wp2
             go_meet
             case rel => exact ⟨_,(false),yq6,H',⟨yq150⟩,⟨yp2 BK422⟩,⟨yq26⟩⟩
          ·rw [if_neg c26] at H
           have c26b0 : (a0_0 == 4) = false:=beq_eq_false_iff_ne.mpr c26;have c26b1 : (a0_0 != 4) = true:=bne_iff_ne.mpr c26
           (first | rw [c26b0] | (simp only [zc7,zdc];rw [c26b0]) | skip)
           have H':=zA0 H;clear H;obtain ⟨_,_,_,_,_⟩:=zc5 BK422.out;obtain ⟨_,_,_,_,_⟩:=zf5 BK422.out;go_wp2
           go_meet
           case rel => exact ⟨_,((a0_1 != 0)),yq6,H',⟨yq150⟩,⟨yp2 BK422⟩,⟨yq26⟩⟩
         case rest =>
          clear HC25;obtain ⟨kq,x63_24,rfl,HA,HJ24,BK422,HB⟩:=hcut
          cases kq with
          | zero => exact absurd HA.out (by simp [zac.j3])
          | succ kj24 =>
           have H:=HA.out;clear HA;simp only [zac.j3] at H
           by_cases c33 : x63_24 = true
           ·subst c33
            have H1 : (none) = some r:=yq36
            clear H;have H:=H1;clear H1;exact absurd H (by simp)
           ·replace c33:=Bool.eq_false_iff.mpr c33
            subst c33
            have H1 : (if a0_2 > 1152921504606846975 then (zac.j4 kj24 a1 true a0_0 a0_1 a0_2 a0_3 l0_4) else (if a0_0 = 1 then (zac.j4 kj24 a1 false a0_0 a0_1 a0_2 a0_3 l0_4) else (zac.j4 kj24 a1 (a0_2 != 0) a0_0 a0_1 a0_2 a0_3 l0_4))) = some r:=yq12
            clear H;have H:=H1;clear H1;have HC34:=zA0 H;clear H
            go_upto_region 8 with (fail)
            go_cut [76] (fun v76 wc => ∃ (kq : Nat) (x76_33 : Bool),v76 = .bool x76_33∧Aside0 (zac.j4 kq a1 x76_33 a0_0 a0_1 a0_2 a0_3 l0_4 = some r)∧Aside0 (kq≤kj24)∧Aside0 (wc.heap[gb422]? = some (.cells #[.int .i64 a0_0,.int .i64 a0_1,.int .u64 a0_2,.string a0_3,(.slice A0_4 l0_4.length c0_4)] 117 (0,0)))∧Aside0 (Below w.heap.size w wc))
            case first =>
             have H:=HC34.out;clear HC34
             by_cases c35 : a0_2 > 1152921504606846975
             ·rw [if_pos c35] at H
              have c35b0 : decide (1152921504606846975 < a0_2) = true:=decide_eq_true c35;clear c35
              (first | rw [c35b0] | (simp only [zc7,zdc];rw [c35b0]) | skip)
              have H':=zA0 H;clear H;obtain ⟨_,_,_,_,_⟩:=zc5 BK422.out;obtain ⟨_,_,_,_,_⟩:=zf5 BK422.out;go_wp2
              go_meet
              case rel => exact ⟨_,(true),yq6,H',⟨yq167⟩,⟨yp2 BK422⟩,⟨yq26⟩⟩
             ·rw [if_neg c35] at H
              have c35b0 : decide (1152921504606846975 < a0_2) = false:=decide_eq_false c35;clear c35
              (first | rw [c35b0] | (simp only [zc7,zdc];rw [c35b0]) | skip)
              by_cases c37 : a0_0 = 1
              ·rw [if_pos c37] at H
               have c37b0 : (a0_0 == 1) = true:=beq_iff_eq.mpr c37;have c37b1 : (a0_0 != 1) = false:=bne_eq_false_iff_eq.mpr c37;clear c37;have H':=zA0 H;clear H;obtain ⟨_,_,_,_,_⟩:=zc5 BK422.out;obtain ⟨_,_,_,_,_⟩:=zf5 BK422.out;go_wp2
               go_meet
               case rel => exact ⟨_,(false),yq6,H',⟨yq167⟩,⟨yp2 BK422⟩,⟨yq26⟩⟩
              ·rw [if_neg c37] at H
               have c37b0 : (a0_0 == 1) = false:=beq_eq_false_iff_ne.mpr c37;have c37b1 : (a0_0 != 1) = true:=bne_iff_ne.mpr c37;have H':=zA0 H;clear H;obtain ⟨_,_,_,_,_⟩:=zc5 BK422.out;obtain ⟨_,_,_,_,_⟩:=zf5 BK422.out;go_wp2
               go_meet
               case rel => exact ⟨_,((a0_2 != 0)),yq6,H',⟨yq167⟩,⟨yp2 BK422⟩,⟨yq26⟩⟩
            case rest =>
             clear HC34;obtain ⟨kq,x76_33,rfl,HA,HJ33,BK422,HB⟩:=hcut
             cases kq with
             | zero => exact absurd HA.out (by simp [zac.j4])
             | succ kj33 =>
              have H:=HA.out;clear HA;simp only [zac.j4] at H
              by_cases c40 : x76_33 = true
              ·subst c40
               have H1 : (none) = some r:=yq36
               clear H;have H:=H1;clear H1;exact absurd H (by simp)
              ·replace c40:=Bool.eq_false_iff.mpr c40
               subst c40
               have H1 : (zac.l0 kj33 a1 0 a0_0 a0_1 a0_2 a0_3 l0_4) = some r:=yq12
               clear H;have H:=H1;clear H1;have H':=zA0 H;clear H;go_wp2
               go_loopg [6] kj33 (fun kq v6 w' => ∃ (x6_6 : Int),v6 = .int .i64 x6_6∧Aside0 (zac.l0 kq a1 x6_6 a0_0 a0_1 a0_2 a0_3 l0_4 = some r)∧Aside0 (kq≤kj33)∧Aside0 (w'.heap[gb422]? = some (.cells #[.int .i64 a0_0,.int .i64 a0_1,.int .u64 a0_2,.string a0_3,(.slice A0_4 l0_4.length c0_4)] 117 (0,0)))∧Aside0 (Below w.heap.size w w'))
               case atStart => exact ⟨(0),yq6,H',⟨Nat.le_refl _⟩,⟨yp2 BK422⟩,⟨yq26⟩⟩
               case round =>
                clear H';obtain ⟨x6_6,rfl,HA,HK6,BK422,HB⟩:=hrel
                cases gk with
                | zero => exact absurd HA.out (by simp [zac.l0])
                | succ k6 =>
                 have H:=HA.out;clear HA;simp only [zac.l0] at H
                 by_cases c41 : x6_6 < (l0_4.length : Int)
                 ·rw [if_pos c41] at H
                  have c41b0 : decide (x6_6 < (l0_4.length : Int)) = true:=decide_eq_true c41;clear c41
                  by_cases c42 : 0≤x6_6
                  ·rw [if_pos c42] at H
                   have c42b0 : decide (0≤x6_6) = true:=decide_eq_true c42;clear c42;replace H:=Option.bind_eq_some_iff.mp H;obtain ⟨t426,A430,H⟩:=H;replace H : (if t426 = true then (zac.l0 k6 a1 (wrap64 (x6_6 + 1)) a0_0 a0_1 a0_2 a0_3 l0_4) else (none)) = some r:=H;have A43:=zA0 A430;clear A430
                   by_cases c44 : t426 = true
                   ·subst c44
                    have H1 : (zac.l0 k6 a1 (wrap64 (x6_6 + 1)) a0_0 a0_1 a0_2 a0_3 l0_4) = some r:=yq36
                    clear H;have H:=H1;clear H1;have H':=zA0 H;clear H;obtain ⟨_,_,_,_,_⟩:=zc5 BK422.out;obtain ⟨_,_,_,_,_⟩:=zf5 BK422.out;have p425 : 0≤(x6_6 : Int):=of_decide_eq_true yq3;have q425 : x6_6 < (l0_4.length : Int):=of_decide_eq_true yq3;obtain ⟨ad425,A425_4,c425_4,e425,hx425_0,hx425_1,hx425_2,hx425_3,hx425_4,hl425_4,hi425_4⟩:=zea HR0_4.out x6_6 p425 q425;cases e425;replace hx425_0:=(HB.out.cell (World.block_lt_of_cell? w _ hx425_0)).trans hx425_0;replace hx425_1:=(HB.out.cell (World.block_lt_of_cell? w _ hx425_1)).trans hx425_1;replace hx425_2:=(HB.out.cell (World.block_lt_of_cell? w _ hx425_2)).trans hx425_2;replace hx425_3:=(HB.out.cell (World.block_lt_of_cell? w _ hx425_3)).trans hx425_3;replace hx425_4:=(HB.out.cell (World.block_lt_of_cell? w _ hx425_4)).trans hx425_4;have HR425_4:=zA0 hi425_4;have HC425_4:=zA0 hl425_4;clear hi425_4 hl425_4;replace p425:=eq_true p425;replace q425:=eq_true q425
                    go_wp2_with (first | ((with_reducible refine zav (f:=76) rfl ?_);refine zcf (some 91) rfl rfl Tryz.func76 (by kernel_rfl) rfl #[.agg #[.int .i64 ((zad l0_4 x6_6).f0),.int .i64 ((zad l0_4 x6_6).f1),.int .u64 ((zad l0_4 x6_6).f2),.string ((zad l0_4 x6_6).f3),.slice A425_4 ((zad l0_4 x6_6).f4).length c425_4],.int .i64 (wrap64 (a1 + 1))] rfl zt ?_;(with_reducible refine (ih k6 yq206 ((zad l0_4 x6_6).f0) ((zad l0_4 x6_6).f1) ((zad l0_4 x6_6).f2) ((zad l0_4 x6_6).f3) _ _ ((zad l0_4 x6_6).f4) (wrap64 (a1 + 1)) true _ ?side1 ?side2 A43.out).mono ?_);(case side1 => exact (by repeat (first | exact (Kd.C_below HR425_4.out HB.out) | (with_reducible refine Kd.C_alloc ?_ _) | (with_reducible refine Kd.C_drewN ?_ _) | (with_reducible refine Kd.C_drew ?_))));(case side2 => exact HC425_4.out);rintro e w46 ⟨rfl,hb⟩;refine ⟨_,rfl,?_⟩;have n0_:=zA0 (za4 (g:=gb422) (o:=.cells #[.int .i64 a0_0,.int .i64 a0_1,.int .u64 a0_2,.string a0_3,.slice (some ad425) l0_4.length c0_4] 117 (0,0)) (zb BK422) hb);have n1_:=zA0 (zaj yq192 hb);clear BK422 HB;revert n0_ n1_;intro BK422 HB;clear hb))
                    go_roundg k6
                    case measure => have:=HJ2.out;have:=HJ10.out;have:=HJ14.out;have:=HJ24.out;have:=HJ33.out;have:=HK6.out;omega
                    case rel => exact ⟨(wrap64 (x6_6 + 1)),yq6,H',⟨yq206⟩,⟨yp2 BK422⟩,⟨yq26⟩⟩
                   ·replace c44:=Bool.eq_false_iff.mpr c44
                    subst c44
                    have H1 : (none) = some r:=yq12
                    clear H;have H:=H1;clear H1;exact absurd H (by simp)
                  ·rw [if_neg c42] at H
                   exact absurd H (by simp)
                 ·rw [if_neg c41] at H
                  have c41b0 : decide (x6_6 < (l0_4.length : Int)) = false:=decide_eq_false c41;clear c41;obtain rfl:=Option.some.inj H;obtain ⟨_,_,_,_,_⟩:=zc5 BK422.out;obtain ⟨_,_,_,_,_⟩:=zf5 BK422.out;go_wp2;go_ret;exact ⟨yq7,yq192⟩
end Go.Proofs.YtkgdhdjkpnalmaaGreatDoor.P
end
