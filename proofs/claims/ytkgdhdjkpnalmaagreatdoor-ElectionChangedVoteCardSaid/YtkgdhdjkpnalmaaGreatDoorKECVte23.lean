/- What is proved here: a part of the proof of ElectionChangedVote: Px31, Px32, Px33, Px34. No conditions beside those that each theorem states. -/
import Derived.Test.YtkgdhdjkpnalmaaGreatDoorKECVte4
import Derived.Test.YtkgdhdjkpnalmaaGreatDoorKECVte21
import Derived.Test.YtkgdhdjkpnalmaaGreatDoorKECVte22
set_option linter.unusedVariables false
set_option linter.unusedSimpArgs false
section
namespace Go.Proofs.YtkgdhdjkpnalmaaGreatDoor.P
open Go.RowKit Go.Proofs.YtkgdhdjkpnalmaaGreatDoorW.PrintWords Go.Proofs.YtkgdhdjkpnalmaaGreatDoorW.PrintLast Go.Proofs.YtkgdhdjkpnalmaaGreatDoorW.PrintMore
attribute [local go_sem] zcd zca zci zcj zb1 zb2 zcc zcb
set_option maxHeartbeats 8000000 in
set_option maxRecDepth 100000 in
theorem za9.step (k : Nat) (ih64 : ∀ m,m < k→zag.C m) (ih : ∀ m,m < k→za9.C m) : za9.C k:=by
 intro A0 c0 l0 a1 r w hr0 hc0 h
 cases k with
 | zero => exact absurd h (by simp [za9.f])
 | succ k =>
 simp only [za9.f] at h;have hu114:=Tryz.underlying114;have HR0:=zA0 hr0;have HC0:=zA0 hc0;clear hr0 hc0;have HB:=zA0 (Below.refl w.heap.size w);have H : (za9.l0 k l0 a1 0) = some r:=h;clear h;have H':=zA0 H;clear H;go_enter Tryz.func45,Tryz.ntmps45;go_wp2
 go_loopg [5] k (fun kq v5 w' => ∃ (x5_1 : Int),v5 = .int .i64 x5_1∧Aside0 (za9.l0 kq l0 a1 x5_1 = some r)∧Aside0 (kq≤k)∧Aside0 (Below w.heap.size w w'))
 case atStart => exact ⟨(0),yq6,H',⟨Nat.le_refl _⟩,⟨yq38⟩⟩
 case round =>
  clear H';obtain ⟨x5_1,rfl,HA,HK1,HB⟩:=hrel
  cases gk with
  | zero => exact absurd HA.out (by simp [za9.l0])
  | succ k1 =>
   have H:=HA.out;clear HA;simp only [za9.l0] at H
   by_cases c3 : x5_1 < (l0.length : Int)
   ·rw [if_pos c3] at H
    have c3b0 : decide (x5_1 < (l0.length : Int)) = true:=decide_eq_true c3;clear c3
    by_cases c4 : 0≤x5_1
    ·rw [if_pos c4] at H
     have c4b0 : decide (0≤x5_1) = true:=decide_eq_true c4;clear c4;replace H:=Option.bind_eq_some_iff.mp H;obtain ⟨t434,A50,H⟩:=H;replace H : (if t434 = true then (za9.l0 k1 l0 a1 (wrap64 (x5_1 + 1))) else (none)) = some r:=H;have A5:=zA0 A50;clear A50
     by_cases c6 : t434 = true
     ·subst c6
      have H1 : (za9.l0 k1 l0 a1 (wrap64 (x5_1 + 1))) = some r:=yq36
      clear H;have H:=H1;clear H1;have H':=zA0 H;clear H;have p433 : 0≤(x5_1 : Int):=of_decide_eq_true yq3;have q433 : x5_1 < (l0.length : Int):=of_decide_eq_true yq3;obtain ⟨ad433,A433_2,c433_2,A433_3,c433_3,A433_4,c433_4,e433,hx433_0,hx433_1,hx433_2,hx433_3,hx433_4,hl433_2,hi433_2,hl433_3,hi433_3,hl433_4,hi433_4⟩:=at_T114 HR0.out x5_1 p433 q433;cases e433;replace hx433_0:=(HB.out.cell (World.block_lt_of_cell? w _ hx433_0)).trans hx433_0;replace hx433_1:=(HB.out.cell (World.block_lt_of_cell? w _ hx433_1)).trans hx433_1;replace hx433_2:=(HB.out.cell (World.block_lt_of_cell? w _ hx433_2)).trans hx433_2;replace hx433_3:=(HB.out.cell (World.block_lt_of_cell? w _ hx433_3)).trans hx433_3;replace hx433_4:=(HB.out.cell (World.block_lt_of_cell? w _ hx433_4)).trans hx433_4;have HR433_2:=zA0 hi433_2;have HC433_2:=zA0 hl433_2;clear hi433_2 hl433_2;have HR433_3:=zA0 hi433_3;have HC433_3:=zA0 hl433_3;clear hi433_3 hl433_3;have HR433_4:=zA0 hi433_4;have HC433_4:=zA0 hl433_4;clear hi433_4 hl433_4;replace p433:=eq_true p433;replace q433:=eq_true q433
      go_wp2_with (first | ((with_reducible refine zav (f:=64) rfl ?_);refine zcf (some 17) rfl rfl Tryz.func64 (by kernel_rfl) rfl #[.agg #[.int .i64 ((zbe l0 x5_1).f0),.string ((zbe l0 x5_1).f1),.slice A433_2 ((zbe l0 x5_1).f2).length c433_2,.slice A433_3 ((zbe l0 x5_1).f3).length c433_3,.slice A433_4 ((zbe l0 x5_1).f4).length c433_4],.int .i64 a1] rfl zt ?_;(with_reducible refine (ih64 k1 yq95 ((zbe l0 x5_1).f0) ((zbe l0 x5_1).f1) _ _ ((zbe l0 x5_1).f2) _ _ ((zbe l0 x5_1).f3) _ _ ((zbe l0 x5_1).f4) a1 true _ ?side1 ?side2 ?side3 ?side4 ?side5 ?side6 A5.out).mono ?_);(case side1 => exact (by repeat (first | exact (Kd.C_below HR433_2.out HB.out) | (with_reducible refine Kd.C_alloc ?_ _) | (with_reducible refine Kd.C_drewN ?_ _) | (with_reducible refine Kd.C_drew ?_))));(case side2 => exact HC433_2.out);(case side3 => exact (by repeat (first | exact (Kd.C_below HR433_3.out HB.out) | (with_reducible refine Kd.C_alloc ?_ _) | (with_reducible refine Kd.C_drewN ?_ _) | (with_reducible refine Kd.C_drew ?_))));(case side4 => exact HC433_3.out);(case side5 => exact (by repeat (first | exact (Kd.C_below HR433_4.out HB.out) | (with_reducible refine Kd.C_alloc ?_ _) | (with_reducible refine Kd.C_drewN ?_ _) | (with_reducible refine Kd.C_drew ?_))));(case side6 => exact HC433_4.out);rintro e w7 ⟨rfl,hb⟩;refine ⟨_,rfl,?_⟩;have n0_:=zA0 (zaj (zs0 HB) hb);clear HB;revert n0_;intro HB;clear hb))
      go_roundg k1
      case measure => have:=HK1.out;omega
      case rel => exact ⟨(wrap64 (x5_1 + 1)),yq6,H',⟨yq95⟩,⟨yq38⟩⟩
     ·replace c6:=Bool.eq_false_iff.mpr c6
      subst c6
      have H1 : (none) = some r:=yq12
      clear H;have H:=H1;clear H1;exact absurd H (by simp)
    ·rw [if_neg c4] at H
     exact absurd H (by simp)
   ·rw [if_neg c3] at H
    have c3b0 : decide (x5_1 < (l0.length : Int)) = false:=decide_eq_false c3;clear c3;obtain rfl:=Option.some.inj H;go_wp2;go_ret;exact ⟨yq7,zs0 HB⟩
theorem zag.group (k : Nat) : zag.C k∧za9.C k:=by
 induction k using Nat.strongRecOn with
 | _ k ih =>
 exact ⟨zag.step k (fun m h => (ih m h).1) (fun m h => (ih m h).2),za9.step k (fun m h => (ih m h).1) (fun m h => (ih m h).2)⟩
theorem za9.calls (k : Nat) : ∀ (A0 : Option Addr) (c0 : Nat) (l0 : List (S114)) (a1 : Int) (r : Bool) (w : World) (hr0 : Kd.C k114 w A0 l0.length l0) (hc0 : l0.length≤c0) (h : za9.f k l0 a1 = some r),
  Calls Tryz.prog 45 #[.slice A0 l0.length c0,.int .i64 a1] w fun e w' => e = .returned (.bool r)∧Below w.heap.size w w':=(zag.group k).2
def za6.l0 : Nat→Int→ByteArray→Option (ByteArray)
 | 0,_,_ => none
 | k + 1,x0,x3 => if x0 ≥ 10 then ((some (([(IntKind.u64.wrap (48 + (Int.tmod (IntKind.u64.wrap (Int.tdiv x0 10)) 10))) % 256] : List Int) : List Int)).bind fun y438 => (if (strOfNums y438).size + x3.size≤9223372036854775807 then (za6.l0 k (IntKind.u64.wrap (Int.tdiv x0 10)) ((strOfNums y438) ++ x3)) else (none))) else (some x3)
def za6.f (k : Nat) (a0 : Int) : Option (ByteArray):=za6.l0 k a0 (strOfNums (([(IntKind.u64.wrap (48 + (Int.tmod a0 10))) % 256] : List Int)))
theorem za6.mono_l : ∀ k,(∀ y0 y1,LeO (za6.l0 k y0 y1) (za6.l0 (k + 1) y0 y1))
 | 0 => fun _ _ r h => by simp [za6.l0] at h
 | k + 1 => by
  have ih0:=za6.mono_l k
  ·intro y0 y1
   unfold za6.l0
   exact yq11
theorem za6.mono : ∀ a0 k,LeO (za6.f k a0) (za6.f (k + 1) a0):=by
 intro a0 k;have ih0:=za6.mono_l k;unfold za6.f
 exact yq11
set_option maxHeartbeats 8000000 in
set_option maxRecDepth 100000 in
theorem za6.calls (k : Nat) (a0 : Int) (r : ByteArray) (w : World) (h : za6.f k a0 = some r) :
  Calls Tryz.prog 77 #[.int .u64 a0] w fun e w' => e = .returned (.string r)∧Below w.heap.size w w':=by
 have HB:=zA0 (Below.refl w.heap.size w);have H : (za6.l0 k a0 (strOfNums (([(IntKind.u64.wrap (48 + (Int.tmod a0 10))) % 256] : List Int)))) = some r:=h;clear h
 obtain ⟨y435,hy435⟩ : ∃ y_ : List Int,y_ = (([(IntKind.u64.wrap (48 + (Int.tmod a0 10))) % 256] : List Int)):=⟨_,rfl⟩
 replace H : (za6.l0 k a0 (strOfNums y435)) = some r:=yr hy435 H
 have Ny435:=zA0 hy435;clear hy435;have H':=zA0 H;clear H;go_enter Tryz.func77,Tryz.ntmps77
 go_wp2_with (first | ((with_reducible refine zbm (N:=8) rfl ?_);refine Kd.R_lit (Kd.int .u8) _ 5 ?hg (N:=8) ?hd (xs:=([(IntKind.u64.wrap (48 + (Int.tmod a0 10))) % 256] : List Int)) (inner:=[.int .u8 ((IntKind.u64.wrap (48 + (Int.tmod a0 10))) % 256)]) (ok:=fun _ => True) (okp:=fun _ => True) ?hr ?hp (fun _ hk => hk) trivial (Below.refl _ _) (Nat.le_refl _) (by simp) ?_;(case hd => rfl);(case hg => rfl);(case hr => first | (go_simp;done) | (go_simp;rfl));(case hp => exact (Reps.one (show Kd.M (Kd.int .u8) _ _ _ ((IntKind.u64.wrap (48 + (Int.tmod a0 10))) % 256) [.int .u8 ((IntKind.u64.wrap (48 + (Int.tmod a0 10))) % 256)] from rfl) (Reps.none _ _)));intro v436 w2 ho3 hb hg_ hnew_;clear hg_ hnew_;(first | rw [← Ny435.out] at ho3 | (simp only [Int.reduceToNat] at ho3;rw [← Ny435.out] at ho3));have n0_:=zA0 (Kd.R_lower ho3 (zb7 (zs0 HB)));have n1_:=zA0 (zaj (zs0 HB) hb);clear HB;revert n0_ n1_;intro HO437 HB;clear hb ho3;have hcv4:=own_string (P:=Tryz.prog) Tryz.underlying55 Tryz.underlying5 Tryz.underlying9 (Kd.own_of_R HO437.out)))
 go_loopg [0,3] k (fun kq v0 v3 w' => ∃ (x0_1 : Int) (x3_1 : ByteArray),v0 = .int .u64 x0_1∧v3 = .string x3_1∧Aside0 (za6.l0 kq x0_1 x3_1 = some r)∧Aside0 (kq≤k)∧Aside0 (Below w.heap.size w w'))
 case atStart => exact ⟨(a0),(strOfNums y435),yq6,yq6,H',⟨Nat.le_refl _⟩,⟨yq38⟩⟩
 case round =>
  clear H';(try clear hcv4);obtain ⟨x0_1,x3_1,rfl,rfl,HA,HK1,HB⟩:=hrel
  cases gk with
  | zero => exact absurd HA.out (by simp [za6.l0])
  | succ k1 =>
   have H:=HA.out;clear HA;simp only [za6.l0] at H
   by_cases c5 : x0_1 ≥ 10
   ·rw [if_pos c5] at H
    have c5b0 : decide (10≤x0_1) = true:=decide_eq_true c5;clear c5
    obtain ⟨y438,hy438⟩ : ∃ y_ : List Int,y_ = (([(IntKind.u64.wrap (48 + (Int.tmod (IntKind.u64.wrap (Int.tdiv x0_1 10)) 10))) % 256] : List Int)):=⟨_,rfl⟩
    replace H : (if (strOfNums y438).size + x3_1.size≤9223372036854775807 then (za6.l0 k1 (IntKind.u64.wrap (Int.tdiv x0_1 10)) ((strOfNums y438) ++ x3_1)) else (none)) = some r:=yr hy438 H
    have Ny438:=zA0 hy438;clear hy438
    by_cases c6 : (strOfNums y438).size + x3_1.size≤9223372036854775807
    ·rw [if_pos c6] at H
     have c6b0:=eq_true c6;have c6b1 : decide ((strOfNums y438).size + x3_1.size≤9223372036854775807) = true:=decide_eq_true c6;(try have c6b2 : (9223372036854775807 < (strOfNums y438).size + x3_1.size) = False:=eq_false (Nat.not_lt.2 c6));have H':=zA0 H;clear H
     go_wp2_with (first | ((with_reducible refine zbm (N:=18) rfl ?_);refine Kd.R_lit (Kd.int .u8) _ 5 ?hg (N:=18) ?hd (xs:=([(IntKind.u64.wrap (48 + (Int.tmod (IntKind.u64.wrap (Int.tdiv x0_1 10)) 10))) % 256] : List Int)) (inner:=[.int .u8 ((IntKind.u64.wrap (48 + (Int.tmod (IntKind.u64.wrap (Int.tdiv x0_1 10)) 10))) % 256)]) (ok:=fun _ => True) (okp:=fun _ => True) ?hr ?hp (fun _ hk => hk) trivial (Below.refl _ _) (Nat.le_refl _) (by simp) ?_;(case hd => rfl);(case hg => rfl);(case hr => first | (go_simp;done) | (go_simp;rfl));(case hp => exact (Reps.one (show Kd.M (Kd.int .u8) _ _ _ ((IntKind.u64.wrap (48 + (Int.tmod (IntKind.u64.wrap (Int.tdiv x0_1 10)) 10))) % 256) [.int .u8 ((IntKind.u64.wrap (48 + (Int.tmod (IntKind.u64.wrap (Int.tdiv x0_1 10)) 10))) % 256)] from rfl) (Reps.none _ _)));intro v439 w7 ho8 hb hg_ hnew_;clear hg_ hnew_;(first | rw [← Ny438.out] at ho8 | (simp only [Int.reduceToNat] at ho8;rw [← Ny438.out] at ho8));have n0_:=zA0 (Kd.R_lower ho8 (zb7 (zs0 HB)));have n1_:=zA0 (zaj (zs0 HB) hb);clear HB;revert n0_ n1_;intro HO440 HB;clear hb ho8;have hcv9:=own_string (P:=Tryz.prog) Tryz.underlying55 Tryz.underlying5 Tryz.underlying9 (Kd.own_of_R HO440.out)))
     go_roundg k1
     case measure => have:=HK1.out;omega
     case rel => exact ⟨(IntKind.u64.wrap (Int.tdiv x0_1 10)),((strOfNums y438) ++ x3_1),yq6,yq6,H',⟨yq95⟩,⟨yq38⟩⟩
    ·rw [if_neg c6] at H
     exact absurd H (by simp)
   ·rw [if_neg c5] at H
    have c5b0 : decide (10≤x0_1) = false:=decide_eq_false c5;clear c5;obtain rfl:=Option.some.inj H;go_wp2;go_ret;exact ⟨yq7,zs0 HB⟩
def zcu.f (k : Nat) (a0 : Int) : Option (ByteArray):=(za6.f k (IntKind.u64.wrap (a0))).bind fun t441 => (some t441)
theorem zcu.mono : ∀ a0 k,LeO (zcu.f k a0) (zcu.f (k + 1) a0):=by
 intro a0 k;unfold zcu.f
 exact (by repeat' first | with_reducible apply za6.mono | with_reducible apply LeO.refl | with_reducible apply LeO.none | (with_reducible refine LeO.ite ?_ ?_) | (with_reducible refine LeO.bind ?_ (fun _ => ?_)))
set_option maxHeartbeats 8000000 in
set_option maxRecDepth 100000 in
theorem zcu.calls (k : Nat) (a0 : Int) (r : ByteArray) (w : World) (h : zcu.f k a0 = some r) :
  Calls Tryz.prog 65 #[.int .i64 a0] w fun e w' => e = .returned (.string r)∧Below w.heap.size w w':=by
 have HB:=zA0 (Below.refl w.heap.size w);have H : ((za6.f k (IntKind.u64.wrap (a0))).bind fun t441 => (some t441)) = some r:=h;clear h;replace H:=Option.bind_eq_some_iff.mp H;obtain ⟨t441,A20,H⟩:=H;replace H : (some t441) = some r:=H;have A2:=zA0 A20;clear A20;obtain rfl:=Option.some.inj H;go_enter Tryz.func65,Tryz.ntmps65
 go_wp2_with (first | ((with_reducible refine zav (f:=77) rfl ?_);refine zcf (some 5) rfl rfl Tryz.func77 (by kernel_rfl) rfl #[.int .u64 (IntKind.u64.wrap (a0))] rfl zt ?_;(with_reducible refine (za6.calls k (IntKind.u64.wrap (a0)) t441 _ A2.out).mono ?_);rintro e w3 ⟨rfl,hb⟩;refine ⟨_,rfl,?_⟩;have n0_:=zA0 (zaj (zs0 HB) hb);clear HB;revert n0_;intro HB;clear hb))
 go_ret;exact ⟨yq7,zs0 HB⟩
def zcv.f (a0_0 : Int) (a0_1 : Int) (a0_2 : Int) (a0_3 : ByteArray) (l0_4 : List (S117)) : Option (Int):=if a0_0 = 6 then (some 1) else (if a0_0 = 5 then (none) else (if a0_0 = 4 then (if a0_1 = 7 then (none) else (if a0_1 = 6 then (none) else (if a0_1 = 5 then (some 4) else (if a0_1 = 4 then (none) else (if a0_1 = 3 then (none) else (some 6)))))) else (some 9)))
set_option maxHeartbeats 8000000 in
set_option maxRecDepth 100000 in
theorem zcv.calls (a0_0 : Int) (a0_1 : Int) (a0_2 : Int) (a0_3 : ByteArray) (A0_4 : Option Addr) (c0_4 : Nat) (l0_4 : List (S117)) (r : Int) (w : World) (hr0_4 : Kd.C k117 w A0_4 l0_4.length l0_4) (hc0_4 : l0_4.length≤c0_4) (h : zcv.f a0_0 a0_1 a0_2 a0_3 l0_4 = some r) :
  Calls Tryz.prog 88 #[.agg #[.int .i64 a0_0,.int .i64 a0_1,.int .u64 a0_2,.string a0_3,.slice A0_4 l0_4.length c0_4]] w fun e w' => e = .returned (.int .i64 r)∧Below w.heap.size w w':=by
 have hu117:=Tryz.underlying117;have HR0_4:=zA0 hr0_4;have HC0_4:=zA0 hc0_4;clear hr0_4 hc0_4;have HB:=zA0 (Below.refl w.heap.size w);have H : (if a0_0 = 6 then (some 1) else (if a0_0 = 5 then (none) else (if a0_0 = 4 then (if a0_1 = 7 then (none) else (if a0_1 = 6 then (none) else (if a0_1 = 5 then (some 4) else (if a0_1 = 4 then (none) else (if a0_1 = 3 then (none) else (some 6)))))) else (some 9)))) = some r:=h;clear h
 by_cases c2 : a0_0 = 6
 ·rw [if_pos c2] at H
  have c2b0 : (a0_0 == 6) = true:=beq_iff_eq.mpr c2;have c2b1 : (a0_0 != 6) = false:=bne_eq_false_iff_eq.mpr c2;clear c2;obtain rfl:=Option.some.inj H;go_enter Tryz.func88,Tryz.ntmps88
  go_wp2_with (first | ((with_reducible refine zbm (N:=1) rfl ?_);refine zbk ?hg (N:=1) ?hd (cs:=#[.int .i64 a0_0,.int .i64 a0_1,.int .u64 a0_2,.string a0_3,.slice A0_4 l0_4.length c0_4]) (t:=117) ?hr ?_;(case hd => rfl);(case hg => rfl);(case hr => first | (go_simp;done) | (go_simp;rfl));intro gb442 hg w3 hbox hb;have n0_:=zA0 (zaj (zs0 HB) hb);have n1_:=zA0 (hbox);have n2_:=zA0 ((yq30 : w.heap.size≤gb442));have n3_:=zA0 ((yq30 : w.heap.size≤gb442));clear HB;revert n0_ n1_ n2_ n3_;intro HB BK442 GW442 GE442;clear hb hbox hg;obtain ⟨_,_,_,_,_⟩:=zc5 BK442.out;obtain ⟨_,_,_,_,_⟩:=zf5 BK442.out))
  go_ret;exact ⟨yq7,yq203⟩
 ·rw [if_neg c2] at H
  have c2b0 : (a0_0 == 6) = false:=beq_eq_false_iff_ne.mpr c2;have c2b1 : (a0_0 != 6) = true:=bne_iff_ne.mpr c2
  by_cases c5 : a0_0 = 5
  ·rw [if_pos c5] at H
   exact absurd H (by simp)
  ·rw [if_neg c5] at H
   have c5b0 : (a0_0 == 5) = false:=beq_eq_false_iff_ne.mpr c5;have c5b1 : (a0_0 != 5) = true:=bne_iff_ne.mpr c5
   by_cases c6 : a0_0 = 4
   ·rw [if_pos c6] at H
    have c6b0 : (a0_0 == 4) = true:=beq_iff_eq.mpr c6;have c6b1 : (a0_0 != 4) = false:=bne_eq_false_iff_eq.mpr c6;clear c6
    by_cases c7 : a0_1 = 7
    ·rw [if_pos c7] at H
     exact absurd H (by simp)
    ·rw [if_neg c7] at H
     have c7b0 : (a0_1 == 7) = false:=beq_eq_false_iff_ne.mpr c7;have c7b1 : (a0_1 != 7) = true:=bne_iff_ne.mpr c7
     by_cases c8 : a0_1 = 6
     ·rw [if_pos c8] at H
      exact absurd H (by simp)
     ·rw [if_neg c8] at H
      have c8b0 : (a0_1 == 6) = false:=beq_eq_false_iff_ne.mpr c8;have c8b1 : (a0_1 != 6) = true:=bne_iff_ne.mpr c8
      by_cases c9 : a0_1 = 5
      ·rw [if_pos c9] at H
       have c9b0 : (a0_1 == 5) = true:=beq_iff_eq.mpr c9;have c9b1 : (a0_1 != 5) = false:=bne_eq_false_iff_eq.mpr c9;clear c9;obtain rfl:=Option.some.inj H;go_enter Tryz.func88,Tryz.ntmps88
       go_wp2_with (first | ((with_reducible refine zbm (N:=1) rfl ?_);refine zbk ?hg (N:=1) ?hd (cs:=#[.int .i64 a0_0,.int .i64 a0_1,.int .u64 a0_2,.string a0_3,.slice A0_4 l0_4.length c0_4]) (t:=117) ?hr ?_;(case hd => rfl);(case hg => rfl);(case hr => first | (go_simp;done) | (go_simp;rfl));intro gb442 hg w10 hbox hb;have n0_:=zA0 (zaj (zs0 HB) hb);have n1_:=zA0 (hbox);have n2_:=zA0 ((yq30 : w.heap.size≤gb442));have n3_:=zA0 ((yq30 : w.heap.size≤gb442));clear HB;revert n0_ n1_ n2_ n3_;intro HB BK442 GW442 GE442;clear hb hbox hg;obtain ⟨_,_,_,_,_⟩:=zc5 BK442.out;obtain ⟨_,_,_,_,_⟩:=zf5 BK442.out))
       go_ret;exact ⟨yq7,yq203⟩
      ·rw [if_neg c9] at H
       have c9b0 : (a0_1 == 5) = false:=beq_eq_false_iff_ne.mpr c9;have c9b1 : (a0_1 != 5) = true:=bne_iff_ne.mpr c9
       by_cases c12 : a0_1 = 4
       ·rw [if_pos c12] at H
        exact absurd H (by simp)
       ·rw [if_neg c12] at H
        have c12b0 : (a0_1 == 4) = false:=beq_eq_false_iff_ne.mpr c12;have c12b1 : (a0_1 != 4) = true:=bne_iff_ne.mpr c12
        by_cases c13 : a0_1 = 3
        ·rw [if_pos c13] at H
         exact absurd H (by simp)
        ·rw [if_neg c13] at H
         have c13b0 : (a0_1 == 3) = false:=beq_eq_false_iff_ne.mpr c13;have c13b1 : (a0_1 != 3) = true:=bne_iff_ne.mpr c13;obtain rfl:=Option.some.inj H;go_enter Tryz.func88,Tryz.ntmps88
         go_wp2_with (first | ((with_reducible refine zbm (N:=1) rfl ?_);refine zbk ?hg (N:=1) ?hd (cs:=#[.int .i64 a0_0,.int .i64 a0_1,.int .u64 a0_2,.string a0_3,.slice A0_4 l0_4.length c0_4]) (t:=117) ?hr ?_;(case hd => rfl);(case hg => rfl);(case hr => first | (go_simp;done) | (go_simp;rfl));intro gb442 hg w14 hbox hb;have n0_:=zA0 (zaj (zs0 HB) hb);have n1_:=zA0 (hbox);have n2_:=zA0 ((yq30 : w.heap.size≤gb442));have n3_:=zA0 ((yq30 : w.heap.size≤gb442));clear HB;revert n0_ n1_ n2_ n3_;intro HB BK442 GW442 GE442;clear hb hbox hg;obtain ⟨_,_,_,_,_⟩:=zc5 BK442.out;obtain ⟨_,_,_,_,_⟩:=zf5 BK442.out))
         go_ret;exact ⟨yq7,yq203⟩
   ·rw [if_neg c6] at H
    have c6b0 : (a0_0 == 4) = false:=beq_eq_false_iff_ne.mpr c6;have c6b1 : (a0_0 != 4) = true:=bne_iff_ne.mpr c6;obtain rfl:=Option.some.inj H;go_enter Tryz.func88,Tryz.ntmps88
    go_wp2_with (first | ((with_reducible refine zbm (N:=1) rfl ?_);refine zbk ?hg (N:=1) ?hd (cs:=#[.int .i64 a0_0,.int .i64 a0_1,.int .u64 a0_2,.string a0_3,.slice A0_4 l0_4.length c0_4]) (t:=117) ?hr ?_;(case hd => rfl);(case hg => rfl);(case hr => first | (go_simp;done) | (go_simp;rfl));intro gb442 hg w16 hbox hb;have n0_:=zA0 (zaj (zs0 HB) hb);have n1_:=zA0 (hbox);have n2_:=zA0 ((yq30 : w.heap.size≤gb442));have n3_:=zA0 ((yq30 : w.heap.size≤gb442));clear HB;revert n0_ n1_ n2_ n3_;intro HB BK442 GW442 GE442;clear hb hbox hg;obtain ⟨_,_,_,_,_⟩:=zc5 BK442.out;obtain ⟨_,_,_,_,_⟩:=zf5 BK442.out))
    go_ret;exact ⟨yq7,yq203⟩
def zc1.f (a0 : Int) : Option (ByteArray):=(some (([(⟨#[43]⟩ : ByteArray),(⟨#[45]⟩ : ByteArray),(⟨#[42]⟩ : ByteArray),(⟨#[60]⟩ : ByteArray),(⟨#[61,61]⟩ : ByteArray),(⟨#[38]⟩ : ByteArray),(⟨#[124]⟩ : ByteArray)] : List ByteArray) : List ByteArray)).bind fun y443 => (if 0≤(wrap64 (a0 - 1)) then (if (wrap64 (a0 - 1)) < (y443.length : Int) then (some (rdOf ByteArray.empty y443 (wrap64 (a0 - 1)))) else (none)) else (none))
set_option maxHeartbeats 8000000 in
set_option maxRecDepth 100000 in
theorem zc1.calls (a0 : Int) (r : ByteArray) (w : World) (h : zc1.f a0 = some r) :
  Calls Tryz.prog 89 #[.int .i64 a0] w fun e w' => e = .returned (.string r)∧Below w.heap.size w w':=by
 have HB:=zA0 (Below.refl w.heap.size w);have H : ((some (([(⟨#[43]⟩ : ByteArray),(⟨#[45]⟩ : ByteArray),(⟨#[42]⟩ : ByteArray),(⟨#[60]⟩ : ByteArray),(⟨#[61,61]⟩ : ByteArray),(⟨#[38]⟩ : ByteArray),(⟨#[124]⟩ : ByteArray)] : List ByteArray) : List ByteArray)).bind fun y443 => (if 0≤(wrap64 (a0 - 1)) then (if (wrap64 (a0 - 1)) < (y443.length : Int) then (some (rdOf ByteArray.empty y443 (wrap64 (a0 - 1)))) else (none)) else (none))) = some r:=h;clear h
 obtain ⟨y443,hy443⟩ : ∃ y_ : List ByteArray,y_ = (([(⟨#[43]⟩ : ByteArray),(⟨#[45]⟩ : ByteArray),(⟨#[42]⟩ : ByteArray),(⟨#[60]⟩ : ByteArray),(⟨#[61,61]⟩ : ByteArray),(⟨#[38]⟩ : ByteArray),(⟨#[124]⟩ : ByteArray)] : List ByteArray)):=⟨_,rfl⟩
 replace H : (if 0≤(wrap64 (a0 - 1)) then (if (wrap64 (a0 - 1)) < (y443.length : Int) then (some (rdOf ByteArray.empty y443 (wrap64 (a0 - 1)))) else (none)) else (none)) = some r:=yr hy443 H
 have Ny443:=zA0 hy443;clear hy443
 obtain ⟨ji2,hji2⟩ : ∃ j_ : Int,(wrap64 (a0 - 1)) = j_:=⟨_,rfl⟩
 replace H : (if 0≤(ji2) then (if (ji2) < (y443.length : Int) then (some (rdOf ByteArray.empty y443 (ji2))) else (none)) else (none)) = some r:=by first | (rw [hji2] at H;exact H) | (simp only [hji2] at H ⊢;exact H)
 have hji2w : (IntKind.i64.wrap (a0 - 1)) = ji2:=(zc7 _).trans hji2
 by_cases c3 : 0≤(ji2)
 ·rw [if_pos c3] at H
  have c3b0 : decide (0≤(ji2)) = true:=decide_eq_true c3;clear c3
  by_cases c4 : (ji2) < (y443.length : Int)
  ·rw [if_pos c4] at H
   have c4b0 : decide ((ji2) < (y443.length : Int)) = true:=decide_eq_true c4;clear c4;obtain rfl:=Option.some.inj H;go_enter Tryz.func89,Tryz.ntmps89
   go_wp2_with (first | ((with_reducible refine zbm (N:=4) rfl ?_);refine Kd.R_lit Kd.string _ 9 ?hg (N:=4) ?hd (xs:=([(⟨#[43]⟩ : ByteArray),(⟨#[45]⟩ : ByteArray),(⟨#[42]⟩ : ByteArray),(⟨#[60]⟩ : ByteArray),(⟨#[61,61]⟩ : ByteArray),(⟨#[38]⟩ : ByteArray),(⟨#[124]⟩ : ByteArray)] : List ByteArray)) (inner:=[.string (⟨#[43]⟩ : ByteArray),.string (⟨#[45]⟩ : ByteArray),.string (⟨#[42]⟩ : ByteArray),.string (⟨#[60]⟩ : ByteArray),.string (⟨#[61,61]⟩ : ByteArray),.string (⟨#[38]⟩ : ByteArray),.string (⟨#[124]⟩ : ByteArray)]) (ok:=fun _ => True) (okp:=fun _ => True) ?hr ?hp (fun _ hk => hk) trivial (Below.refl _ _) (Nat.le_refl _) (by simp) ?_;(case hd => rfl);(case hg => rfl);(case hr => first | (go_simp;done) | (go_simp;rfl));(case hp => exact (Reps.one (show Kd.M Kd.string _ _ _ (⟨#[43]⟩ : ByteArray) [.string (⟨#[43]⟩ : ByteArray)] from rfl) (Reps.one (show Kd.M Kd.string _ _ _ (⟨#[45]⟩ : ByteArray) [.string (⟨#[45]⟩ : ByteArray)] from rfl) (Reps.one (show Kd.M Kd.string _ _ _ (⟨#[42]⟩ : ByteArray) [.string (⟨#[42]⟩ : ByteArray)] from rfl) (Reps.one (show Kd.M Kd.string _ _ _ (⟨#[60]⟩ : ByteArray) [.string (⟨#[60]⟩ : ByteArray)] from rfl) (Reps.one (show Kd.M Kd.string _ _ _ (⟨#[61,61]⟩ : ByteArray) [.string (⟨#[61,61]⟩ : ByteArray)] from rfl) (Reps.one (show Kd.M Kd.string _ _ _ (⟨#[38]⟩ : ByteArray) [.string (⟨#[38]⟩ : ByteArray)] from rfl) (Reps.one (show Kd.M Kd.string _ _ _ (⟨#[124]⟩ : ByteArray) [.string (⟨#[124]⟩ : ByteArray)] from rfl) (Reps.none _ _)))))))));intro v444 w5 ho6 hb hg_ hnew_;clear hg_ hnew_;(first | rw [← Ny443.out] at ho6 | (simp only [Int.reduceToNat] at ho6;rw [← Ny443.out] at ho6));have n0_:=zA0 (Kd.R_lower ho6 (zb7 (zs0 HB)));have n1_:=zA0 (zaj (zs0 HB) hb);clear HB;revert n0_ n1_;intro HO445 HB;clear hb ho6;obtain ⟨Ao7,co7,eo7⟩:=Kd.R_slice HO445.out;subst eo7;have p446 : 0≤((ji2) : Int):=of_decide_eq_true yq3;have q446 : (ji2) < (y443.length : Int):=of_decide_eq_true yq3;obtain ⟨ad446,e446,hx446_0⟩:=Kd.at_string (Kd.R_reads' HO445.out).2.2 (ji2) p446 q446;cases e446;replace p446:=eq_true p446;replace q446:=eq_true q446))
   go_ret;exact ⟨by first | rfl | (simp [zdp,zdo] <;> rfl) | (simp only [← hji2];first | rfl | (simp [zdp,zdo] <;> rfl)) | (simp [*,zdp,zdo] <;> rfl),zs0 HB⟩
  ·rw [if_neg c4] at H
   exact absurd H (by simp)
 ·rw [if_neg c3] at H
  exact absurd H (by simp)
mutual
def za7.f : Nat→Int→Int→Int→ByteArray→List (S117)→Int→Option (ByteArray)
 | 0,_,_,_,_,_,_ => none
 | k + 1,a0_0,a0_1,a0_2,a0_3,l0_4,a1 => (zcv.f a0_0 a0_1 a0_2 a0_3 l0_4).bind fun t448 => (if t448 < a1 then ((zat.f k a0_0 a0_1 a0_2 a0_3 l0_4).bind fun t449 => (if 1 + t449.size≤9223372036854775807 then (if ((⟨#[40]⟩ : ByteArray) ++ t449).size + 1≤9223372036854775807 then (some (((⟨#[40]⟩ : ByteArray) ++ t449) ++ (⟨#[41]⟩ : ByteArray))) else (none)) else (none))) else ((zat.f k a0_0 a0_1 a0_2 a0_3 l0_4).bind fun t450 => (some t450)))
def zat.f : Nat→Int→Int→Int→ByteArray→List (S117)→Option (ByteArray)
 | 0,_,_,_,_,_ => none
 | k + 1,a0_0,a0_1,a0_2,a0_3,l0_4 => if a0_0 = 1 then ((za6.f k a0_2).bind fun t452 => (some t452)) else (if a0_0 = 2 then (some a0_3) else (if a0_0 = 3 then (none) else (if a0_0 = 5 then (none) else (if a0_0 = 6 then (if 0 < (l0_4.length : Int) then ((za7.f k ((zad l0_4 0).f0) ((zad l0_4 0).f1) ((zad l0_4 0).f2) ((zad l0_4 0).f3) ((zad l0_4 0).f4) 2).bind fun t454 => (if t454.size + 3≤9223372036854775807 then (if 1 < (l0_4.length : Int) then ((zat.f k ((zad l0_4 1).f0) ((zad l0_4 1).f1) ((zad l0_4 1).f2) ((zad l0_4 1).f3) ((zad l0_4 1).f4)).bind fun t456 => (if (t454 ++ (⟨#[32,63,32]⟩ : ByteArray)).size + t456.size≤9223372036854775807 then (if ((t454 ++ (⟨#[32,63,32]⟩ : ByteArray)) ++ t456).size + 3≤9223372036854775807 then (if 2 < (l0_4.length : Int) then ((zat.f k ((zad l0_4 2).f0) ((zad l0_4 2).f1) ((zad l0_4 2).f2) ((zad l0_4 2).f3) ((zad l0_4 2).f4)).bind fun t458 => (if (((t454 ++ (⟨#[32,63,32]⟩ : ByteArray)) ++ t456) ++ (⟨#[32,58,32]⟩ : ByteArray)).size + t458.size≤9223372036854775807 then (some ((((t454 ++ (⟨#[32,63,32]⟩ : ByteArray)) ++ t456) ++ (⟨#[32,58,32]⟩ : ByteArray)) ++ t458)) else (none))) else (none)) else (none)) else (none))) else (none)) else (none))) else (none)) else ((zcv.f a0_0 a0_1 a0_2 a0_3 l0_4).bind fun t459 => (if 0 < (l0_4.length : Int) then ((za7.f k ((zad l0_4 0).f0) ((zad l0_4 0).f1) ((zad l0_4 0).f2) ((zad l0_4 0).f3) ((zad l0_4 0).f4) t459).bind fun t461 => (if t461.size + 1≤9223372036854775807 then ((zc1.f a0_1).bind fun t462 => (if (t461 ++ (⟨#[32]⟩ : ByteArray)).size + t462.size≤9223372036854775807 then (if ((t461 ++ (⟨#[32]⟩ : ByteArray)) ++ t462).size + 1≤9223372036854775807 then (if 1 < (l0_4.length : Int) then ((za7.f k ((zad l0_4 1).f0) ((zad l0_4 1).f1) ((zad l0_4 1).f2) ((zad l0_4 1).f3) ((zad l0_4 1).f4) (wrap64 (t459 + 1))).bind fun t464 => (if (((t461 ++ (⟨#[32]⟩ : ByteArray)) ++ t462) ++ (⟨#[32]⟩ : ByteArray)).size + t464.size≤9223372036854775807 then (some ((((t461 ++ (⟨#[32]⟩ : ByteArray)) ++ t462) ++ (⟨#[32]⟩ : ByteArray)) ++ t464)) else (none))) else (none)) else (none)) else (none))) else (none))) else (none)))))))
end
mutual
theorem za7.mono_l : ∀ k,(∀ y0 y1 y2 y3 y4 y5,LeO (za7.f k y0 y1 y2 y3 y4 y5) (za7.f (k + 1) y0 y1 y2 y3 y4 y5))
 | 0 => fun _ _ _ _ _ _ r h => by simp [za7.f] at h
 | k + 1 => by
  have ihm78:=zat.mono_l k;have ih0:=za7.mono_l k
  ·intro y0 y1 y2 y3 y4 y5
   unfold za7.f
   exact (by repeat' first | with_reducible apply ih0 | with_reducible apply ihm78 | apply ihm78 | with_reducible apply LeO.refl | with_reducible apply LeO.none | (with_reducible refine LeO.ite ?_ ?_) | (with_reducible refine LeO.bind ?_ (fun _ => ?_)))
theorem zat.mono_l : ∀ k,(∀ y0 y1 y2 y3 y4,LeO (zat.f k y0 y1 y2 y3 y4) (zat.f (k + 1) y0 y1 y2 y3 y4))
 | 0 => fun _ _ _ _ _ r h => by simp [zat.f] at h
 | k + 1 => by
  have ihm87:=za7.mono_l k;have ih0:=zat.mono_l k
  ·intro y0 y1 y2 y3 y4
   unfold zat.f
   exact (by repeat' first | with_reducible apply ih0 | with_reducible apply ihm87 | apply ihm87 | with_reducible apply za6.mono | with_reducible apply LeO.refl | with_reducible apply LeO.none | (with_reducible refine LeO.ite ?_ ?_) | (with_reducible refine LeO.bind ?_ (fun _ => ?_)))
end
theorem zat.mono : ∀ a0 a1 a2 a3 a4 k,LeO (zat.f k a0 a1 a2 a3 a4) (zat.f (k + 1) a0 a1 a2 a3 a4):=by
 intro a0 a1 a2 a3 a4 k;have ih0:=zat.mono_l k;exact ih0 a0 a1 a2 a3 a4
abbrev za7.C (k : Nat) : Prop:=∀ (a0_0 : Int) (a0_1 : Int) (a0_2 : Int) (a0_3 : ByteArray) (A0_4 : Option Addr) (c0_4 : Nat) (l0_4 : List (S117)) (a1 : Int) (r : ByteArray) (w : World) (hr0_4 : Kd.C k117 w A0_4 l0_4.length l0_4) (hc0_4 : l0_4.length≤c0_4) (h : za7.f k a0_0 a0_1 a0_2 a0_3 l0_4 a1 = some r),
  Calls Tryz.prog 87 #[.agg #[.int .i64 a0_0,.int .i64 a0_1,.int .u64 a0_2,.string a0_3,.slice A0_4 l0_4.length c0_4],.int .i64 a1] w fun e w' => e = .returned (.string r)∧Below w.heap.size w w'
abbrev zat.C (k : Nat) : Prop:=∀ (a0_0 : Int) (a0_1 : Int) (a0_2 : Int) (a0_3 : ByteArray) (A0_4 : Option Addr) (c0_4 : Nat) (l0_4 : List (S117)) (r : ByteArray) (w : World) (hr0_4 : Kd.C k117 w A0_4 l0_4.length l0_4) (hc0_4 : l0_4.length≤c0_4) (h : zat.f k a0_0 a0_1 a0_2 a0_3 l0_4 = some r),
  Calls Tryz.prog 78 #[.agg #[.int .i64 a0_0,.int .i64 a0_1,.int .u64 a0_2,.string a0_3,.slice A0_4 l0_4.length c0_4]] w fun e w' => e = .returned (.string r)∧Below w.heap.size w w'
end Go.Proofs.YtkgdhdjkpnalmaaGreatDoor.P
end
