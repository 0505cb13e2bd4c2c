/- What is proved here: a part of the proof of ElectionChangedVote: Px58, Eva. No conditions beside those that each theorem states. -/
import Derived.Test.YtkgdhdjkpnalmaaGreatDoorKECVte4
import Derived.Test.YtkgdhdjkpnalmaaGreatDoorKECVte34
import Derived.Test.YtkgdhdjkpnalmaaGreatDoorKECVte33
set_option linter.unusedVariables false
set_option linter.unusedSimpArgs false
section
namespace Go.Proofs.YtkgdhdjkpnalmaaGreatDoor.P
open Go.RowKit Go.Proofs.YtkgdhdjkpnalmaaGreatDoorW.PrintWords Go.Proofs.YtkgdhdjkpnalmaaGreatDoorW.PrintLast Go.Proofs.YtkgdhdjkpnalmaaGreatDoorW.PrintMore
attribute [local go_sem] zcd zca zci zcj zb1 zb2 zcc zcb
def zcw.l0 : Nat→List (S158)→Int→Option (Int)
 | 0,_,_ => none
 | k + 1,x0,x5 => if x5 < (x0.length : Int) then (none) else (some (-1))
def zcw.f (k : Nat) (l0 : List (S158)) (a1 : ByteArray) : Option (Int):=zcw.l0 k l0 0
set_option maxHeartbeats 8000000 in
set_option maxRecDepth 100000 in
theorem zcw.calls (k : Nat) (A0 : Option Addr) (c0 : Nat) (l0 : List (S158)) (a1 : ByteArray) (r : Int) (w : World) (hr0 : Kd.C k158 w A0 l0.length l0) (hc0 : l0.length≤c0) (h : zcw.f k l0 a1 = some r) :
  Calls Tryz.prog 106 #[.slice A0 l0.length c0,.string a1] w fun e w' => e = .returned (.int .i64 r)∧zdl w w':=by
 have HR0:=zA0 hr0;have HC0:=zA0 hc0;clear hr0 hc0;have H : (zcw.l0 k l0 0) = some r:=h;clear h;have H':=zA0 H;clear H;go_enter Tryz.func106,Tryz.ntmps106;go_wp2
 go_loopg [5] k (fun kq v5 w' => ∃ (x5_1 : Int),v5 = .int .i64 x5_1∧Aside0 (zcw.l0 kq l0 x5_1 = some r)∧Aside0 (kq≤k)∧zdl w w')
 case atStart => exact ⟨(0),yq6,H',⟨Nat.le_refl _⟩,yq17⟩
 case round =>
  clear H';obtain ⟨x5_1,rfl,HA,HK1,⟨m1,rfl⟩⟩:=hrel
  cases gk with
  | zero => exact absurd HA.out (by simp [zcw.l0])
  | succ k1 =>
   have H:=HA.out;clear HA;simp only [zcw.l0] at H
   by_cases c3 : x5_1 < (l0.length : Int)
   ·rw [if_pos c3] at H
    exact absurd H (by simp)
   ·rw [if_neg c3] at H
    have c3b0 : decide (x5_1 < (l0.length : Int)) = false:=decide_eq_false c3;clear c3;obtain rfl:=Option.some.inj H;go_wp2;go_ret;exact ⟨yq6,yq17⟩
def zec.f (a0 : Int) : Option (Int × Int × Bool × Int):=some (1,a0,false,0)
set_option maxHeartbeats 8000000 in
set_option maxRecDepth 100000 in
theorem zec.calls (a0 : Int) (r1 : Int) (r2 : Int) (r3 : Bool) (r4 : Int) (w : World) (h : zec.f a0 = some (r1,r2,r3,r4)) :
  Calls Tryz.prog 114 #[.int .i64 a0] w fun e w' => e = .returned (.agg #[.int .i64 r1,.int .i64 r2,.bool r3,.int .u64 r4])∧Below w.heap.size w w':=by
 have hu155:=Tryz.underlying155;have HB:=zA0 (Below.refl w.heap.size w);have H : (some (1,a0,false,0)) = some (r1,r2,r3,r4):=h;clear h;simp only [Option.some.injEq,Prod.mk.injEq] at H;obtain ⟨rfl,rfl,rfl,rfl⟩:=H;go_enter Tryz.func114,Tryz.ntmps114
 go_wp2_with (first | ((with_reducible refine zbm (N:=2) rfl ?_);refine zbk ?hg (N:=2) ?hd (cs:=#[.int .i64 0,.int .i64 0,.bool false,.int .u64 0]) (t:=155) ?hr ?_;(case hd => rfl);(case hg => rfl);(case hr => first | (go_simp;done) | (go_simp;rfl));intro gb584 hg w2 hbox hb;have n0_:=zA0 (zaj (zs0 HB) hb);have n1_:=zA0 (hbox);have n2_:=zA0 ((yq30 : w.heap.size≤gb584));have n3_:=zA0 ((yq30 : w.heap.size≤gb584));clear HB;revert n0_ n1_ n2_ n3_;intro HB BK584 GW584 GE584;clear hb hbox hg;obtain ⟨_,_,_,_⟩:=zc4 BK584.out;obtain ⟨_,_,_,_⟩:=zf4 BK584.out))
 refine bodyPost_ret (results_cell_row rfl _ _ gb584 155 #[.int .i64 1,.int .i64 a0,.bool false,.int .u64 0] (0,0) _ rfl (by refine yb1 ?_;refine zaz (cs:=#[.int .i64 1,.int .i64 a0,.bool false,.int .u64 0]) ?_ 3 _ rfl;refine yb1 ?_;refine zaz (cs:=#[.int .i64 1,.int .i64 a0,.bool false,.int .u64 0]) ?_ 2 _ rfl;refine yb1 ?_;refine zaz (cs:=#[.int .i64 1,.int .i64 0,.bool false,.int .u64 0]) ?_ 1 _ rfl;refine yb1 ?_;refine zaz (cs:=#[.int .i64 0,.int .i64 0,.bool false,.int .u64 0]) ?_ 0 _ rfl;refine yb1 ?_;exact BK584.out) Tryz.underlying155 rfl (by kernel_rfl)) rfl ?_;exact ⟨yq7,by first | exact zs1 HB GE584 | exact zs0 HB⟩
end Go.Proofs.YtkgdhdjkpnalmaaGreatDoor.P
end
section
namespace Go.Proofs.YtkgdhdjkpnalmaaGreatDoor.P
open Go.RowKit Go.Proofs.YtkgdhdjkpnalmaaGreatDoorW.PrintWords Go.Proofs.YtkgdhdjkpnalmaaGreatDoorW.PrintLast Go.Proofs.YtkgdhdjkpnalmaaGreatDoorW.PrintMore
def zcr.f (k : Nat) (s0_0 : List S50) (s0_1 : List S87) (s0_2 : List S114) (s0_3 : List S158) (s0_4 : List S158) (s0_5 : List (List Int)) (s0_6 s0_7 s0_8 : Int) (a1 : ByteArray) : Option (Int × Int × Bool × Int × Int × Int × Int × Int) :=
 if s0_3.isEmpty = true then (if s0_4.isEmpty = true then ((zb6.f k s0_0 s0_1 s0_2 a1).bind fun i => (if 0≤i then (if i < (s0_0.length : Int) then (if (zaq s0_0 i).f3 = 0 then (some (1,(zaq s0_0 i).f2,false,0,0,s0_6,s0_7,s0_8)) else (none)) else (none)) else (none))) else (none)) else (none)
theorem zcr.mono : ∀ a0 a1 a2 a3 a4 a5 a6 a7 a8 a9 k,LeO (zcr.f k a0 a1 a2 a3 a4 a5 a6 a7 a8 a9) (zcr.f (k + 1) a0 a1 a2 a3 a4 a5 a6 a7 a8 a9):=by
 intro a0 a1 a2 a3 a4 a5 a6 a7 a8 a9 k;unfold zcr.f
 exact (by repeat' first | with_reducible apply zb6.mono | with_reducible apply LeO.refl | with_reducible apply LeO.none | (with_reducible refine LeO.ite ?_ ?_) | (with_reducible refine LeO.bind ?_ (fun _ => ?_)))
theorem find_none (a1 : ByteArray) : zcw.f 5 ([] : List S158) a1 = some (-1):=by
 simp [zcw.f,zcw.l0]
set_option maxHeartbeats 8000000 in
set_option maxRecDepth 100000 in
theorem zcr.calls (k : Nat) (g : Nat) (s0_0 : List S50) (s0_1 : List S87) (s0_2 : List S114) (s0_3 : List S158) (s0_4 : List S158) (s0_5 : List (List Int)) (s0_6 s0_7 s0_8 : Int) (a1 : ByteArray) (r1 : Int) (r2 : Int) (r3 : Bool) (r4 : Int) (r5 : Int) (r6 r7 r8 : Int) (w0 w : World)
  (hI : zax w0 w g s0_0 s0_1 s0_2 s0_3 s0_4 s0_5 s0_6 s0_7 s0_8) (hB : Below w0.heap.size w0 w) (h : zcr.f k s0_0 s0_1 s0_2 s0_3 s0_4 s0_5 s0_6 s0_7 s0_8 a1 = some (r1,r2,r3,r4,r5,r6,r7,r8)) :
  Calls Tryz.prog 111 #[.pointer (some ⟨g,0,none⟩),.string a1] w fun e w' => e = .returned (.tuple #[.agg #[.int .i64 r1,.int .i64 r2,.bool r3,.int .u64 r4],.int .i64 r5])∧zax w0 w' g s0_0 s0_1 s0_2 s0_3 s0_4 s0_5 r6 r7 r8∧Below w0.heap.size w0 w'∧zaf w w' g none:=by
 unfold zcr.f at h
 by_cases e3 : s0_3.isEmpty = true
 rotate_left
 ·rw [if_neg e3] at h;cases h
 by_cases e4 : s0_4.isEmpty = true
 rotate_left
 ·rw [if_pos e3,if_neg e4] at h;cases h
 rw [if_pos e3,if_pos e4] at h;obtain rfl:=List.isEmpty_iff.1 e3;obtain rfl:=List.isEmpty_iff.1 e4;obtain ⟨i,hi,h⟩:=Option.bind_eq_some_iff.1 h
 by_cases i0 : 0≤i
 rotate_left
 ·rw [if_neg i0] at h;cases h
 by_cases i1 : i < (s0_0.length : Int)
 rotate_left
 ·rw [if_pos i0,if_neg i1] at h;cases h
 by_cases i2 : (zaq s0_0 i).f3 = 0
 rotate_left
 ·rw [if_pos i0,if_pos i1,if_neg i2] at h;cases h
 rw [if_pos i0,if_pos i1,if_pos i2] at h;simp only [Option.some.injEq,Prod.mk.injEq] at h;obtain ⟨rfl,rfl,rfl,rfl,rfl,rfl,rfl,rfl⟩:=h;have HIN:=zA0 hi;clear hi e3 e4;(try clear h);have hlt : g < w.heap.size:=zax.lt hI;have hge : w0.heap.size≤g:=zax.ge hI;have hzz:=hB.size;have HI:=zA0 hI;obtain ⟨A0,c0,A1,c1,A2,c2,A3,c3,A4,c4,A5,c5,HG,hg,q0,q1,q2,q3,q4,q5⟩:=hI;have NM:=zA0 (fun (W : World) => zec.calls ((zaq s0_0 i).f2) 1 ((zaq s0_0 i).f2) false 0 W rfl);go_enter Tryz.func111,Tryz.ntmps111
 go_upto_region 1 with (first | ((with_reducible refine zbm (N:=4) rfl ?_);refine zbk ?hg (N:=4) ?hd (cs:=#[.int .i64 0,.int .i64 0,.bool false,.int .u64 0]) (t:=155) ?hr ?_;(case hd => rfl);(case hg => rfl);(case hr => first | (go_simp;done) | (go_simp;rfl));intro gb hgb w1 hbox hbb;have hGW : w.heap.size≤gb:=(by rw [hgb];exact Nat.le_refl _);have hNB : g≠gb:=(by rw [hgb];exact Nat.ne_of_lt hlt);clear hgb))
 have hGE : w0.heap.size≤gb:=Nat.le_trans hzz hGW;have HG1:=(hbb.block g hlt).trans HG;have HI1:=zA0 (zax.below HI.out hbb);have HB1:=zA0 (zaj hB hbb);have HK1:=zA0 (zaf.of_below hbb g none);have HBX:=zA0 hbox;have hg1 : g < w1.heap.size:=zcs HG1;have hb1 : gb < w1.heap.size:=zcs hbox;have HGG:=zA0 HG1;have z1_0:=cellS107_0 HG1;have z1_1:=cellS107_1 HG1;have z1_2:=cellS107_2 HG1;have z1_3:=cellS107_3 HG1;have z1_4:=cellS107_4 HG1;clear hbox HG1 hbb HG HI
 go_wp2_with fail
 refine (zcw.calls 5 A4 c4 [] a1 (-1) w1 (Kd.C_below q4 HB1.out) (Nat.zero_le _) (find_none a1)).mono ?_;rintro e w2 ⟨rfl,⟨⟨m,rfl⟩⟩⟩
 go_wp2_with fail
 refine (zcw.calls 5 A3 c3 [] a1 (-1) _ (Kd.C_below q3 (za5 HB1.out _)) (Nat.zero_le _) (find_none a1)).mono ?_;rintro e w3 ⟨rfl,⟨⟨m',rfl⟩⟩⟩
 go_wp2_with fail
 refine (zb6.calls k A0 c0 s0_0 A1 c1 s0_1 A2 c2 s0_2 a1 i _ (Kd.C_below q0 (za5 HB1.out _)) (Kd.C_below q1 (za5 HB1.out _)) (Kd.C_below q2 (za5 HB1.out _)) HIN.out).mono ?_;rintro e w4 ⟨rfl,b4⟩;have HG4:=(b4.block g hg1).trans HGG.out;have hx4:=(b4.block gb hb1).trans HBX.out;have HI4:=zA0 (zax.below (zax.drewN HI1.out (m + m')) b4);have HB4:=zA0 (zaj (za5 HB1.out (m + m')) b4);have HK4:=zA0 (zaf.trans (zc6 HK1.out (m + m')) (zaf.of_below b4 g none) (.inl rfl));have hg4 : g < w4.heap.size:=zcs HG4;have hb4 : gb < w4.heap.size:=zcs hx4;obtain ⟨ad,e0,x0,x1,x2,x3⟩:=at_T50 (Kd.C_below q0 HB4.out) i i0 i1;cases e0;have z4_0:=cellS107_0 HG4;have z4_1:=cellS107_1 HG4;have z4_2:=cellS107_2 HG4;rw [i2] at x3;have p0 : 0≤i:=i0;have i0t:=eq_true i0;have i1t:=eq_true i1;have d0 : decide (0≤i) = true:=decide_eq_true i0;have HG4':=zA0 HG4;have HX4:=zA0 hx4;clear b4 HG4 hx4 z1_0 z1_1 z1_2 z1_3 z1_4 HGG HBX HI1 HB1 HK1 hg1 hb1
 go_wp2_with fail
 refine (NM.out w4).mono ?_;rintro e w5 ⟨rfl,b5⟩;have hx5:=(b5.block gb hb4).trans HX4.out;have HI5:=zA0 (zax.below HI4.out b5);have HB5:=zA0 (zaj HB4.out b5);have HK5:=zA0 (zaf.trans HK4.out (zaf.of_below b5 g none) (.inl rfl));have y0 : w5.cell? ⟨gb,0,none⟩ = some (.int .i64 0):=(zbf hx5 0).trans rfl;have y1 : w5.cell? ⟨gb,1,none⟩ = some (.int .i64 0):=(zbf hx5 1).trans rfl;have y2 : w5.cell? ⟨gb,2,none⟩ = some (.bool false):=(zbf hx5 2).trans rfl;have y3 : w5.cell? ⟨gb,3,none⟩ = some (.int .u64 0):=(zbf hx5 3).trans rfl;have f0:=zap hx5 0;have f1:=zap hx5 1;have f2:=zap hx5 2;have f3:=zap hx5 3;have HX5:=zA0 hx5;have hu:=Tryz.underlying155;clear b5 hx5 z4_0 z4_1 z4_2 x0 x1 x2 x3;go_wp2
 refine bodyPost_ret (zd5 rfl _ _ gb 155 #[.int .i64 1,(.int .i64 ((zaq s0_0 i).f2)),.bool false,.int .u64 0] (0,0) _ rfl (by
  refine zaz (cs:=#[.int .i64 1,(.int .i64 ((zaq s0_0 i).f2)),.bool false,.int .u64 0]) ?_ 3 _ rfl;refine zaz (cs:=#[.int .i64 1,(.int .i64 ((zaq s0_0 i).f2)),.bool false,.int .u64 0]) ?_ 2 _ rfl;refine zaz (cs:=#[.int .i64 1,.int .i64 0,.bool false,.int .u64 0]) ?_ 1 _ rfl;refine zaz (cs:=#[.int .i64 0,.int .i64 0,.bool false,.int .u64 0]) ?_ 0 _ rfl
  exact HX5.out) Tryz.underlying155 rfl (by kernel_rfl)) rfl ?_
 exact ⟨rfl,by repeat (first | exact HI5.out | refine zax.far ?_ hNB _),by repeat (first | exact HB5.out | refine zba ?_ hGE),by repeat (first | exact HK5.out | refine zct ?_ hGW _)⟩
end Go.Proofs.YtkgdhdjkpnalmaaGreatDoor.P
end
