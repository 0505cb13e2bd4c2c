/- What is proved here: a part of the proof of ElectionChangedVote: Px62, Ere. No conditions beside those that each theorem states. -/
import Derived.Test.YtkgdhdjkpnalmaaGreatDoorKECVte4
import Derived.Deep.RegionHeld3
import Derived.Deep.QuietTactic
set_option linter.unusedVariables false
set_option linter.unusedSimpArgs false
section
namespace Go.Proofs.YtkgdhdjkpnalmaaGreatDoor.P
open Go.RowKit Go.Proofs.YtkgdhdjkpnalmaaGreatDoorW.PrintWords Go.Proofs.YtkgdhdjkpnalmaaGreatDoorW.PrintLast Go.Proofs.YtkgdhdjkpnalmaaGreatDoorW.PrintMore
attribute [local go_sem] zcd zca zci zcj zb1 zb2 zcc zcb
def zbw.l0 : Nat→List ByteArray→ByteArray→Int→Option (Int)
 | 0,_,_,_ => none
 | k + 1,x0,x1,x5 => if x5 ≥ 0 then (if 0≤x5 then (if x5 < (x0.length : Int) then (if (rdOf ByteArray.empty x0 x5).toList = x1.toList then (some x5) else (zbw.l0 k x0 x1 (wrap64 (x5 - 1)))) else (none)) else (none)) else (some (-1))
def zbw.f (k : Nat) (l0 : List ByteArray) (a1 : ByteArray) : Option (Int):=zbw.l0 k l0 a1 (wrap64 ((l0.length : Int) - 1))
theorem zbw.mono_l : ∀ k,(∀ y0 y1 y2,LeO (zbw.l0 k y0 y1 y2) (zbw.l0 (k + 1) y0 y1 y2))
 | 0 => fun _ _ _ r h => by simp [zbw.l0] at h
 | k + 1 => by
  have ih0:=zbw.mono_l k
  ·intro y0 y1 y2
   unfold zbw.l0
   exact yq11
theorem zbw.mono : ∀ a0 a1 k,LeO (zbw.f k a0 a1) (zbw.f (k + 1) a0 a1):=by
 intro a0 a1 k;have ih0:=zbw.mono_l k;unfold zbw.f
 exact yq11
set_option maxHeartbeats 8000000 in
set_option maxRecDepth 100000 in
theorem zbw.calls (k : Nat) (A0 : Option Addr) (c0 : Nat) (l0 : List ByteArray) (a1 : ByteArray) (r : Int) (w : World) (hr0 : Kd.C Kd.string w A0 l0.length l0) (hc0 : l0.length≤c0) (h : zbw.f k l0 a1 = some r) :
  Calls Tryz.prog 51 #[.slice A0 l0.length c0,.string a1] w fun e w' => e = .returned (.int .i64 r)∧zdl w w':=by
 have HR0:=zA0 hr0;have HC0:=zA0 hc0;clear hr0 hc0;have H : (zbw.l0 k l0 a1 (wrap64 ((l0.length : Int) - 1))) = some r:=h;clear h;have H':=zA0 H;clear H;go_enter Tryz.func51,Tryz.ntmps51;go_wp2
 go_loopg [5] k (fun kq v5 w' => ∃ (x5_1 : Int),v5 = .int .i64 x5_1∧Aside0 (zbw.l0 kq l0 a1 x5_1 = some r)∧Aside0 (kq≤k)∧zdl w w')
 case atStart => exact ⟨(wrap64 ((l0.length : Int) - 1)),yq6,H',⟨Nat.le_refl _⟩,yq17⟩
 case round =>
  clear H';obtain ⟨x5_1,rfl,HA,HK1,⟨m1,rfl⟩⟩:=hrel
  cases gk with
  | zero => exact absurd HA.out (by simp [zbw.l0])
  | succ k1 =>
   have H:=HA.out;clear HA;simp only [zbw.l0] at H
   by_cases c3 : x5_1 ≥ 0
   ·rw [if_pos c3] at H
    have c3b0 : decide (0≤x5_1) = true:=decide_eq_true c3;clear c3
    by_cases c4 : 0≤x5_1
    ·rw [if_pos c4] at H
     have c4b0 : decide (0≤x5_1) = true:=decide_eq_true c4;clear c4
     by_cases c5 : x5_1 < (l0.length : Int)
     ·rw [if_pos c5] at H
      have c5b0 : decide (x5_1 < (l0.length : Int)) = true:=decide_eq_true c5;clear c5
      by_cases c6 : (rdOf ByteArray.empty l0 x5_1).toList = a1.toList
      ·rw [if_pos c6] at H
       have c6b0 : ((rdOf ByteArray.empty l0 x5_1).toList == a1.toList) = true:=beq_iff_eq.mpr c6;have c6b1 : ((rdOf ByteArray.empty l0 x5_1).toList != a1.toList) = false:=bne_eq_false_iff_eq.mpr c6;clear c6;obtain rfl:=Option.some.inj H;have p610 : 0≤(x5_1 : Int):=of_decide_eq_true yq3;have q610 : x5_1 < (l0.length : Int):=of_decide_eq_true yq3;obtain ⟨ad610,e610,hx610_0⟩:=Kd.at_string HR0.out x5_1 p610 q610;cases e610;replace p610:=eq_true p610;replace q610:=eq_true q610;go_wp2;go_ret;exact ⟨yq6,yq17⟩
      ·rw [if_neg c6] at H
       have c6b0 : ((rdOf ByteArray.empty l0 x5_1).toList == a1.toList) = false:=beq_eq_false_iff_ne.mpr c6;have c6b1 : ((rdOf ByteArray.empty l0 x5_1).toList != a1.toList) = true:=bne_iff_ne.mpr c6;have H':=zA0 H;clear H;have p610 : 0≤(x5_1 : Int):=of_decide_eq_true yq3;have q610 : x5_1 < (l0.length : Int):=of_decide_eq_true yq3;obtain ⟨ad610,e610,hx610_0⟩:=Kd.at_string HR0.out x5_1 p610 q610;cases e610;replace p610:=eq_true p610;replace q610:=eq_true q610;go_wp2
       go_roundg k1
       case measure => have:=HK1.out;omega
       case rel => exact ⟨(wrap64 (x5_1 - 1)),yq6,H',⟨yq95⟩,yq17⟩
     ·rw [if_neg c5] at H
      exact absurd H (by simp)
    ·rw [if_neg c4] at H
     exact absurd H (by simp)
   ·rw [if_neg c3] at H
    have c3b0 : decide (0≤x5_1) = false:=decide_eq_false c3;clear c3;obtain rfl:=Option.some.inj H;go_wp2;go_ret;exact ⟨yq6,yq17⟩
end Go.Proofs.YtkgdhdjkpnalmaaGreatDoor.P
end
section
namespace Go.Proofs.YtkgdhdjkpnalmaaGreatDoor.P
open Go.RowKit Go.Proofs.YtkgdhdjkpnalmaaGreatDoorW.PrintWords Go.Proofs.YtkgdhdjkpnalmaaGreatDoorW.PrintLast Go.Proofs.YtkgdhdjkpnalmaaGreatDoorW.PrintMore
abbrev EX:=S117
def St30 (w : World) (g : Nat) (ns : List ByteArray) (vs : List Int) (v : Value) : Prop :=
  ∃ A a B b,w.heap[g]? = some (.cells #[.slice A ns.length a,.slice B vs.length b,.slice none 0 0,.slice none 0 0,v] 82 (0,0))∧ns.length≤a∧vs.length≤b∧Kd.C Kd.string w A ns.length ns∧Kd.C (Kd.int .u64) w B vs.length vs
theorem St30.below {w w' : World} {g : Nat} {ns : List ByteArray} {vs : List Int} {v : Value} (h : St30 w g ns vs v) (hb : Below w.heap.size w w') : St30 w' g ns vs v:=by
  obtain ⟨A,a,B,b,hg,h1,h2,h3,h4⟩:=h;exact ⟨A,a,B,b,(hb.block g (zcs hg)).trans hg,h1,h2,Kd.C_below h3 hb,Kd.C_below h4 hb⟩
theorem St30.drew {w : World} {g : Nat} {ns : List ByteArray} {vs : List Int} {v : Value} (h : St30 w g ns vs v) : St30 w.drew g ns vs v:=h.below ((Below.refl _ w).drew)
def ev : Nat→List ByteArray→List Int→Int→Int→Int→ByteArray→List EX→Option Int
  | 0,_,_,_,_,_,_,_ => none
  | k + 1,ns,vs,e0,e1,e2,e3,e4 =>
    if e0 = 1 then some e2
    else if e0 = 2 then ((zbw.f k ns e3).bind fun i => if 0≤i then (if i < (vs.length : Int) then some (rd vs i) else none) else none)
    else if e0 = 4 then (if e4.length = 2 then ((ev k ns vs (zad e4 0).f0 (zad e4 0).f1 (zad e4 0).f2 (zad e4 0).f3 (zad e4 0).f4).bind fun x => ((ev k ns vs (zad e4 1).f0 (zad e4 1).f1 (zad e4 1).f2 (zad e4 1).f3 (zad e4 1).f4).bind fun y => zd3.f e1 x y)) else none)
    else if e0 = 6 then (if e4.length = 3 then ((ev k ns vs (zad e4 0).f0 (zad e4 0).f1 (zad e4 0).f2 (zad e4 0).f3 (zad e4 0).f4).bind fun x => (if x = 0 then (ev k ns vs (zad e4 2).f0 (zad e4 2).f1 (zad e4 2).f2 (zad e4 2).f3 (zad e4 2).f4) else (ev k ns vs (zad e4 1).f0 (zad e4 1).f1 (zad e4 1).f2 (zad e4 1).f3 (zad e4 1).f4))) else none)
    else none
abbrev ExC (g k : Nat) : Prop:=∀ (ns : List ByteArray) (vs : List Int) (v : Value) (e0 e1 e2 : Int) (e3 : ByteArray) (A4 : Option Addr) (c4 : Nat) (e4 : List EX) (r : Int) (w : World),St30 w g ns vs v→Kd.C k117 w A4 e4.length e4→e4.length≤c4→ev k ns vs e0 e1 e2 e3 e4 = some r →
    Calls Tryz.prog 52 #[.pointer (some ⟨g,0,none⟩),.agg #[.int .i64 e0,.int .i64 e1,.int .u64 e2,.string e3,.slice A4 e4.length c4]] w fun e w' => e = .returned (.int .u64 r)∧Below w.heap.size w w'
set_option maxHeartbeats 4000000 in
set_option maxRecDepth 100000 in
theorem expr_num (g : Nat) (e1 e2 : Int) (e3 : ByteArray) (A4 : Option Addr) (c4 : Nat) (e4 : List EX) (w : World) :
    Calls Tryz.prog 52 #[.pointer (some ⟨g,0,none⟩),.agg #[.int .i64 1,.int .i64 e1,.int .u64 e2,.string e3,.slice A4 e4.length c4]] w fun e w' => e = .returned (.int .u64 e2)∧Below w.heap.size w w':=by
  go_enter Tryz.func52,Tryz.ntmps52
  go_upto_region 1 with (first | ((with_reducible refine zbm (N:=3) rfl ?_);(try (refine zcy (by rfl) ?_;dsimp only));refine zbk ?hg (N:=3) ?hd (cs:=#[.int .i64 1,.int .i64 e1,.int .u64 e2,.string e3,.slice A4 e4.length c4]) (t:=117) ?hr ?_;(case hd => rfl);(case hg => rfl);(case hr => first | (go_simp;done) | (go_simp;rfl));intro gb hgb w1 hbx hbb;clear hgb))
  have y0 : w1.cell? ⟨gb,0,none⟩ = some (.int .i64 1):=(zbf hbx 0).trans rfl;have y2 : w1.cell? ⟨gb,2,none⟩ = some (.int .u64 e2):=(zbf hbx 2).trans rfl;clear hbx;go_wp2;go_ret;exact ⟨rfl,hbb⟩
set_option maxHeartbeats 4000000 in
set_option maxRecDepth 100000 in
theorem expr_var (g k : Nat) (ns : List ByteArray) (vs : List Int) (v : Value) (e1 e2 : Int) (e3 : ByteArray) (A4 : Option Addr) (c4 : Nat) (e4 : List EX) (i : Int) (w : World) (hS : St30 w g ns vs v) (hf : zbw.f k ns e3 = some i) (i0 : 0≤i) (i1 : i < (vs.length : Int)) :
    Calls Tryz.prog 52 #[.pointer (some ⟨g,0,none⟩),.agg #[.int .i64 2,.int .i64 e1,.int .u64 e2,.string e3,.slice A4 e4.length c4]] w fun e w' => e = .returned (.int .u64 (rd vs i))∧Below w.heap.size w w':=by
  go_enter Tryz.func52,Tryz.ntmps52
  go_upto_region 1 with (first | ((with_reducible refine zbm (N:=3) rfl ?_);(try (refine zcy (by rfl) ?_;dsimp only));refine zbk ?hg (N:=3) ?hd (cs:=#[.int .i64 2,.int .i64 e1,.int .u64 e2,.string e3,.slice A4 e4.length c4]) (t:=117) ?hr ?_;(case hd => rfl);(case hg => rfl);(case hr => first | (go_simp;done) | (go_simp;rfl));intro gb hgb w1 hbx hbb;clear hgb))
  have y0 : w1.cell? ⟨gb,0,none⟩ = some (.int .i64 2):=(zbf hbx 0).trans rfl;have y3 : w1.cell? ⟨gb,3,none⟩ = some (.string e3):=(zbf hbx 3).trans rfl;obtain ⟨A,a,B,b,HG,h1,h2,h3,h4⟩:=hS.below hbb;have z0 : w1.cell? ⟨g,0,none⟩ = some (.slice A ns.length a):=(zbf HG 0).trans rfl;have z1 : w1.cell? ⟨g,1,none⟩ = some (.slice B vs.length b):=(zbf HG 1).trans rfl;obtain ⟨ad,e0,x0⟩:=Kd.at_int h4 i i0 i1;cases e0;have i0t:=eq_true i0;have i1t:=eq_true i1;have FN:=zA0 (fun (W : World) (hW : Kd.C Kd.string W A ns.length ns) => zbw.calls k A a ns e3 i W hW h1 hf);have H3:=zA0 h3;clear hbx HG h3 h4 hS hf
  go_upto_region 5 with (fail)
  go_quiet (first | (go_at_call 51;refine Calls.quiet_of ((FN.out _ (by first | exact H3.out | exact Kd.C_drewN H3.out _)).mono fun e w' h => ⟨h.1,h.2.out⟩)))
  go_wp2;go_ret;exact ⟨rfl,by first | exact za5 hbb _ | exact hbb⟩
theorem two_kids {w : World} {A : Option Addr} {xs : List EX} (h : Kd.C k117 w A xs.length xs) (hl : xs.length = 2) : ∃ ad K0 c0 K1 c1,A = some ad∧(w.cell? ad = some (.int .i64 (zad xs 0).f0)∧w.cell? ⟨ad.block,ad.off + 1,none⟩ = some (.int .i64 (zad xs 0).f1)∧w.cell? ⟨ad.block,ad.off + 2,none⟩ = some (.int .u64 (zad xs 0).f2)∧w.cell? ⟨ad.block,ad.off + 3,none⟩ = some (.string (zad xs 0).f3)∧w.cell? ⟨ad.block,ad.off + 4,none⟩ = some (.slice K0 (zad xs 0).f4.length c0)∧w.cell? ⟨ad.block,ad.off + 5,none⟩ = some (.int .i64 (zad xs 1).f0)∧w.cell? ⟨ad.block,ad.off + 5 + 1,none⟩ = some (.int .i64 (zad xs 1).f1)∧w.cell? ⟨ad.block,ad.off + 5 + 2,none⟩ = some (.int .u64 (zad xs 1).f2)∧w.cell? ⟨ad.block,ad.off + 5 + 3,none⟩ = some (.string (zad xs 1).f3)∧w.cell? ⟨ad.block,ad.off + 5 + 4,none⟩ = some (.slice K1 (zad xs 1).f4.length c1))∧((zad xs 0).f4.length≤c0∧k117.C w K0 (zad xs 0).f4.length (zad xs 0).f4)∧(zad xs 1).f4.length≤c1∧k117.C w K1 (zad xs 1).f4.length (zad xs 1).f4:=by
  obtain ⟨ad,K0,c0,eA,u0,u1,u2,u3,u4,m0,n0⟩:=zea h 0 (by omega) (by omega);obtain ⟨ad',K1,c1,eA',v0,v1,v2,v3,v4,m1,n1⟩:=zea h 1 (by omega) (by omega);cases eA;cases eA';(try rw [show ((0 : Int)).toNat = 0 from rfl] at u0);(try rw [show 0 * 5 = 0 from rfl] at u0);(try rw [Addr.add_zero'] at u0);(try rw [show ((0 : Int)).toNat = 0 from rfl] at u1);(try rw [show 0 * 5 = 0 from rfl] at u1);(try rw [Addr.add_zero'] at u1);(try rw [show ((0 : Int)).toNat = 0 from rfl] at u2);(try rw [show 0 * 5 = 0 from rfl] at u2);(try rw [Addr.add_zero'] at u2);(try rw [show ((0 : Int)).toNat = 0 from rfl] at u3);(try rw [show 0 * 5 = 0 from rfl] at u3);(try rw [Addr.add_zero'] at u3);(try rw [show ((0 : Int)).toNat = 0 from rfl] at u4);(try rw [show 0 * 5 = 0 from rfl] at u4);(try rw [Addr.add_zero'] at u4);(try rw [show ((1 : Int)).toNat = 1 from rfl] at v0);(try rw [show 1 * 5 = 5 from rfl] at v0);rw [show ad.add 5 = ⟨ad.block,ad.off + 5,none⟩ from rfl] at v0;(try rw [show ((1 : Int)).toNat = 1 from rfl] at v1);(try rw [show 1 * 5 = 5 from rfl] at v1);rw [show ad.add 5 = ⟨ad.block,ad.off + 5,none⟩ from rfl] at v1;(try rw [show ((1 : Int)).toNat = 1 from rfl] at v2);(try rw [show 1 * 5 = 5 from rfl] at v2);rw [show ad.add 5 = ⟨ad.block,ad.off + 5,none⟩ from rfl] at v2;(try rw [show ((1 : Int)).toNat = 1 from rfl] at v3);(try rw [show 1 * 5 = 5 from rfl] at v3);rw [show ad.add 5 = ⟨ad.block,ad.off + 5,none⟩ from rfl] at v3;(try rw [show ((1 : Int)).toNat = 1 from rfl] at v4);(try rw [show 1 * 5 = 5 from rfl] at v4);rw [show ad.add 5 = ⟨ad.block,ad.off + 5,none⟩ from rfl] at v4;exact ⟨ad,K0,c0,K1,c1,rfl,⟨u0,u1,u2,u3,u4,v0,v1,v2,v3,v4⟩,⟨m0,n0⟩,m1,n1⟩
set_option maxHeartbeats 4000000 in
set_option maxRecDepth 100000 in
theorem expr_op (g k : Nat) (ih : ExC g k) (ns : List ByteArray) (vs : List Int) (v : Value) (e1 e2 : Int) (e3 : ByteArray) (A4 : Option Addr) (c4 : Nat) (e4 : List EX) (x y r : Int) (w : World) (hS : St30 w g ns vs v) (hr4 : Kd.C k117 w A4 e4.length e4) (hl : e4.length = 2)
    (hx : ev k ns vs (zad e4 0).f0 (zad e4 0).f1 (zad e4 0).f2 (zad e4 0).f3 (zad e4 0).f4 = some x) (hy : ev k ns vs (zad e4 1).f0 (zad e4 1).f1 (zad e4 1).f2 (zad e4 1).f3 (zad e4 1).f4 = some y) (h : zd3.f e1 x y = some r) :
    Calls Tryz.prog 52 #[.pointer (some ⟨g,0,none⟩),.agg #[.int .i64 4,.int .i64 e1,.int .u64 e2,.string e3,.slice A4 e4.length c4]] w fun e w' => e = .returned (.int .u64 r)∧Below w.heap.size w w':=by
  rw [hl];go_enter Tryz.func52,Tryz.ntmps52
  go_upto_region 1 with (first | ((with_reducible refine zbm (N:=3) rfl ?_);(try (refine zcy (by rfl) ?_;dsimp only));refine zbk ?hg (N:=3) ?hd (cs:=#[.int .i64 4,.int .i64 e1,.int .u64 e2,.string e3,.slice A4 2 c4]) (t:=117) ?hr ?_;(case hd => rfl);(case hg => rfl);(case hr => first | (go_simp;done) | (go_simp;rfl));intro gb hgb w1 hbx hbb;clear hgb))
  have b0 : w1.cell? ⟨gb,0,none⟩ = some (.int .i64 4):=(zbf hbx 0).trans rfl;have b1 : w1.cell? ⟨gb,1,none⟩ = some (.int .i64 e1):=(zbf hbx 1).trans rfl;have b4 : w1.cell? ⟨gb,4,none⟩ = some (.slice A4 2 c4):=(zbf hbx 4).trans rfl;obtain ⟨ad,K0,c0,K1,c1,rfl,⟨u0,u1,u2,u3,u4,v0,v1,v2,v3,v4⟩,⟨m0,n0⟩,m1,n1⟩:=two_kids (Kd.C_below hr4 hbb) hl;have hu:=Tryz.underlying117;have HX:=zA0 hx;have HY:=zA0 hy;have HO:=zA0 h;have HS:=zA0 (hS.below hbb);have N0:=zA0 n0;have N1:=zA0 n1;have HB:=zA0 hbb;have ihA:=zA0 ih;clear hbx hr4 hx hy h hS n0 n1 hbb ih
  go_upto_region 9 with (fail)
  go_region_held3 (fun w' => w'.cell? ad = some (.int .i64 (zad e4 0).f0)∧w'.cell? ⟨ad.block,ad.off + 1,none⟩ = some (.int .i64 (zad e4 0).f1)∧w'.cell? ⟨ad.block,ad.off + 2,none⟩ = some (.int .u64 (zad e4 0).f2)∧w'.cell? ⟨ad.block,ad.off + 3,none⟩ = some (.string (zad e4 0).f3)∧w'.cell? ⟨ad.block,ad.off + 4,none⟩ = some (.slice K0 (zad e4 0).f4.length c0)∧w'.cell? ⟨ad.block,ad.off + 5,none⟩ = some (.int .i64 (zad e4 1).f0)∧w'.cell? ⟨ad.block,ad.off + 5 + 1,none⟩ = some (.int .i64 (zad e4 1).f1)∧w'.cell? ⟨ad.block,ad.off + 5 + 2,none⟩ = some (.int .u64 (zad e4 1).f2)∧w'.cell? ⟨ad.block,ad.off + 5 + 3,none⟩ = some (.string (zad e4 1).f3)∧w'.cell? ⟨ad.block,ad.off + 5 + 4,none⟩ = some (.slice K1 (zad e4 1).f4.length c1)∧w'.cell? ⟨gb,1,none⟩ = some (.int .i64 e1)∧w'.cell? ⟨gb,4,none⟩ = some (.slice (some ad) 2 c4))
    (first | exact ⟨u0,u1,u2,u3,u4,v0,v1,v2,v3,v4,b1,b4⟩ | assumption)
    (first
    | (go_at_call 69;refine (zd3.calls _ _ _ _ _ HO.out).mono ?_;rintro e w4 ⟨rfl,hb4⟩
       obtain ⟨n4,rfl⟩:=hb4.out
       have q4 : (w3.drewN n4).cell? ad = some (.int .i64 (zad e4 0).f0)∧(w3.drewN n4).cell? ⟨ad.block,ad.off + 1,none⟩ = some (.int .i64 (zad e4 0).f1)∧(w3.drewN n4).cell? ⟨ad.block,ad.off + 2,none⟩ = some (.int .u64 (zad e4 0).f2)∧(w3.drewN n4).cell? ⟨ad.block,ad.off + 3,none⟩ = some (.string (zad e4 0).f3)∧(w3.drewN n4).cell? ⟨ad.block,ad.off + 4,none⟩ = some (.slice K0 (zad e4 0).f4.length c0)∧(w3.drewN n4).cell? ⟨ad.block,ad.off + 5,none⟩ = some (.int .i64 (zad e4 1).f0)∧(w3.drewN n4).cell? ⟨ad.block,ad.off + 5 + 1,none⟩ = some (.int .i64 (zad e4 1).f1)∧(w3.drewN n4).cell? ⟨ad.block,ad.off + 5 + 2,none⟩ = some (.int .u64 (zad e4 1).f2)∧(w3.drewN n4).cell? ⟨ad.block,ad.off + 5 + 3,none⟩ = some (.string (zad e4 1).f3)∧(w3.drewN n4).cell? ⟨ad.block,ad.off + 5 + 4,none⟩ = some (.slice K1 (zad e4 1).f4.length c1)∧(w3.drewN n4).cell? ⟨gb,1,none⟩ = some (.int .i64 e1)∧(w3.drewN n4).cell? ⟨gb,4,none⟩ = some (.slice (some ad) 2 c4):=q3)
    | (go_at_call 52;refine (ihA.out ns vs v (zad e4 1).f0 (zad e4 1).f1 (zad e4 1).f2 (zad e4 1).f3 K1 c1 (zad e4 1).f4 y w2 HS2.out N2.out m1 HY.out).mono ?_;rintro e w3 ⟨rfl,hb3⟩
       obtain ⟨ru0,ru1,ru2,ru3,ru4,rv0,rv1,rv2,rv3,rv4,rb1,rb4⟩:=q2
       have q3 : w3.cell? ad = some (.int .i64 (zad e4 0).f0)∧w3.cell? ⟨ad.block,ad.off + 1,none⟩ = some (.int .i64 (zad e4 0).f1)∧w3.cell? ⟨ad.block,ad.off + 2,none⟩ = some (.int .u64 (zad e4 0).f2)∧w3.cell? ⟨ad.block,ad.off + 3,none⟩ = some (.string (zad e4 0).f3)∧w3.cell? ⟨ad.block,ad.off + 4,none⟩ = some (.slice K0 (zad e4 0).f4.length c0)∧w3.cell? ⟨ad.block,ad.off + 5,none⟩ = some (.int .i64 (zad e4 1).f0)∧w3.cell? ⟨ad.block,ad.off + 5 + 1,none⟩ = some (.int .i64 (zad e4 1).f1)∧w3.cell? ⟨ad.block,ad.off + 5 + 2,none⟩ = some (.int .u64 (zad e4 1).f2)∧w3.cell? ⟨ad.block,ad.off + 5 + 3,none⟩ = some (.string (zad e4 1).f3)∧w3.cell? ⟨ad.block,ad.off + 5 + 4,none⟩ = some (.slice K1 (zad e4 1).f4.length c1)∧w3.cell? ⟨gb,1,none⟩ = some (.int .i64 e1)∧w3.cell? ⟨gb,4,none⟩ = some (.slice (some ad) 2 c4):=⟨(hb3.cell (World.block_lt_of_cell? _ _ ru0)).trans ru0,(hb3.cell (World.block_lt_of_cell? _ _ ru1)).trans ru1,(hb3.cell (World.block_lt_of_cell? _ _ ru2)).trans ru2,(hb3.cell (World.block_lt_of_cell? _ _ ru3)).trans ru3,(hb3.cell (World.block_lt_of_cell? _ _ ru4)).trans ru4,(hb3.cell (World.block_lt_of_cell? _ _ rv0)).trans rv0,(hb3.cell (World.block_lt_of_cell? _ _ rv1)).trans rv1,(hb3.cell (World.block_lt_of_cell? _ _ rv2)).trans rv2,(hb3.cell (World.block_lt_of_cell? _ _ rv3)).trans rv3,(hb3.cell (World.block_lt_of_cell? _ _ rv4)).trans rv4,(hb3.cell (World.block_lt_of_cell? _ _ rb1)).trans rb1,(hb3.cell (World.block_lt_of_cell? _ _ rb4)).trans rb4⟩
       have HB3:=zA0 (zaj HB2.out hb3)
       clear hb3)
    | (go_at_call 52;refine (ihA.out ns vs v (zad e4 0).f0 (zad e4 0).f1 (zad e4 0).f2 (zad e4 0).f3 K0 c0 (zad e4 0).f4 x w1.drew (St30.drew HS.out) (Kd.C_drew N0.out) m0 HX.out).mono ?_;rintro e w2 ⟨rfl,hb2⟩
       have q2 : w2.cell? ad = some (.int .i64 (zad e4 0).f0)∧w2.cell? ⟨ad.block,ad.off + 1,none⟩ = some (.int .i64 (zad e4 0).f1)∧w2.cell? ⟨ad.block,ad.off + 2,none⟩ = some (.int .u64 (zad e4 0).f2)∧w2.cell? ⟨ad.block,ad.off + 3,none⟩ = some (.string (zad e4 0).f3)∧w2.cell? ⟨ad.block,ad.off + 4,none⟩ = some (.slice K0 (zad e4 0).f4.length c0)∧w2.cell? ⟨ad.block,ad.off + 5,none⟩ = some (.int .i64 (zad e4 1).f0)∧w2.cell? ⟨ad.block,ad.off + 5 + 1,none⟩ = some (.int .i64 (zad e4 1).f1)∧w2.cell? ⟨ad.block,ad.off + 5 + 2,none⟩ = some (.int .u64 (zad e4 1).f2)∧w2.cell? ⟨ad.block,ad.off + 5 + 3,none⟩ = some (.string (zad e4 1).f3)∧w2.cell? ⟨ad.block,ad.off + 5 + 4,none⟩ = some (.slice K1 (zad e4 1).f4.length c1)∧w2.cell? ⟨gb,1,none⟩ = some (.int .i64 e1)∧w2.cell? ⟨gb,4,none⟩ = some (.slice (some ad) 2 c4):=⟨(hb2.cell (World.block_lt_of_cell? _ _ u0)).trans u0,(hb2.cell (World.block_lt_of_cell? _ _ u1)).trans u1,(hb2.cell (World.block_lt_of_cell? _ _ u2)).trans u2,(hb2.cell (World.block_lt_of_cell? _ _ u3)).trans u3,(hb2.cell (World.block_lt_of_cell? _ _ u4)).trans u4,(hb2.cell (World.block_lt_of_cell? _ _ v0)).trans v0,(hb2.cell (World.block_lt_of_cell? _ _ v1)).trans v1,(hb2.cell (World.block_lt_of_cell? _ _ v2)).trans v2,(hb2.cell (World.block_lt_of_cell? _ _ v3)).trans v3,(hb2.cell (World.block_lt_of_cell? _ _ v4)).trans v4,(hb2.cell (World.block_lt_of_cell? _ _ b1)).trans b1,(hb2.cell (World.block_lt_of_cell? _ _ b4)).trans b4⟩
       have HS2:=zA0 (HS.out.drew.below hb2);have N2:=zA0 (Kd.C_below (Kd.C_drew N1.out) hb2);have HB2:=zA0 (zaj (zbr HB.out) hb2)
       clear hb2))
  go_wp2;go_ret;exact ⟨rfl,za5 HB3.out _⟩
theorem kid0 {w : World} {A : Option Addr} {xs : List EX} (h : Kd.C k117 w A xs.length xs) (hl : 0 < xs.length) : ∃ ad K c,A = some ad∧(w.cell? ad = some (.int .i64 (zad xs 0).f0)∧w.cell? ⟨ad.block,ad.off + 1,none⟩ = some (.int .i64 (zad xs 0).f1)∧w.cell? ⟨ad.block,ad.off + 2,none⟩ = some (.int .u64 (zad xs 0).f2)∧w.cell? ⟨ad.block,ad.off + 3,none⟩ = some (.string (zad xs 0).f3)∧w.cell? ⟨ad.block,ad.off + 4,none⟩ = some (.slice K (zad xs 0).f4.length c))∧(zad xs 0).f4.length≤c∧k117.C w K (zad xs 0).f4.length (zad xs 0).f4:=by
  obtain ⟨ad,K,c,eA,u0,u1,u2,u3,u4,m,n⟩:=zea h 0 (by omega) (by omega);cases eA;(try rw [show ((0 : Int)).toNat = 0 from rfl] at u0);(try rw [show 0 * 5 = 0 from rfl] at u0);(try rw [Addr.add_zero'] at u0);(try rw [show ((0 : Int)).toNat = 0 from rfl] at u1);(try rw [show 0 * 5 = 0 from rfl] at u1);(try rw [Addr.add_zero'] at u1);(try rw [show ((0 : Int)).toNat = 0 from rfl] at u2);(try rw [show 0 * 5 = 0 from rfl] at u2);(try rw [Addr.add_zero'] at u2);(try rw [show ((0 : Int)).toNat = 0 from rfl] at u3);(try rw [show 0 * 5 = 0 from rfl] at u3);(try rw [Addr.add_zero'] at u3);(try rw [show ((0 : Int)).toNat = 0 from rfl] at u4);(try rw [show 0 * 5 = 0 from rfl] at u4);(try rw [Addr.add_zero'] at u4);exact ⟨ad,K,c,rfl,⟨u0,u1,u2,u3,u4⟩,m,n⟩
theorem kid1 {w : World} {A : Option Addr} {xs : List EX} (h : Kd.C k117 w A xs.length xs) (hl : 1 < xs.length) : ∃ ad K c,A = some ad∧(w.cell? ⟨ad.block,ad.off + 5,none⟩ = some (.int .i64 (zad xs 1).f0)∧w.cell? ⟨ad.block,ad.off + 5 + 1,none⟩ = some (.int .i64 (zad xs 1).f1)∧w.cell? ⟨ad.block,ad.off + 5 + 2,none⟩ = some (.int .u64 (zad xs 1).f2)∧w.cell? ⟨ad.block,ad.off + 5 + 3,none⟩ = some (.string (zad xs 1).f3)∧w.cell? ⟨ad.block,ad.off + 5 + 4,none⟩ = some (.slice K (zad xs 1).f4.length c))∧(zad xs 1).f4.length≤c∧k117.C w K (zad xs 1).f4.length (zad xs 1).f4:=by
  obtain ⟨ad,K,c,eA,u0,u1,u2,u3,u4,m,n⟩:=zea h 1 (by omega) (by omega);cases eA;(try rw [show ((1 : Int)).toNat = 1 from rfl] at u0);(try rw [show 1 * 5 = 5 from rfl] at u0);rw [show ad.add 5 = ⟨ad.block,ad.off + 5,none⟩ from rfl] at u0;(try rw [show ((1 : Int)).toNat = 1 from rfl] at u1);(try rw [show 1 * 5 = 5 from rfl] at u1);rw [show ad.add 5 = ⟨ad.block,ad.off + 5,none⟩ from rfl] at u1;(try rw [show ((1 : Int)).toNat = 1 from rfl] at u2);(try rw [show 1 * 5 = 5 from rfl] at u2);rw [show ad.add 5 = ⟨ad.block,ad.off + 5,none⟩ from rfl] at u2;(try rw [show ((1 : Int)).toNat = 1 from rfl] at u3);(try rw [show 1 * 5 = 5 from rfl] at u3);rw [show ad.add 5 = ⟨ad.block,ad.off + 5,none⟩ from rfl] at u3;(try rw [show ((1 : Int)).toNat = 1 from rfl] at u4);(try rw [show 1 * 5 = 5 from rfl] at u4);rw [show ad.add 5 = ⟨ad.block,ad.off + 5,none⟩ from rfl] at u4;exact ⟨ad,K,c,rfl,⟨u0,u1,u2,u3,u4⟩,m,n⟩
theorem kid2 {w : World} {A : Option Addr} {xs : List EX} (h : Kd.C k117 w A xs.length xs) (hl : 2 < xs.length) : ∃ ad K c,A = some ad∧(w.cell? ⟨ad.block,ad.off + 10,none⟩ = some (.int .i64 (zad xs 2).f0)∧w.cell? ⟨ad.block,ad.off + 10 + 1,none⟩ = some (.int .i64 (zad xs 2).f1)∧w.cell? ⟨ad.block,ad.off + 10 + 2,none⟩ = some (.int .u64 (zad xs 2).f2)∧w.cell? ⟨ad.block,ad.off + 10 + 3,none⟩ = some (.string (zad xs 2).f3)∧w.cell? ⟨ad.block,ad.off + 10 + 4,none⟩ = some (.slice K (zad xs 2).f4.length c))∧(zad xs 2).f4.length≤c∧k117.C w K (zad xs 2).f4.length (zad xs 2).f4:=by
  obtain ⟨ad,K,c,eA,u0,u1,u2,u3,u4,m,n⟩:=zea h 2 (by omega) (by omega);cases eA;(try rw [show ((2 : Int)).toNat = 2 from rfl] at u0);(try rw [show 2 * 5 = 10 from rfl] at u0);rw [show ad.add 10 = ⟨ad.block,ad.off + 10,none⟩ from rfl] at u0;(try rw [show ((2 : Int)).toNat = 2 from rfl] at u1);(try rw [show 2 * 5 = 10 from rfl] at u1);rw [show ad.add 10 = ⟨ad.block,ad.off + 10,none⟩ from rfl] at u1;(try rw [show ((2 : Int)).toNat = 2 from rfl] at u2);(try rw [show 2 * 5 = 10 from rfl] at u2);rw [show ad.add 10 = ⟨ad.block,ad.off + 10,none⟩ from rfl] at u2;(try rw [show ((2 : Int)).toNat = 2 from rfl] at u3);(try rw [show 2 * 5 = 10 from rfl] at u3);rw [show ad.add 10 = ⟨ad.block,ad.off + 10,none⟩ from rfl] at u3;(try rw [show ((2 : Int)).toNat = 2 from rfl] at u4);(try rw [show 2 * 5 = 10 from rfl] at u4);rw [show ad.add 10 = ⟨ad.block,ad.off + 10,none⟩ from rfl] at u4;exact ⟨ad,K,c,rfl,⟨u0,u1,u2,u3,u4⟩,m,n⟩
set_option maxHeartbeats 4000000 in
set_option maxRecDepth 100000 in
theorem expr_sel (g k : Nat) (ih : ExC g k) (ns : List ByteArray) (vs : List Int) (v : Value) (e1 e2 : Int) (e3 : ByteArray) (A4 : Option Addr) (c4 : Nat) (e4 : List EX) (x r : Int) (w : World) (hS : St30 w g ns vs v) (hr4 : Kd.C k117 w A4 e4.length e4) (hl : e4.length = 3)
    (hx : ev k ns vs (zad e4 0).f0 (zad e4 0).f1 (zad e4 0).f2 (zad e4 0).f3 (zad e4 0).f4 = some x) (hy : (if x = 0 then ev k ns vs (zad e4 2).f0 (zad e4 2).f1 (zad e4 2).f2 (zad e4 2).f3 (zad e4 2).f4 else ev k ns vs (zad e4 1).f0 (zad e4 1).f1 (zad e4 1).f2 (zad e4 1).f3 (zad e4 1).f4) = some r) :
    Calls Tryz.prog 52 #[.pointer (some ⟨g,0,none⟩),.agg #[.int .i64 6,.int .i64 e1,.int .u64 e2,.string e3,.slice A4 e4.length c4]] w fun e w' => e = .returned (.int .u64 r)∧Below w.heap.size w w':=by
  rw [hl];go_enter Tryz.func52,Tryz.ntmps52
  go_upto_region 1 with (first | ((with_reducible refine zbm (N:=3) rfl ?_);(try (refine zcy (by rfl) ?_;dsimp only));refine zbk ?hg (N:=3) ?hd (cs:=#[.int .i64 6,.int .i64 e1,.int .u64 e2,.string e3,.slice A4 3 c4]) (t:=117) ?hr ?_;(case hd => rfl);(case hg => rfl);(case hr => first | (go_simp;done) | (go_simp;rfl));intro gb hgb w1 hbx hbb;clear hgb))
  have b0 : w1.cell? ⟨gb,0,none⟩ = some (.int .i64 6):=(zbf hbx 0).trans rfl;have b4 : w1.cell? ⟨gb,4,none⟩ = some (.slice A4 3 c4):=(zbf hbx 4).trans rfl
  have hlt0 : 0 < e4.length:=by omega
  have hlt1 : 1 < e4.length:=by omega
  have hlt2 : 2 < e4.length:=by omega
  obtain ⟨ad,K0,c0,rfl,⟨u0,u1,u2,u3,u4⟩,m0,n0⟩:=kid0 (Kd.C_below hr4 hbb) hlt0;have hu:=Tryz.underlying117;have HX:=zA0 hx;have HY:=zA0 hy;have HS:=zA0 (hS.below hbb);have N0:=zA0 n0;have HR:=zA0 (Kd.C_below hr4 hbb);have HB:=zA0 hbb;have ihA:=zA0 ih;clear hbx hr4 hx hy hS n0 hbb ih
  go_upto_region 12 with (fail)
  go_wp2_with fail
  refine (ihA.out ns vs v (zad e4 0).f0 (zad e4 0).f1 (zad e4 0).f2 (zad e4 0).f3 K0 c0 (zad e4 0).f4 x w1 HS.out N0.out m0 HX.out).mono ?_;rintro e w2 ⟨rfl,hb2⟩;have b4':=(hb2.cell (World.block_lt_of_cell? _ _ b4)).trans b4;have HS2:=zA0 (HS.out.below hb2);have HR2:=zA0 (Kd.C_below HR.out hb2);have HB2:=zA0 (zaj HB.out hb2);clear hb2 b0 b4 u0 u1 u2 u3 u4
  by_cases cx : x = 0
  · have cx1 : (x != 0) = false:=bne_eq_false_iff_eq.mpr cx
    have cx2 : (x == 0) = true:=beq_iff_eq.mpr cx;replace HY:=zA0 (by have:=HY.out;rw [if_pos cx] at this;exact this);obtain ⟨ad',K',c',eA',⟨v0,v1,v2,v3,v4⟩,m',n'⟩:=kid2 HR2.out hlt2;cases eA';have N':=zA0 n';clear n'
    go_wp2_with fail
    refine (ihA.out ns vs v (zad e4 2).f0 (zad e4 2).f1 (zad e4 2).f2 (zad e4 2).f3 K' c' (zad e4 2).f4 r w2 HS2.out N'.out m' HY.out).mono ?_;rintro e w3 ⟨rfl,hb3⟩;have HB3:=zA0 (zaj HB2.out hb3);clear hb3 v0 v1 v2 v3 v4 b4'
    go_wp2_with fail
    go_ret;exact ⟨rfl,HB3.out⟩
  · have cx1 : (x != 0) = true:=bne_iff_ne.mpr cx
    have cx2 : (x == 0) = false:=beq_eq_false_iff_ne.mpr cx;replace HY:=zA0 (by have:=HY.out;rw [if_neg cx] at this;exact this);obtain ⟨ad',K',c',eA',⟨v0,v1,v2,v3,v4⟩,m',n'⟩:=kid1 HR2.out hlt1;cases eA';have N':=zA0 n';clear n'
    go_wp2_with fail
    refine (ihA.out ns vs v (zad e4 1).f0 (zad e4 1).f1 (zad e4 1).f2 (zad e4 1).f3 K' c' (zad e4 1).f4 r w2 HS2.out N'.out m' HY.out).mono ?_;rintro e w3 ⟨rfl,hb3⟩;have HB3:=zA0 (zaj HB2.out hb3);clear hb3 v0 v1 v2 v3 v4 b4'
    go_wp2_with fail
    go_ret;exact ⟨rfl,HB3.out⟩
theorem expr_all (g : Nat) : ∀ k,ExC g k
  | 0 => fun ns vs v e0 e1 e2 e3 A4 c4 e4 r w hS hr hc h => by simp [ev] at h
  | k + 1 => fun ns vs v e0 e1 e2 e3 A4 c4 e4 r w hS hr hc h => by
    have ih:=expr_all g k;unfold ev at h
    by_cases h1 : e0 = 1
    · rw [if_pos h1] at h
      obtain rfl:=Option.some.inj h;subst h1;exact expr_num g e1 e2 e3 A4 c4 e4 w
    rw [if_neg h1] at h
    by_cases h2 : e0 = 2
    · rw [if_pos h2] at h
      obtain ⟨i,hi,h⟩:=Option.bind_eq_some_iff.1 h
      by_cases i0 : 0≤i
      · rw [if_pos i0] at h
        by_cases i1 : i < (vs.length : Int)
        · rw [if_pos i1] at h
          obtain rfl:=Option.some.inj h;subst h2;exact expr_var g k ns vs v e1 e2 e3 A4 c4 e4 i w hS hi i0 i1
        · rw [if_neg i1] at h;cases h
      · rw [if_neg i0] at h;cases h
    rw [if_neg h2] at h
    by_cases h4 : e0 = 4
    · rw [if_pos h4] at h
      by_cases hl : e4.length = 2
      · rw [if_pos hl] at h
        obtain ⟨x,hx,h⟩:=Option.bind_eq_some_iff.1 h;obtain ⟨y,hy,h⟩:=Option.bind_eq_some_iff.1 h;subst h4;exact expr_op g k ih ns vs v e1 e2 e3 A4 c4 e4 x y r w hS hr hl hx hy h
      · rw [if_neg hl] at h;cases h
    rw [if_neg h4] at h
    by_cases h6 : e0 = 6
    · rw [if_pos h6] at h
      by_cases hl : e4.length = 3
      · rw [if_pos hl] at h
        obtain ⟨x,hx,h⟩:=Option.bind_eq_some_iff.1 h;subst h6;exact expr_sel g k ih ns vs v e1 e2 e3 A4 c4 e4 x r w hS hr hl hx h
      · rw [if_neg hl] at h;cases h
    rw [if_neg h6] at h;cases h
end Go.Proofs.YtkgdhdjkpnalmaaGreatDoor.P
end
