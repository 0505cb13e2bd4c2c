/- What is proved here: a part of the proof of ElectionChangedVote: Px24, Px2, Px3. No conditions beside those that each theorem states. -/
import Derived.Test.YtkgdhdjkpnalmaaGreatDoorKECVte4
import Derived.Test.YtkgdhdjkpnalmaaGreatDoorKECVte6
import Derived.Test.YtkgdhdjkpnalmaaGreatDoorKECVte8
set_option linter.unusedVariables false
set_option linter.unusedSimpArgs false
section
namespace Go.Proofs.YtkgdhdjkpnalmaaGreatDoor.P
open Go.RowKit Go.Proofs.YtkgdhdjkpnalmaaGreatDoorW.PrintWords Go.Proofs.YtkgdhdjkpnalmaaGreatDoorW.PrintLast Go.Proofs.YtkgdhdjkpnalmaaGreatDoorW.PrintMore
attribute [local go_sem] zcd zca zci zcj zb1 zb2 zcc zcb
theorem set5_lex {w : World} {b : Nat} {v0 v1 v2 v3 v4 u : Value} (h : w.cell? ⟨b,3,none⟩ = some u) : (((((w.setCell ⟨b,0,none⟩ v0).setCell ⟨b,1,none⟩ v1).setCell ⟨b,2,none⟩ v2).setCell ⟨b,3,none⟩ v3).setCell ⟨b,3,none⟩ v4).cell? ⟨b,3,none⟩ = some v4 :=
 World.cell?_setCell_same' _ _ _ (by
  rw [World.cell?_setCell_same' _ _ _ (by rw [World.cell?_setCell_other _ _ _ _ (by simp),World.cell?_setCell_other _ _ _ _ (by simp),World.cell?_setCell_other _ _ _ _ (by simp),h];rfl)]
  rfl)
def zbt.l0 : Nat→ByteArray→List (S92)→Int→Option ((List (S92)) × Int × Int)
 | 0,_,_,_ => none
 | k + 1,x0,x5,x6 => if x6 < (x0.size : Int) then (if 0≤x6 then (if x6≤(x0.size : Int) then ((zcp.f k (x0.extract (x6 : Int).toNat x0.size)).bind fun bt407 => (if bt407.2.2.2.2.2 = 0 then (if x5.length < 3518437208883 then (if 0≤(wrap64 (x6 + bt407.2.2.2.2.1)) then (if (wrap64 (x6 + bt407.2.2.2.2.1))≤(x0.size : Int) then ((zal.f k (x0.extract ((wrap64 (x6 + bt407.2.2.2.2.1)) : Int).toNat x0.size)).bind fun t417 => (zbt.l0 k x0 (x5 ++ [(⟨bt407.1,bt407.2.1,bt407.2.2.1,x6⟩ : S92)]) (wrap64 ((wrap64 (x6 + bt407.2.2.2.2.1)) + t417)))) else (none)) else (none)) else (none)) else (none))) else (none)) else (none)) else (some (x5,0,0))
def zbt.f (k : Nat) (a0 : ByteArray) : Option ((List (S92)) × Int × Int):=if (a0.size : Int) > 20000 then (none) else ((zal.f k a0).bind fun t406 => (zbt.l0 k a0 ([] : List (S92)) t406))
theorem zbt.mono_l : ∀ k,(∀ y0 y1 y2,LeO (zbt.l0 k y0 y1 y2) (zbt.l0 (k + 1) y0 y1 y2))
 | 0 => fun _ _ _ r h => by simp [zbt.l0] at h
 | k + 1 => by
  have ih0:=zbt.mono_l k
  ·intro y0 y1 y2
   unfold zbt.l0
   exact (by repeat' first | with_reducible apply ih0 | with_reducible apply zal.mono | with_reducible apply zcp.mono | with_reducible apply LeO.refl | with_reducible apply LeO.none | (with_reducible refine LeO.ite ?_ ?_) | (with_reducible refine LeO.bind ?_ (fun _ => ?_)))
theorem zbt.mono : ∀ a0 k,LeO (zbt.f k a0) (zbt.f (k + 1) a0):=by
 intro a0 k;have ih0:=zbt.mono_l k;unfold zbt.f
 exact (by repeat' first | with_reducible apply ih0 | with_reducible apply zal.mono | with_reducible apply LeO.refl | with_reducible apply LeO.none | (with_reducible refine LeO.ite ?_ ?_) | (with_reducible refine LeO.bind ?_ (fun _ => ?_)))
set_option maxHeartbeats 8000000 in
set_option maxRecDepth 100000 in
theorem zbt.calls (k : Nat) (a0 : ByteArray) (r1 : List (S92)) (r2 : Int) (r3 : Int) (w : World) (h : zbt.f k a0 = some (r1,r2,r3)) :
  Calls Tryz.prog 25 #[.string a0] w fun e w' => ∃ v0_ : Value,e = .returned (.tuple #[v0_,.int .i64 r2,.int .i64 r3])∧Kd.R k92 92 w' w.heap.size (fun _ => True) v0_ r1∧Below w.heap.size w w':=by
 have hu92:=Tryz.underlying92;have HB:=zA0 (Below.refl w.heap.size w);have H : (if (a0.size : Int) > 20000 then (none) else ((zal.f k a0).bind fun t406 => (zbt.l0 k a0 ([] : List (S92)) t406))) = some (r1,r2,r3):=h;clear h
 by_cases c2 : (a0.size : Int) > 20000
 ·rw [if_pos c2] at H
  exact absurd H (by simp)
 ·rw [if_neg c2] at H
  have c2b0 : decide (20000 < (a0.size : Int)) = false:=decide_eq_false c2;have c2b1 : decide (20000 < a0.size) = false:=decide_eq_false (by omega);clear c2;replace H:=Option.bind_eq_some_iff.mp H;obtain ⟨t406,A30,H⟩:=H;replace H : (zbt.l0 k a0 ([] : List (S92)) t406) = some (r1,r2,r3):=H;have A3:=zA0 A30;clear A30;have H':=zA0 H;clear H;go_enter Tryz.func25,Tryz.ntmps25
  go_wp2_with (first | ((with_reducible refine zav (f:=38) rfl ?_);refine zcf (some 14) rfl rfl Tryz.func38 (by kernel_rfl) rfl #[.string a0] rfl zt ?_;(with_reducible refine (zal.calls k a0 t406 _ A3.out).mono ?_);rintro e w' ⟨rfl,⟨nd,rfl⟩⟩;refine ⟨_,rfl,?_⟩))
  go_loopg [5,6] k (fun kq v5 v6 w' => ∃ (x5_1 : List (S92)) (x6_1 : Int),v6 = .int .i64 x6_1∧Aside0 (zbt.l0 kq a0 x5_1 x6_1 = some (r1,r2,r3))∧Aside0 (kq≤k)∧Aside0 (Kd.R k92 92 w' w.heap.size (fun _ => True) v5 x5_1)∧Aside0 (Below w.heap.size w w'))
  case atStart => exact ⟨(([] : List (S92))),(t406),yq6,H',⟨Nat.le_refl _⟩,⟨yq44⟩,⟨yq38⟩⟩
  case round =>
   clear H';obtain ⟨x5_1,x6_1,rfl,HA,HK1,HO_5,HB⟩:=hrel
   cases gk with
   | zero => exact absurd HA.out (by simp [zbt.l0])
   | succ k1 =>
    have H:=HA.out;clear HA;simp only [zbt.l0] at H
    by_cases c4 : x6_1 < (a0.size : Int)
    ·rw [if_pos c4] at H
     have c4b0 : decide (x6_1 < (a0.size : Int)) = true:=decide_eq_true c4;clear c4
     by_cases c5 : 0≤x6_1
     ·rw [if_pos c5] at H
      have c5b0:=eq_true c5;have c5b1 : decide (0≤x6_1) = true:=decide_eq_true c5;clear c5
      by_cases c6 : x6_1≤(a0.size : Int)
      ·rw [if_pos c6] at H
       have c6b0:=eq_true c6;have c6b1 : decide (x6_1≤(a0.size : Int)) = true:=decide_eq_true c6;clear c6;replace H:=Option.bind_eq_some_iff.mp H;obtain ⟨⟨t407,t408,t409,t410,t411,t412⟩,A70,H⟩:=H;replace H : (if t412 = 0 then (if x5_1.length < 3518437208883 then (if 0≤(wrap64 (x6_1 + t411)) then (if (wrap64 (x6_1 + t411))≤(a0.size : Int) then ((zal.f k1 (a0.extract ((wrap64 (x6_1 + t411)) : Int).toNat a0.size)).bind fun t417 => (zbt.l0 k1 a0 (x5_1 ++ [(⟨t407,t408,t409,x6_1⟩ : S92)]) (wrap64 ((wrap64 (x6_1 + t411)) + t417)))) else (none)) else (none)) else (none)) else (none)) = some (r1,r2,r3):=H;have A7:=zA0 A70;clear A70
       by_cases c8 : t412 = 0
       ·rw [if_pos c8] at H
        have c8b0 : (t412 == 0) = true:=beq_iff_eq.mpr c8;have c8b1 : (t412 != 0) = false:=bne_eq_false_iff_eq.mpr c8;clear c8
        by_cases c9 : x5_1.length < 3518437208883
        ·rw [if_pos c9] at H
         have LMc9:=zA0 c9;clear c9
         obtain ⟨y414,hy414⟩ : ∃ y_ : List (S92),y_ = (x5_1 ++ [(⟨t407,t408,t409,x6_1⟩ : S92)]):=⟨_,rfl⟩
         replace H : (if 0≤(wrap64 (x6_1 + t411)) then (if (wrap64 (x6_1 + t411))≤(a0.size : Int) then ((zal.f k1 (a0.extract ((wrap64 (x6_1 + t411)) : Int).toNat a0.size)).bind fun t417 => (zbt.l0 k1 a0 y414 (wrap64 ((wrap64 (x6_1 + t411)) + t417)))) else (none)) else (none)) = some (r1,r2,r3):=yr hy414 H
         have Ny414:=zA0 hy414;clear hy414
         obtain ⟨ji10,hji10⟩ : ∃ j_ : Int,(wrap64 (x6_1 + t411)) = j_:=⟨_,rfl⟩
         replace H : (if 0≤(ji10) then (if (ji10)≤(a0.size : Int) then ((zal.f k1 (a0.extract ((ji10) : Int).toNat a0.size)).bind fun t417 => (zbt.l0 k1 a0 y414 (wrap64 ((ji10) + t417)))) else (none)) else (none)) = some (r1,r2,r3):=by first | (rw [hji10] at H;exact H) | (simp only [hji10] at H ⊢;exact H)
         (try rw [hji10] at A7);have hji10w : (IntKind.i64.wrap (x6_1 + t411)) = ji10:=(zc7 _).trans hji10
         by_cases c11 : 0≤(ji10)
         ·rw [if_pos c11] at H
          have c11b0:=eq_true c11;have c11b1 : decide (0≤(ji10)) = true:=decide_eq_true c11;clear c11
          by_cases c12 : (ji10)≤(a0.size : Int)
          ·rw [if_pos c12] at H
           have c12b0:=eq_true c12;have c12b1 : decide ((ji10)≤(a0.size : Int)) = true:=decide_eq_true c12;clear c12;replace H:=Option.bind_eq_some_iff.mp H;obtain ⟨t417,A130,H⟩:=H;replace H : (zbt.l0 k1 a0 y414 (wrap64 ((ji10) + t417))) = some (r1,r2,r3):=H;have A13:=zA0 A130;clear A130;have H':=zA0 H;clear H
           go_wp2_with (first | ((with_reducible refine zav (f:=39) rfl ?_);refine zcf (some 23) rfl rfl Tryz.func39 (by kernel_rfl) rfl #[.string (a0.extract (x6_1 : Int).toNat a0.size)] rfl zt ?_;(with_reducible refine (zcp.calls k1 (a0.extract (x6_1 : Int).toNat a0.size) t407 t408 t409 t410 t411 t412 _ A7.out).mono ?_);rintro e w14 ⟨rfl,hb⟩;refine ⟨_,rfl,?_⟩;have n0_:=zA0 (Kd.R_below (zrR HO_5) hb);have n1_:=zA0 (zaj (zs0 HB) hb);clear HO_5 HB;revert n0_ n1_;intro HO_5 HB;clear hb) | ((with_reducible refine zbm (N:=7) rfl ?_);refine zbk ?hg (N:=7) ?hd (cs:=#[.int .i64 0,.string (⟨#[]⟩ : ByteArray),.int .u64 0,.int .i64 0]) (t:=92) ?hr ?_;(case hd => rfl);(case hg => rfl);(case hr => first | (go_simp;done) | (go_simp;rfl));intro gb413 hg w15 hbox hb;have n0_:=zA0 (Kd.R_below (Kd.R_elderB (zrR HO_5) gb413 (Nat.le_of_eq hg.symm)) hb);have n1_:=zA0 (zaj (zs0 HB) hb);have n2_:=zA0 (hbox);have n3_:=zA0 ((yq30 : w.heap.size≤gb413));have n4_:=zA0 ((yq30 : w.heap.size≤gb413));clear HO_5 HB;revert n0_ n1_ n2_ n3_ n4_;intro HO_5 HB BK413 GW413 GE413;clear hb hbox hg;obtain ⟨_,_,_,hcz16_3⟩:=zc4 BK413.out;have hcy16:=fun v0 v1 v2 v3 v4 => set5_lex (v0:=v0) (v1:=v1) (v2:=v2) (v3:=v3) (v4:=v4) hcz16_3;obtain ⟨_,_,_,_⟩:=zf4 BK413.out) | ((with_reducible refine zdn (b:=.append) (xs:=#[.tmp 33,.tmp 35]) rfl ?_);at_builtin;refine Kd.R_append k92 (w0:=w) w.heap.size rfl (.tmp 33) (.tmp 35) 66 92 (.agg #[(.int .i64 0),(.string ⟨#[]⟩),(.int .u64 0),(.int .i64 0)]) 40 rfl Tryz.underlying66 info92 rfl (by decide) (by omega) u5 x5_1 (⟨t407,t408,t409,x6_1⟩ : S92) [.int .i64 t407,.string t408,.int .u64 t409,.int .i64 x6_1] (fun k_ => k_≠gb413) (fun _ => False) rfl (by first | (go_simp;done) | (go_simp;rfl)) ?aP (fun _ hk => hk.elim) ?aF ?aO ?aB ?aS ?aL ?_;(case aP => exact k92_mkM _ _ _ (⟨t407,t408,t409,x6_1⟩ : S92));(case aB => exact (by first | exact zs1 HB GE413 | exact zs0 HB));(case aF => exact (fun k_ hk => Kd.freshB (g:=gb413) (o:=.cells #[.int .i64 t407,.string t408,.int .u64 t409,.int .i64 x6_1] 92 (0,0)) yq99 k_ hk));(case aO => exact (by refine yb2 ?_;exact Kd.R_mono (Kd.R_far (p:=⟨gb413,3,none⟩) (Kd.R_far (p:=⟨gb413,3,none⟩) (Kd.R_far (p:=⟨gb413,2,none⟩) (Kd.R_far (p:=⟨gb413,1,none⟩) (Kd.R_far (p:=⟨gb413,0,none⟩) (Kd.R_mono HO_5.out (fun k_ hk => (⟨hk,hk.2⟩ : _∧k_≠gb413))) (fun _ hk => hk.2) (.int .i64 t407)) (fun _ hk => hk.2) (.string t408)) (fun _ hk => hk.2) (.int .u64 t409)) (fun _ hk => hk.2) (.int .i64 t410)) (fun _ hk => hk.2) (.int .i64 x6_1)) (fun _ hk => hk.1.2)));(case aS => exact (zb7 (by first | exact zs1 HB GE413 | exact zs0 HB)));(case aL => have:=LMc9.out;omega);intro v415 w17 ho hb hg hat;rw [← Ny414.out] at ho;have n0_:=zA0 (zdf (g:=gb413) (o:=.cells #[.int .i64 t407,.string t408,.int .u64 t409,.int .i64 x6_1] 92 (0,0)) yq99 hg (Kd.R_away HO_5.out (fun _ hk => hk.2)));have n1_:=zA0 (hb);have n2_:=zA0 (ho);clear BK413 HB HO_5;revert n0_ n1_ n2_;intro BK413 HB HO416;clear ho hb hg hat) | ((with_reducible refine zav (f:=38) rfl ?_);refine zcf (some 44) rfl rfl Tryz.func38 (by kernel_rfl) rfl #[.string (a0.extract ((ji10) : Int).toNat a0.size)] rfl (by (try simp only [List.map_toArray,List.map_cons,List.map_nil]);first | done | (simp only [hji10];rfl) | rfl | (simp only [List.length_drop,List.length_take];rfl)) ?_;(with_reducible refine (zal.calls k1 (a0.extract ((ji10) : Int).toNat a0.size) t417 _ A13.out).mono ?_);rintro e w' ⟨rfl,⟨nd,rfl⟩⟩;refine ⟨_,rfl,?_⟩))
           go_roundg k1
           case measure => have:=HK1.out;omega
           case rel => exact ⟨(y414),(wrap64 ((ji10) + t417)),(by first | rfl | (simp;done) | (simp only [← hji10] <;> (first | rfl | simp)) | (simp [*];done)),H',⟨yq95⟩,⟨by refine yb2 ?_;exact Kd.R_mono HO416.out (fun _ hk => trivial)⟩,⟨by repeat (first | (with_reducible first | exact HB.out | apply zbp | apply za5 | apply zbr | refine zba ?_ GE413.out) | exact HB.out)⟩⟩
          ·rw [if_neg c12] at H
           exact absurd H (by simp)
         ·rw [if_neg c11] at H
          exact absurd H (by simp)
        ·rw [if_neg c9] at H
         exact absurd H (by simp)
       ·rw [if_neg c8] at H
        exact absurd H (by simp)
      ·rw [if_neg c6] at H
       exact absurd H (by simp)
     ·rw [if_neg c5] at H
      exact absurd H (by simp)
    ·rw [if_neg c4] at H
     have c4b0 : decide (x6_1 < (a0.size : Int)) = false:=decide_eq_false c4;clear c4;simp only [Option.some.injEq,Prod.mk.injEq] at H;obtain ⟨rfl,rfl,rfl⟩:=H;go_wp2
     go_ret3
     exact ⟨_,yq7,yp1 HO_5,zs0 HB⟩
def zay (w0 W : World) (g : Nat) (f0 : List (S92)) (f1 : Int) (f2 : Bool) : Prop:=∃ A0 c0,W.heap[g]? = some (.cells #[.slice A0 f0.length c0,.int .i64 f1,.bool f2] 71 (0,0))∧w0.heap.size≤g∧Kd.C k92 w0 A0 f0.length f0
theorem zay.grown {w0 W : World} {g : Nat} {f0 : List (S92)} {f1 : Int} {f2 : Bool} {W1 : World} {row : Option Nat} (h : zay w0 W g f0 f1 f2) (hw : W.grownBy W1 row) (hne : some g≠row) : zay w0 W1 g f0 f1 f2:=by
 obtain ⟨A0,c0,hb,hg,hr0⟩:=h;exact ⟨A0,c0,zdf hb hw hne,hg,hr0⟩
theorem zay.own_neN {w0 W : World} {g : Nat} {f0 : List (S92)} {f1 : Int} {f2 : Bool} {α : Type} {d : Kd α} {e : Nat} {base : Nat} {ok : Nat→Prop} {v : Value} {xs : List α} (h : zay w0 W g f0 f1 f2) (ho : Kd.N d e W base ok v xs) (ht : e≠71) : some g≠v.ownBlock:=by
 obtain ⟨A0,c0,hb,hg,hr0⟩:=h;exact Kd.N_ne ho hb ht
theorem zay.fresh {w0 W : World} {g : Nat} {f0 : List (S92)} {f1 : Int} {f2 : Bool} (h : zay w0 W g f0 f1 f2) : ∀ k,W.heap.size≤k→k≠g:=by
 obtain ⟨A0,c0,hb,hg,hr0⟩:=h;exact Kd.freshB hb
theorem zay.kept {w0 W : World} {g : Nat} {f0 : List (S92)} {f1 : Int} {f2 : Bool} {W1 : World} {S : Nat→Prop} (h : zay w0 W g f0 f1 f2) (hk : Kept W W1 S) (hne : ¬ S g) : zay w0 W1 g f0 f1 f2:=by
 obtain ⟨A0,c0,hb,hg,hr0⟩:=h;exact ⟨A0,c0,blk_kept hb hk hne,hg,hr0⟩
theorem zay.below {w0 W : World} {g : Nat} {f0 : List (S92)} {f1 : Int} {f2 : Bool} {W1 : World} (h : zay w0 W g f0 f1 f2) (hw : Below W.heap.size W W1) : zay w0 W1 g f0 f1 f2:=h.grown (grown_of_below hw none) (by simp)
theorem zay.alloc {w0 W : World} {g : Nat} {f0 : List (S92)} {f1 : Int} {f2 : Bool} (h : zay w0 W g f0 f1 f2) (o : Obj) : zay w0 (W.alloc o) g f0 f1 f2:=h.below (zbp (Below.refl _ _) o)
theorem zay.drewN {w0 W : World} {g : Nat} {f0 : List (S92)} {f1 : Int} {f2 : Bool} (h : zay w0 W g f0 f1 f2) (m : Nat) : zay w0 (W.drewN m) g f0 f1 f2:=h
theorem zay.drew {w0 W : World} {g : Nat} {f0 : List (S92)} {f1 : Int} {f2 : Bool} (h : zay w0 W g f0 f1 f2) : zay w0 W.drew g f0 f1 f2:=h
theorem zay.at_ {w0 W : World} {g : Nat} {f0 : List (S92)} {f1 : Int} {f2 : Bool} {w' : World} {m : Nat} (hq : W.drewN m = w') (h : zay w0 W g f0 f1 f2) : zay w0 w' g f0 f1 f2:=by subst hq;exact zay.drewN h m
theorem zay.apart {w0 W : World} {g : Nat} {f0 : List (S92)} {f1 : Int} {f2 : Bool} {α : Type} {d : Kd α} {e : Nat} {base : Nat} {ok : Nat→Prop} {v : Value} {xs : List α} (h : zay w0 W g f0 f1 f2) (ho : d.R e W base ok v xs) (ht : ∀ q,q ∈ e :: d.E→q≠71) : d.R e W base (fun k => ok k∧k≠g) v xs:=by
 obtain ⟨A0,c0,hb,hg,hr0⟩:=h;exact Kd.R_types ho hb ht
theorem zay.own_ne {w0 W : World} {g : Nat} {f0 : List (S92)} {f1 : Int} {f2 : Bool} {α : Type} {d : Kd α} {e : Nat} {base : Nat} {ok : Nat→Prop} {v : Value} {xs : List α} (h : zay w0 W g f0 f1 f2) (ho : d.R e W base ok v xs) (ht : e≠71) : some g≠v.ownBlock:=by
 obtain ⟨A0,c0,hb,hg,hr0⟩:=h;exact Kd.R_ne ho hb ht
theorem zay.lt {w0 W : World} {g : Nat} {f0 : List (S92)} {f1 : Int} {f2 : Bool} (h : zay w0 W g f0 f1 f2) : g < W.heap.size:=by
 obtain ⟨A0,c0,hb,hg,hr0⟩:=h;exact zcs hb
theorem zay.ge {w0 W : World} {g : Nat} {f0 : List (S92)} {f1 : Int} {f2 : Bool} (h : zay w0 W g f0 f1 f2) : w0.heap.size≤g:=by
 obtain ⟨A0,c0,hb,hg,hr0⟩:=h;exact hg
theorem zay.far {w0 W : World} {g : Nat} {f0 : List (S92)} {f1 : Int} {f2 : Bool} {p : Addr} (h : zay w0 W g f0 f1 f2) (hne : g≠p.block) (u : Value) : zay w0 (W.setCell p u) g f0 f1 f2:=by
 obtain ⟨A0,c0,hb,hg,hr0⟩:=h;exact ⟨A0,c0,zbv hb hne u,hg,hr0⟩
theorem zcq {W : World} {g : Nat} {A0 : Option Addr} {c0 : Nat} {f0 : List (S92)} {f1 : Int} {f2 : Bool} (h : W.heap[g]? = some (.cells #[.slice A0 f0.length c0,.int .i64 f1,.bool f2] 71 (0,0))) : W.cell? ⟨g,0,none⟩ = some (.slice A0 f0.length c0):=(zbf h 0).trans rfl
theorem zcn {W : World} {g : Nat} {A0 : Option Addr} {c0 : Nat} {f0 : List (S92)} {f1 : Int} {f2 : Bool} (h : W.heap[g]? = some (.cells #[.slice A0 f0.length c0,.int .i64 f1,.bool f2] 71 (0,0))) : W.cell? ⟨g,1,none⟩ = some (.int .i64 f1):=(zbf h 1).trans rfl
theorem zay.set_1 {w0 W : World} {g : Nat} {f0 : List (S92)} {f1 : Int} {f2 : Bool} (h : zay w0 W g f0 f1 f2) (x : Int) : zay w0 (W.setCell ⟨g,1,none⟩ (.int .i64 x)) g f0 x f2:=by
 obtain ⟨A0,c0,hb,hg,hr0⟩:=h;exact ⟨A0,c0,by simpa using zds hb 1 (.int .i64 x),hg,hr0⟩
theorem zco {W : World} {g : Nat} {A0 : Option Addr} {c0 : Nat} {f0 : List (S92)} {f1 : Int} {f2 : Bool} (h : W.heap[g]? = some (.cells #[.slice A0 f0.length c0,.int .i64 f1,.bool f2] 71 (0,0))) : W.cell? ⟨g,2,none⟩ = some (.bool f2):=(zbf h 2).trans rfl
theorem zay.set_2 {w0 W : World} {g : Nat} {f0 : List (S92)} {f1 : Int} {f2 : Bool} (h : zay w0 W g f0 f1 f2) (x : Bool) : zay w0 (W.setCell ⟨g,2,none⟩ (.bool x)) g f0 f1 x:=by
 obtain ⟨A0,c0,hb,hg,hr0⟩:=h;exact ⟨A0,c0,by simpa using zds hb 2 (.bool x),hg,hr0⟩
theorem zay.new (w0 W : World) (A0 : Option Addr) (c0 : Nat) (f0 : List (S92)) (f1 : Int) (f2 : Bool) (hB : Below w0.heap.size w0 W) (hr0 : Kd.C k92 w0 A0 f0.length f0) : zay w0 (W.alloc (.cells #[.slice A0 f0.length c0,.int .i64 f1,.bool f2] 71)) W.heap.size f0 f1 f2:=⟨A0,c0,by simpa using heap_alloc_new W _,hB.size,hr0⟩
def zaa.f (s0_0 : List (S92)) (s0_1 : Int) (s0_2 : Bool) (a1 : ByteArray) : Option (Bool × Int × Bool):=if s0_1 < (s0_0.length : Int) then (if 0≤s0_1 then (if ((zcz s0_0 s0_1).f1).toList = a1.toList then (if ((zcz s0_0 s0_1).f0) = 3 then (some (true,s0_1,s0_2)) else (some ((((zcz s0_0 s0_1).f0) == 4),s0_1,s0_2))) else (some (false,s0_1,s0_2))) else (none)) else (some (false,s0_1,s0_2))
set_option maxHeartbeats 8000000 in
set_option maxRecDepth 100000 in
theorem zaa.calls (g : Nat) (s0_0 : List (S92)) (s0_1 : Int) (s0_2 : Bool) (a1 : ByteArray) (r1 : Bool) (r2 : Int) (r3 : Bool) (w0 w : World) (hI : zay w0 w g s0_0 s0_1 s0_2) (hB : Below w0.heap.size w0 w) (h : zaa.f s0_0 s0_1 s0_2 a1 = some (r1,r2,r3)) :
  Calls Tryz.prog 40 #[.pointer (some ⟨g,0,none⟩),.string a1] w fun e w' => e = .returned (.bool r1)∧zay w0 w' g s0_0 r2 r3∧Below w0.heap.size w0 w'∧zaf w w' g none:=by
 have HI0:=zA0 hI;have HK:=zA0 (zaf.refl w g none);have HL:=zA0 hB.size;clear hI;have HW0:=zA0 hB.size;have HB:=zA0 hB;clear hB;have H : (if s0_1 < (s0_0.length : Int) then (if 0≤s0_1 then (if ((zcz s0_0 s0_1).f1).toList = a1.toList then (if ((zcz s0_0 s0_1).f0) = 3 then (some (true,s0_1,s0_2)) else (some ((((zcz s0_0 s0_1).f0) == 4),s0_1,s0_2))) else (some (false,s0_1,s0_2))) else (none)) else (some (false,s0_1,s0_2))) = some (r1,r2,r3):=h;clear h
 by_cases c3 : s0_1 < (s0_0.length : Int)
 ·rw [if_pos c3] at H
  have c3b0 : decide (s0_1 < (s0_0.length : Int)) = true:=decide_eq_true c3;clear c3
  by_cases c4 : 0≤s0_1
  ·rw [if_pos c4] at H
   have c4b0 : decide (0≤s0_1) = true:=decide_eq_true c4;clear c4
   by_cases c5 : ((zcz s0_0 s0_1).f1).toList = a1.toList
   ·rw [if_pos c5] at H
    have c5b0 : (((zcz s0_0 s0_1).f1).toList == a1.toList) = true:=beq_iff_eq.mpr c5;have c5b1 : (((zcz s0_0 s0_1).f1).toList != a1.toList) = false:=bne_eq_false_iff_eq.mpr c5;clear c5
    by_cases c6 : ((zcz s0_0 s0_1).f0) = 3
    ·rw [if_pos c6] at H
     have c6b0 : (((zcz s0_0 s0_1).f0) == 3) = true:=beq_iff_eq.mpr c6;have c6b1 : (((zcz s0_0 s0_1).f0) != 3) = false:=bne_eq_false_iff_eq.mpr c6;clear c6;simp only [Option.some.injEq,Prod.mk.injEq] at H;obtain ⟨rfl,rfl,rfl⟩:=H;obtain ⟨ASz7_0,cSz7_0,HGz7,hgz7,HSz7_0⟩:=HI0.out;have hcz7_0:=zcq HGz7;have hcz7_1:=zcn HGz7;have hcz7_2:=zco HGz7;have hfz7_1:=zap HGz7 1;have hfz7_2:=zap HGz7 2;clear HGz7 hgz7;have p102 : 0≤(s0_1 : Int):=of_decide_eq_true yq3;have q102 : s0_1 < (s0_0.length : Int):=of_decide_eq_true yq3;obtain ⟨ad102,e102,hx102_0,hx102_1,hx102_2,hx102_3⟩:=at_T92 HSz7_0 s0_1 p102 q102;cases e102;replace hx102_0:=zby HB.out hx102_0;replace hx102_1:=zby HB.out hx102_1;replace hx102_2:=zby HB.out hx102_2;replace hx102_3:=zby HB.out hx102_3;replace p102:=eq_true p102;replace q102:=eq_true q102;have p103 : 0≤(s0_1 : Int):=of_decide_eq_true yq3;have q103 : s0_1 < (s0_0.length : Int):=of_decide_eq_true yq3;obtain ⟨ad103,e103,hx103_0,hx103_1,hx103_2,hx103_3⟩:=at_T92 HSz7_0 s0_1 p103 q103
     obtain rfl : ad102 = ad103:=(by injection e103)
     replace hx103_0:=zby HB.out hx103_0;replace hx103_1:=zby HB.out hx103_1;replace hx103_2:=zby HB.out hx103_2;replace hx103_3:=zby HB.out hx103_3;replace p103:=eq_true p103;replace q103:=eq_true q103;go_enter Tryz.func40,Tryz.ntmps40;go_wp2
     repeat (go_quiet (fail);try go_wp2)
     go_ret;exact ⟨yq7,yq2,yq5,yq1⟩
    ·rw [if_neg c6] at H
     have c6b0 : (((zcz s0_0 s0_1).f0) == 3) = false:=beq_eq_false_iff_ne.mpr c6;have c6b1 : (((zcz s0_0 s0_1).f0) != 3) = true:=bne_iff_ne.mpr c6;simp only [Option.some.injEq,Prod.mk.injEq] at H;obtain ⟨rfl,rfl,rfl⟩:=H;obtain ⟨ASz8_0,cSz8_0,HGz8,hgz8,HSz8_0⟩:=HI0.out;have hcz8_0:=zcq HGz8;have hcz8_1:=zcn HGz8;have hcz8_2:=zco HGz8;have hfz8_1:=zap HGz8 1;have hfz8_2:=zap HGz8 2;clear HGz8 hgz8;have p102 : 0≤(s0_1 : Int):=of_decide_eq_true yq3;have q102 : s0_1 < (s0_0.length : Int):=of_decide_eq_true yq3;obtain ⟨ad102,e102,hx102_0,hx102_1,hx102_2,hx102_3⟩:=at_T92 HSz8_0 s0_1 p102 q102;cases e102;replace hx102_0:=zby HB.out hx102_0;replace hx102_1:=zby HB.out hx102_1;replace hx102_2:=zby HB.out hx102_2;replace hx102_3:=zby HB.out hx102_3;replace p102:=eq_true p102;replace q102:=eq_true q102;have p103 : 0≤(s0_1 : Int):=of_decide_eq_true yq3;have q103 : s0_1 < (s0_0.length : Int):=of_decide_eq_true yq3;obtain ⟨ad103,e103,hx103_0,hx103_1,hx103_2,hx103_3⟩:=at_T92 HSz8_0 s0_1 p103 q103
     obtain rfl : ad102 = ad103:=(by injection e103)
     replace hx103_0:=zby HB.out hx103_0;replace hx103_1:=zby HB.out hx103_1;replace hx103_2:=zby HB.out hx103_2;replace hx103_3:=zby HB.out hx103_3;replace p103:=eq_true p103;replace q103:=eq_true q103;have p104 : 0≤(s0_1 : Int):=of_decide_eq_true yq3;have q104 : s0_1 < (s0_0.length : Int):=of_decide_eq_true yq3;obtain ⟨ad104,e104,hx104_0,hx104_1,hx104_2,hx104_3⟩:=at_T92 HSz8_0 s0_1 p104 q104
     obtain rfl : ad102 = ad104:=(by injection e104)
     replace hx104_0:=zby HB.out hx104_0;replace hx104_1:=zby HB.out hx104_1;replace hx104_2:=zby HB.out hx104_2;replace hx104_3:=zby HB.out hx104_3;replace p104:=eq_true p104;replace q104:=eq_true q104;go_enter Tryz.func40,Tryz.ntmps40;go_wp2
     repeat (go_quiet (fail);try go_wp2)
     go_ret;exact ⟨yq7,yq2,yq5,yq1⟩
   ·rw [if_neg c5] at H
    have c5b0 : (((zcz s0_0 s0_1).f1).toList == a1.toList) = false:=beq_eq_false_iff_ne.mpr c5;have c5b1 : (((zcz s0_0 s0_1).f1).toList != a1.toList) = true:=bne_iff_ne.mpr c5;simp only [Option.some.injEq,Prod.mk.injEq] at H;obtain ⟨rfl,rfl,rfl⟩:=H;obtain ⟨ASz9_0,cSz9_0,HGz9,hgz9,HSz9_0⟩:=HI0.out;have hcz9_0:=zcq HGz9;have hcz9_1:=zcn HGz9;have hcz9_2:=zco HGz9;have hfz9_1:=zap HGz9 1;have hfz9_2:=zap HGz9 2;clear HGz9 hgz9;have p102 : 0≤(s0_1 : Int):=of_decide_eq_true yq3;have q102 : s0_1 < (s0_0.length : Int):=of_decide_eq_true yq3;obtain ⟨ad102,e102,hx102_0,hx102_1,hx102_2,hx102_3⟩:=at_T92 HSz9_0 s0_1 p102 q102;cases e102;replace hx102_0:=zby HB.out hx102_0;replace hx102_1:=zby HB.out hx102_1;replace hx102_2:=zby HB.out hx102_2;replace hx102_3:=zby HB.out hx102_3;replace p102:=eq_true p102;replace q102:=eq_true q102;go_enter Tryz.func40,Tryz.ntmps40;go_wp2
    repeat (go_quiet (fail);try go_wp2)
    go_ret;exact ⟨yq7,yq2,yq5,yq1⟩
  ·rw [if_neg c4] at H
   exact absurd H (by simp)
 ·rw [if_neg c3] at H
  have c3b0 : decide (s0_1 < (s0_0.length : Int)) = false:=decide_eq_false c3;clear c3;simp only [Option.some.injEq,Prod.mk.injEq] at H;obtain ⟨rfl,rfl,rfl⟩:=H;obtain ⟨ASz10_0,cSz10_0,HGz10,hgz10,HSz10_0⟩:=HI0.out;have hcz10_0:=zcq HGz10;have hcz10_1:=zcn HGz10;have hcz10_2:=zco HGz10;have hfz10_1:=zap HGz10 1;have hfz10_2:=zap HGz10 2;clear HGz10 hgz10;go_enter Tryz.func40,Tryz.ntmps40;go_wp2
  repeat (go_quiet (fail);try go_wp2)
  go_ret;exact ⟨yq7,yq2,yq5,yq1⟩
def zak.f (s0_0 : List (S92)) (s0_1 : Int) (s0_2 : Bool) (a1 : ByteArray) : Option (Int × Bool):=if s0_2 = true then (some (s0_1,s0_2)) else ((zaa.f s0_0 s0_1 s0_2 a1).bind fun bt105 => (if bt105.1 = true then (some (wrap64 (bt105.2.1 + 1),bt105.2.2)) else (none)))
set_option maxHeartbeats 8000000 in
set_option maxRecDepth 100000 in
theorem zak.calls (g : Nat) (s0_0 : List (S92)) (s0_1 : Int) (s0_2 : Bool) (a1 : ByteArray) (r1 : Int) (r2 : Bool) (w0 w : World) (hI : zay w0 w g s0_0 s0_1 s0_2) (hB : Below w0.heap.size w0 w) (h : zak.f s0_0 s0_1 s0_2 a1 = some (r1,r2)) :
  Calls Tryz.prog 41 #[.pointer (some ⟨g,0,none⟩),.string a1] w fun e w' => e = .returned (.tuple #[])∧zay w0 w' g s0_0 r1 r2∧Below w0.heap.size w0 w'∧zaf w w' g none:=by
 have HI0:=zA0 hI;have HK:=zA0 (zaf.refl w g none);have HL:=zA0 hB.size;clear hI;have HW0:=zA0 hB.size;have HB:=zA0 hB;clear hB;have H : (if s0_2 = true then (some (s0_1,s0_2)) else ((zaa.f s0_0 s0_1 s0_2 a1).bind fun bt105 => (if bt105.1 = true then (some (wrap64 (bt105.2.1 + 1),bt105.2.2)) else (none)))) = some (r1,r2):=h;clear h
 by_cases c3 : s0_2 = true
 ·subst c3
  have H1 : (some (s0_1,true)) = some (r1,r2):=yq36
  clear H;have H:=H1;clear H1;simp only [Option.some.injEq,Prod.mk.injEq] at H;obtain ⟨rfl,rfl⟩:=H;obtain ⟨ASz4_0,cSz4_0,HGz4,hgz4,HSz4_0⟩:=HI0.out;have hcz4_0:=zcq HGz4;have hcz4_1:=zcn HGz4;have hcz4_2:=zco HGz4;have hfz4_1:=zap HGz4 1;have hfz4_2:=zap HGz4 2;clear HGz4 hgz4;go_enter Tryz.func41,Tryz.ntmps41;go_wp2
  first | go_end0 | ((try simp only [Exit.inBlock,Exit.then]);refine bodyPost_ret (results_none rfl _ _ _) rfl ?_)
  exact ⟨yq7,yq2,yq5,yq1⟩
 ·replace c3:=Bool.eq_false_iff.mpr c3
  subst c3
  have H1 : ((zaa.f s0_0 s0_1 false a1).bind fun bt105 => (if bt105.1 = true then (some (wrap64 (bt105.2.1 + 1),bt105.2.2)) else (none))) = some (r1,r2):=yq12
  clear H;have H:=H1;clear H1;replace H:=Option.bind_eq_some_iff.mp H;obtain ⟨⟨t105,t106,t107⟩,A50,H⟩:=H;replace H : (if t105 = true then (some (wrap64 (t106 + 1),t107)) else (none)) = some (r1,r2):=H;have A5:=zA0 A50;clear A50
  by_cases c6 : t105 = true
  ·subst c6
   have H1 : (some (wrap64 (t106 + 1),t107)) = some (r1,r2):=yq36
   clear H;have H:=H1;clear H1;simp only [Option.some.injEq,Prod.mk.injEq] at H;obtain ⟨rfl,rfl⟩:=H;obtain ⟨ASz7_0,cSz7_0,HGz7,hgz7,HSz7_0⟩:=HI0.out;have hcz7_0:=zcq HGz7;have hcz7_1:=zcn HGz7;have hcz7_2:=zco HGz7;have hfz7_1:=zap HGz7 1;have hfz7_2:=zap HGz7 2;clear HGz7 hgz7;go_enter Tryz.func41,Tryz.ntmps41
   go_wp2_with (first | ((with_reducible refine zav (f:=40) rfl ?_);refine zcf (some 10) rfl rfl Tryz.func40 (by kernel_rfl) rfl #[.pointer (some ⟨g,0,none⟩),.string a1] rfl zt ?_;(with_reducible refine (zaa.calls g s0_0 s0_1 false a1 true t106 t107 w0 _ ?side1 ?side2 A5.out).mono ?_);(case side1 => exact yq2);(case side2 => exact yq5);rintro e w8 ⟨rfl,hi,hb,hk⟩;refine ⟨_,rfl,?_⟩;have n0_:=zA0 (zaf.trans yq1 hk (.inl rfl));have n1_:=zA0 (hb);have n2_:=zA0 (hi);clear HK HB HI0;revert n0_ n1_ n2_;intro HK HB HI0;clear hb hk hi;obtain ⟨ASz9_0,cSz9_0,HGz9,hgz9,HSz9_0⟩:=HI0.out;have hcz9_0:=zcq HGz9;have hcz9_1:=zcn HGz9;have hcz9_2:=zco HGz9;have hfz9_1:=zap HGz9 1;have hfz9_2:=zap HGz9 2;clear HGz9 hgz9))
   first | go_end0 | ((try simp only [Exit.inBlock,Exit.then]);refine bodyPost_ret (results_none rfl _ _ _) rfl ?_)
   exact ⟨yq7,yq2,yq5,yq1⟩
  ·replace c6:=Bool.eq_false_iff.mpr c6
   subst c6
   have H1 : (none) = some (r1,r2):=yq12
   clear H;have H:=H1;clear H1;exact absurd H (by simp)
end Go.Proofs.YtkgdhdjkpnalmaaGreatDoor.P
end
