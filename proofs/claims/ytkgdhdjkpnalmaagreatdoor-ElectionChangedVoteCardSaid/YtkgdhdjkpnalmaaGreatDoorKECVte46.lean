/- What is proved here: a part of the proof of ElectionChangedVote: Px76. No conditions beside those that each theorem states. -/
import Derived.Test.YtkgdhdjkpnalmaaGreatDoorKECVte4
import Derived.Test.YtkgdhdjkpnalmaaGreatDoorKECVte5
import Derived.Test.YtkgdhdjkpnalmaaGreatDoorKECVte44
import Derived.Test.YtkgdhdjkpnalmaaGreatDoorKECVte45
set_option linter.unusedVariables false
set_option linter.unusedSimpArgs false
section
namespace Go.Proofs.YtkgdhdjkpnalmaaGreatDoor.P
open Go.RowKit Go.Proofs.YtkgdhdjkpnalmaaGreatDoorW.PrintWords Go.Proofs.YtkgdhdjkpnalmaaGreatDoorW.PrintLast Go.Proofs.YtkgdhdjkpnalmaaGreatDoorW.PrintMore
attribute [local go_sem] zcd zca zci zcj zb1 zb2 zcc zcb
mutual
def privitylaw50_ElectionChangedVote.l0 : Nat→Int→Int→Int→List Int→List Int→List Int→Int→Option (Bool)
 | 0,_,_,_,_,_,_,_ => none
 | k + 1,x2,x7,x8,x9,x10,x11,x12 => if x12 ≥ 0 then (if 0≤x12 then (if x12 < (x9.length : Int) then (if x11.length < 17592186044416 then (privitylaw50_ElectionChangedVote.l0 k x2 x7 x8 x9 x10 (x11 ++ [rd x9 x12]) (wrap64 (x12 - 1))) else (none)) else (none)) else (none)) else ((some (([] : List Int) : List Int)).bind fun y775 => (if y775.length + x9.length < 17592186044416 then ((some (y775 ++ x9 : List Int)).bind fun y778 => (if (IntKind.u64.wrap (x8)) = 0 then (none) else (if 0 < (y778.length : Int) then ((some (y778.set (0 : Int).toNat (Int.tmod x2 (IntKind.u64.wrap (x8))) : List Int)).bind fun y781 => ((election_Tally.f k y781 x8).bind fun t782 => (if (x10.length : Int) = x8 then (if (t782.length : Int) = x8 then ((election_Tally.f k x11 x8).bind fun t785 => ((zao.f k t785 x10).bind fun t788 => (privitylaw50_ElectionChangedVote.j1 k x7 x8 x9 x10 y781 t782 (!t788)))) else (privitylaw50_ElectionChangedVote.j1 k x7 x8 x9 x10 y781 t782 true)) else (privitylaw50_ElectionChangedVote.j1 k x7 x8 x9 x10 y781 t782 true)))) else (none)))) else (none)))
def privitylaw50_ElectionChangedVote.j1 : Nat→Int→Int→List Int→List Int→List Int→List Int→Bool→Option (Bool)
 | 0,_,_,_,_,_,_,_ => none
 | k + 1,x7,x8,x9,x10,x13,x14,x73 => if x73 = true then (none) else (privitylaw50_ElectionChangedVote.l1 k x7 x8 x9 x10 x13 x14 0 0)
def privitylaw50_ElectionChangedVote.l1 : Nat→Int→Int→List Int→List Int→List Int→List Int→Int→Int→Option (Bool)
 | 0,_,_,_,_,_,_,_,_ => none
 | k + 1,x7,x8,x9,x10,x13,x14,x15,x16 => if x16 < x8 then (if 0≤x16 then (if x16 < (x10.length : Int) then (if 0 < (x9.length : Int) then (if (rd x9 0) = (IntKind.u64.wrap (x16)) then (privitylaw50_ElectionChangedVote.j3 k x7 x8 x9 x10 x13 x14 (IntKind.u64.wrap (x15 + (rd x10 x16))) x16 (IntKind.u64.wrap ((rd x10 x16) - 1))) else (privitylaw50_ElectionChangedVote.j3 k x7 x8 x9 x10 x13 x14 (IntKind.u64.wrap (x15 + (rd x10 x16))) x16 (rd x10 x16))) else (none)) else (none)) else (none)) else ((zbh.f k).bind fun t789 => (if t789 = true then (some (decide (x15≤(IntKind.u64.wrap (x7))))) else (some false)))
def privitylaw50_ElectionChangedVote.j3 : Nat→Int→Int→List Int→List Int→List Int→List Int→Int→Int→Int→Option (Bool)
 | 0,_,_,_,_,_,_,_,_,_ => none
 | k + 1,x7,x8,x9,x10,x13,x14,x15,x16,x17 => if 0 < (x13.length : Int) then (if (rd x13 0) = (IntKind.u64.wrap (x16)) then (if 0≤x16 then (if x16 < (x14.length : Int) then (if (rd x14 x16) = (IntKind.u64.wrap (x17 + 1)) then (privitylaw50_ElectionChangedVote.l1 k x7 x8 x9 x10 x13 x14 x15 (wrap64 (x16 + 1))) else (none)) else (none)) else (none)) else (if 0≤x16 then (if x16 < (x14.length : Int) then (if (rd x14 x16) = x17 then (privitylaw50_ElectionChangedVote.l1 k x7 x8 x9 x10 x13 x14 x15 (wrap64 (x16 + 1))) else (none)) else (none)) else (none))) else (none)
end
def privitylaw50_ElectionChangedVote.f (k : Nat) (a0_0 : Int) (a0_1 : Int) (l1 : List Int) (a2 : Int) : Option (Bool):=(zdw.f a0_0 a0_1).bind fun bt763 => ((zb0.f k l1 bt763.1 bt763.2).bind fun t765 => ((election_Tally.f k t765 bt763.2).bind fun t768 => (privitylaw50_ElectionChangedVote.l0 k a2 bt763.1 bt763.2 t765 t768 ([] : List Int) (wrap64 ((t765.length : Int) - 1)))))
set_option maxHeartbeats 8000000 in
set_option maxRecDepth 100000 in
theorem privitylaw50_ElectionChangedVote.calls (k : Nat) (a0_0 : Int) (a0_1 : Int) (A1 : Option Addr) (c1 : Nat) (l1 : List Int) (a2 : Int) (r : Bool) (w : World) (hr1 : Kd.C (Kd.int .u64) w A1 l1.length l1) (hc1 : l1.length≤c1) (h : privitylaw50_ElectionChangedVote.f k a0_0 a0_1 l1 a2 = some r) :
  Calls Tryz.prog 6 #[.agg #[.int .u8 a0_0,.int .u8 a0_1],.slice A1 l1.length c1,.int .u64 a2] w fun e w' => e = .returned (.bool r)∧Below w.heap.size w w':=by
 have hu22:=Tryz.underlying22;have HR1:=zA0 hr1;have HC1:=zA0 hc1;clear hr1 hc1;have HB:=zA0 (Below.refl w.heap.size w);have H : ((zdw.f a0_0 a0_1).bind fun bt763 => ((zb0.f k l1 bt763.1 bt763.2).bind fun t765 => ((election_Tally.f k t765 bt763.2).bind fun t768 => (privitylaw50_ElectionChangedVote.l0 k a2 bt763.1 bt763.2 t765 t768 ([] : List Int) (wrap64 ((t765.length : Int) - 1)))))) = some r:=h;clear h;replace H:=Option.bind_eq_some_iff.mp H;obtain ⟨⟨t763,t764⟩,A40,H⟩:=H;replace H : ((zb0.f k l1 t763 t764).bind fun t765 => ((election_Tally.f k t765 t764).bind fun t768 => (privitylaw50_ElectionChangedVote.l0 k a2 t763 t764 t765 t768 ([] : List Int) (wrap64 ((t765.length : Int) - 1))))) = some r:=H;have A4:=zA0 A40;clear A40;replace H:=Option.bind_eq_some_iff.mp H;obtain ⟨t765,A50,H⟩:=H;replace H : ((election_Tally.f k t765 t764).bind fun t768 => (privitylaw50_ElectionChangedVote.l0 k a2 t763 t764 t765 t768 ([] : List Int) (wrap64 ((t765.length : Int) - 1)))) = some r:=H;have A5:=zA0 A50;clear A50;replace H:=Option.bind_eq_some_iff.mp H;obtain ⟨t768,A60,H⟩:=H;replace H : (privitylaw50_ElectionChangedVote.l0 k a2 t763 t764 t765 t768 ([] : List Int) (wrap64 ((t765.length : Int) - 1))) = some r:=H;have A6:=zA0 A60;clear A60;have H':=zA0 H;clear H;go_enter Tryz.func6,Tryz.ntmps6
 go_wp2_with (first | ((with_reducible refine zbm (N:=3) rfl ?_);(try (refine zcy (by rfl) ?_;dsimp only));refine zbk ?hg (N:=3) ?hd (cs:=#[.int .u8 a0_0,.int .u8 a0_1]) (t:=22) ?hr ?_;(case hd => rfl);(case hg => rfl);(case hr => first | (go_simp;done) | (go_simp;rfl));intro gb762 hg w7 hbox hb;have n0_:=zA0 (zaj (zs0 HB) hb);have n1_:=zA0 (hbox);have n2_:=zA0 ((yq30 : w.heap.size≤gb762));have n3_:=zA0 ((yq30 : w.heap.size≤gb762));clear HB;revert n0_ n1_ n2_ n3_;intro HB BK762 GW762 GE762;clear hb hbox hg;obtain ⟨_,_⟩:=zc2 BK762.out;obtain ⟨_,_⟩:=zf2 BK762.out) | ((with_reducible refine zav (f:=7) rfl ?_);refine zcf (some 20) rfl rfl Tryz.func7 (by kernel_rfl) rfl #[.agg #[.int .u8 a0_0,.int .u8 a0_1]] rfl zt ?_;(with_reducible refine (zdw.calls a0_0 a0_1 t763 t764 _ A4.out).mono ?_);rintro e w9 ⟨rfl,hb⟩;refine ⟨_,rfl,?_⟩;have n0_:=zA0 (za4 (g:=gb762) (o:=.cells #[.int .u8 a0_0,.int .u8 a0_1] 22 (0,0)) (zb BK762) hb);have n1_:=zA0 (zaj yq93 hb);clear BK762 HB;revert n0_ n1_;intro BK762 HB;clear hb) | ((with_reducible refine zav (f:=11) rfl ?_);refine zcf (some 26) rfl rfl Tryz.func11 (by kernel_rfl) rfl #[.slice A1 l1.length c1,.int .i64 t763,.int .i64 t764] rfl zt ?_;(with_reducible refine (zb0.calls k _ _ l1 t763 t764 t765 _ ?side1 ?side2 A5.out).mono ?_);(case side1 => exact (by repeat (first | exact (Kd.C_below HR1.out HB.out) | (with_reducible refine Kd.C_alloc ?_ _) | (with_reducible refine Kd.C_drewN ?_ _) | (with_reducible refine Kd.C_drew ?_))));(case side2 => exact HC1.out);rintro e w10 ⟨v766,rfl,ho0,hb⟩;refine ⟨_,rfl,?_⟩;have n0_:=zA0 (Kd.R_lower ho0 (zb7 yq93));have n1_:=zA0 (za4 (g:=gb762) (o:=.cells #[.int .u8 a0_0,.int .u8 a0_1] 22 (0,0)) (zb BK762) hb);have n2_:=zA0 (zaj yq93 hb);clear BK762 HB;revert n0_ n1_ n2_;intro HO767 BK762 HB;clear hb ho0;obtain ⟨Ao11,co11,eo11⟩:=Kd.R_slice HO767.out;subst eo11) | ((with_reducible refine zav (f:=17) rfl ?_);refine zcf (some 29) rfl rfl Tryz.func17 (by kernel_rfl) rfl #[.slice Ao11 t765.length co11,.int .i64 t764] rfl zt ?_;(with_reducible refine (election_Tally.calls k _ _ t765 t764 t768 _ ?side1 ?side2 A6.out).mono ?_);(case side1 => exact (by repeat (first | exact (Kd.R_reads' HO767.out).2.2 | (with_reducible refine Kd.C_alloc ?_ _) | (with_reducible refine Kd.C_drewN ?_ _) | (with_reducible refine Kd.C_drew ?_))));(case side2 => exact (Kd.R_reads' HO767.out).2.1);rintro e w12 ⟨v769,rfl,ho0,hb⟩;refine ⟨_,rfl,?_⟩;have n0_:=zA0 (Kd.R_elder' (zrR HO767) (Kd.R_base ho0) hb);have n1_:=zA0 (Kd.R_lower (Kd.R_new' ho0 (Kd.R_lt (zrR HO767))) (zb7 yq93));have n2_:=zA0 (za4 (g:=gb762) (o:=.cells #[.int .u8 a0_0,.int .u8 a0_1] 22 (0,0)) (zb BK762) hb);have n3_:=zA0 (zaj yq93 hb);clear HO767 BK762 HB;revert n0_ n1_ n2_ n3_;intro HO767 HO770 BK762 HB;clear hb ho0))
 go_loopg [11,12] k (fun kq v11 v12 w' => ∃ (x11_1 : List Int) (x12_1 : Int),v12 = .int .i64 x12_1∧Aside0 (privitylaw50_ElectionChangedVote.l0 kq a2 t763 t764 t765 t768 x11_1 x12_1 = some r)∧Aside0 (kq≤k)∧Aside0 (Kd.R (Kd.int .u64) 37 w' w.heap.size (fun k_ => some k_≠(v769 : Value).ownBlock∧some k_≠(v11 : Value).ownBlock) (.slice Ao11 t765.length co11) t765)∧Aside0 (Kd.R (Kd.int .u64) 37 w' w.heap.size (fun k_ => some k_≠((.slice Ao11 t765.length co11) : Value).ownBlock∧some k_≠(v11 : Value).ownBlock) v769 t768)∧Aside0 (Kd.R (Kd.int .u64) 37 w' w.heap.size (fun k_ => some k_≠((.slice Ao11 t765.length co11) : Value).ownBlock∧some k_≠(v769 : Value).ownBlock) v11 x11_1)∧Aside0 (w'.heap[gb762]? = some (.cells #[.int .u8 a0_0,.int .u8 a0_1] 22 (0,0)))∧Aside0 (Below w.heap.size w w'))
 case atStart => exact ⟨(([] : List Int)),(wrap64 ((t765.length : Int) - 1)),yq6,H',⟨Nat.le_refl _⟩,⟨by refine yb2 ?_;exact Kd.R_mono HO767.out (fun _ hk => ⟨hk.2,(by simp [Value.ownBlock])⟩)⟩,⟨by refine yb2 ?_;exact Kd.R_mono HO770.out (fun _ hk => ⟨hk.2,(by simp [Value.ownBlock])⟩)⟩,⟨yq44⟩,⟨yp2 BK762⟩,⟨yq46⟩⟩
 case round =>
  clear H';obtain ⟨x11_1,x12_1,rfl,HA,HK1,HO_9,HO_10,HO_11,BK762,HB⟩:=hrel
  cases gk with
  | zero => exact absurd HA.out (by simp [privitylaw50_ElectionChangedVote.l0])
  | succ k1 =>
   have H:=HA.out;clear HA;simp only [privitylaw50_ElectionChangedVote.l0] at H
   by_cases c13 : x12_1 ≥ 0
   ·rw [if_pos c13] at H
    have c13b0 : decide (0≤x12_1) = true:=decide_eq_true c13;clear c13
    by_cases c14 : 0≤x12_1
    ·rw [if_pos c14] at H
     have c14b0 : decide (0≤x12_1) = true:=decide_eq_true c14;clear c14
     by_cases c15 : x12_1 < (t765.length : Int)
     ·rw [if_pos c15] at H
      have c15b0 : decide (x12_1 < (t765.length : Int)) = true:=decide_eq_true c15;clear c15
      by_cases c16 : x11_1.length < 17592186044416
      ·rw [if_pos c16] at H
       have LMc16:=zA0 c16;clear c16
       obtain ⟨y772,hy772⟩ : ∃ y_ : List Int,y_ = (x11_1 ++ [rd t765 x12_1]):=⟨_,rfl⟩
       replace H : (privitylaw50_ElectionChangedVote.l0 k1 a2 t763 t764 t765 t768 y772 (wrap64 (x12_1 - 1))) = some r:=yr hy772 H
       have Ny772:=zA0 hy772;clear hy772;have H':=zA0 H;clear H;have p771 : 0≤(x12_1 : Int):=of_decide_eq_true yq3;have q771 : x12_1 < (t765.length : Int):=of_decide_eq_true yq3;obtain ⟨ad771,e771,hx771_0⟩:=Kd.at_int (Kd.R_reads' HO_9.out).2.2 x12_1 p771 q771;cases e771;replace p771:=eq_true p771;replace q771:=eq_true q771
       go_wp2_with (first | ((with_reducible refine zdn (b:=.append) (xs:=#[.tmp 37,.tmp 42]) rfl ?_);(try (refine zcy (by rfl) ?_;dsimp only));at_builtin;refine Kd.R_append (Kd.int .u64) (w0:=w) w.heap.size rfl (.tmp 37) (.tmp 42) 23 37 (.int .u64 0) 8 rfl Tryz.underlying23 info37 rfl (by decide) (by omega) u11 x11_1 (rd t765 x12_1) [.int .u64 (rd t765 x12_1)] (fun k_ => some k_≠(.slice (some ad771) t765.length co11 : Value).ownBlock∧some k_≠(v769 : Value).ownBlock) (fun _ => False) rfl rfl ?aP (fun _ hk => hk.elim) ?aF ?aO ?aB ?aS ?aL ?_;(case aP => exact rfl);(case aB => exact yq93);(case aF => exact (fun k_ hk => ⟨Kd.fresh' (Kd.R_lt (zrR HO_9)) k_ hk,Kd.fresh' (Kd.R_lt (zrR HO_10)) k_ hk⟩));(case aO => exact (zrR HO_11));(case aS => exact (zb7 yq93));(case aL => have:=LMc16.out;omega);intro v773 w17 ho hb hg hat;rw [← Ny772.out] at ho;have n0_:=zA0 (Kd.R_after (ok:=(fun k_ => some k_≠(v769 : Value).ownBlock)) (zrR HO_9) hg hat);have n1_:=zA0 (Kd.R_after (ok:=(fun k_ => some k_≠(.slice (some ad771) t765.length co11 : Value).ownBlock)) (zrR HO_10) hg hat);have n2_:=zA0 (zdf (g:=gb762) (o:=.cells #[.int .u8 a0_0,.int .u8 a0_1] 22 (0,0)) (zb BK762) hg (Kd.R_ne HO_11.out BK762.out (by decide)));have n3_:=zA0 (hb);have n4_:=zA0 (ho);clear HO_9 HO_10 BK762 HB HO_11;revert n0_ n1_ n2_ n3_ n4_;intro HO_9 HO_10 BK762 HB HO774;clear ho hb hg hat))
       go_roundg k1
       case measure => have:=HK1.out;omega
       case rel => exact ⟨(y772),(wrap64 (x12_1 - 1)),yq6,H',⟨yq95⟩,⟨yp1 HO_9⟩,⟨yp1 HO_10⟩,⟨yp1 HO774⟩,⟨yp2 BK762⟩,⟨yq46⟩⟩
      ·rw [if_neg c16] at H
       exact absurd H (by simp)
     ·rw [if_neg c15] at H
      exact absurd H (by simp)
    ·rw [if_neg c14] at H
     exact absurd H (by simp)
   ·rw [if_neg c13] at H
    have c13b0 : decide (0≤x12_1) = false:=decide_eq_false c13;clear c13
    obtain ⟨y775,hy775⟩ : ∃ y_ : List Int,y_ = (([] : List Int)):=⟨_,rfl⟩
    replace H : (if y775.length + t765.length < 17592186044416 then ((some (y775 ++ t765 : List Int)).bind fun y778 => (if (IntKind.u64.wrap (t764)) = 0 then (none) else (if 0 < (y778.length : Int) then ((some (y778.set (0 : Int).toNat (Int.tmod a2 (IntKind.u64.wrap (t764))) : List Int)).bind fun y781 => ((election_Tally.f k1 y781 t764).bind fun t782 => (if (t768.length : Int) = t764 then (if (t782.length : Int) = t764 then ((election_Tally.f k1 x11_1 t764).bind fun t785 => ((zao.f k1 t785 t768).bind fun t788 => (privitylaw50_ElectionChangedVote.j1 k1 t763 t764 t765 t768 y781 t782 (!t788)))) else (privitylaw50_ElectionChangedVote.j1 k1 t763 t764 t765 t768 y781 t782 true)) else (privitylaw50_ElectionChangedVote.j1 k1 t763 t764 t765 t768 y781 t782 true)))) else (none)))) else (none)) = some r:=yr hy775 H
    have Ny775:=zA0 hy775;clear hy775
    by_cases c18 : y775.length + t765.length < 17592186044416
    ·rw [if_pos c18] at H
     have LMc18:=zA0 c18;clear c18
     obtain ⟨y778,hy778⟩ : ∃ y_ : List Int,y_ = (y775 ++ t765):=⟨_,rfl⟩
     replace H : (if (IntKind.u64.wrap (t764)) = 0 then (none) else (if 0 < (y778.length : Int) then ((some (y778.set (0 : Int).toNat (Int.tmod a2 (IntKind.u64.wrap (t764))) : List Int)).bind fun y781 => ((election_Tally.f k1 y781 t764).bind fun t782 => (if (t768.length : Int) = t764 then (if (t782.length : Int) = t764 then ((election_Tally.f k1 x11_1 t764).bind fun t785 => ((zao.f k1 t785 t768).bind fun t788 => (privitylaw50_ElectionChangedVote.j1 k1 t763 t764 t765 t768 y781 t782 (!t788)))) else (privitylaw50_ElectionChangedVote.j1 k1 t763 t764 t765 t768 y781 t782 true)) else (privitylaw50_ElectionChangedVote.j1 k1 t763 t764 t765 t768 y781 t782 true)))) else (none))) = some r:=yr hy778 H
     have Ny778:=zA0 hy778;clear hy778
     by_cases c19 : (IntKind.u64.wrap (t764)) = 0
     ·rw [if_pos c19] at H
      exact absurd H (by simp)
     ·rw [if_neg c19] at H
      have c19b0 : ((IntKind.u64.wrap (t764)) == 0) = false:=beq_eq_false_iff_ne.mpr c19;have c19b1 : ((IntKind.u64.wrap (t764)) != 0) = true:=bne_iff_ne.mpr c19
      by_cases c20 : 0 < (y778.length : Int)
      ·rw [if_pos c20] at H
       have c20b0 : decide (0 < (y778.length : Int)) = true:=decide_eq_true c20;have c20b1 : decide (0 < y778.length) = true:=decide_eq_true (by omega);clear c20
       obtain ⟨y781,hy781⟩ : ∃ y_ : List Int,y_ = (y778.set (0 : Int).toNat (Int.tmod a2 (IntKind.u64.wrap (t764)))):=⟨_,rfl⟩
       replace H : ((election_Tally.f k1 y781 t764).bind fun t782 => (if (t768.length : Int) = t764 then (if (t782.length : Int) = t764 then ((election_Tally.f k1 x11_1 t764).bind fun t785 => ((zao.f k1 t785 t768).bind fun t788 => (privitylaw50_ElectionChangedVote.j1 k1 t763 t764 t765 t768 y781 t782 (!t788)))) else (privitylaw50_ElectionChangedVote.j1 k1 t763 t764 t765 t768 y781 t782 true)) else (privitylaw50_ElectionChangedVote.j1 k1 t763 t764 t765 t768 y781 t782 true))) = some r:=yr hy781 H
       have Ny781:=zA0 hy781;clear hy781;replace H:=Option.bind_eq_some_iff.mp H;obtain ⟨t782,A220,H⟩:=H;replace H : (if (t768.length : Int) = t764 then (if (t782.length : Int) = t764 then ((election_Tally.f k1 x11_1 t764).bind fun t785 => ((zao.f k1 t785 t768).bind fun t788 => (privitylaw50_ElectionChangedVote.j1 k1 t763 t764 t765 t768 y781 t782 (!t788)))) else (privitylaw50_ElectionChangedVote.j1 k1 t763 t764 t765 t768 y781 t782 true)) else (privitylaw50_ElectionChangedVote.j1 k1 t763 t764 t765 t768 y781 t782 true)) = some r:=H;have A22:=zA0 A220;clear A220;have HC23:=zA0 H;clear H
       go_upto_region 12 with (first | ((with_reducible refine zbm (N:=44) rfl ?_);(try (refine zcy (by rfl) ?_;dsimp only));refine Kd.R_lit (Kd.int .u64) _ 37 ?hg (N:=44) ?hd (xs:=([] : List Int)) (inner:=[]) (ok:=fun _ => True) (okp:=fun _ => True) ?hr ?hp (fun _ hk => hk) trivial (Below.refl _ _) (Nat.le_refl _) (by simp) ?_;(case hd => rfl);(case hg => rfl);(case hr => first | (go_simp;done) | (go_simp;rfl));(case hp => exact (Reps.none _ _));intro v776 w24 ho25 hb hg_ hnew_;clear hg_ hnew_;(first | rw [← Ny775.out] at ho25 | (simp only [Int.reduceToNat] at ho25;rw [← Ny775.out] at ho25));have n0_:=zA0 (Kd.R_elder' (zrR HO_9) (Kd.R_base ho25) hb);have n1_:=zA0 (Kd.R_elder' (zrR HO_10) (Kd.R_base ho25) hb);have n2_:=zA0 (Kd.R_elder' (zrR HO_11) (Kd.R_base ho25) hb);have n3_:=zA0 (Kd.R_lower (Kd.R_new' (Kd.R_new' (Kd.R_new' ho25 (Kd.R_lt (zrR HO_9))) (Kd.R_lt (zrR HO_10))) (Kd.R_lt (zrR HO_11))) (zb7 yq93));have n4_:=zA0 (za4 (g:=gb762) (o:=.cells #[.int .u8 a0_0,.int .u8 a0_1] 22 (0,0)) (zb BK762) hb);have n5_:=zA0 (zaj yq93 hb);clear HO_9 HO_10 HO_11 BK762 HB;revert n0_ n1_ n2_ n3_ n4_ n5_;intro HO_9 HO_10 HO_11 HO777 BK762 HB;clear hb ho25) | ((with_reducible refine zdn (b:=.append) (xs:=#[.tmp 44,.tmp 45]) rfl ?_);(try (refine zcy (by rfl) ?_;dsimp only));at_builtin;refine Kd.R_append_rows (Kd.int .u64) (w0:=w) w.heap.size rfl (.tmp 44) (.tmp 45) 23 37 (.int .u64 0) 8 rfl Tryz.underlying23 info37 rfl (by decide) (by omega) v776 y775 t765 _ _ _ (fun k_ => some k_≠(.slice Ao11 t765.length co11 : Value).ownBlock∧some k_≠(v769 : Value).ownBlock∧some k_≠(u11 : Value).ownBlock) (fun _ => False) rfl rfl ?aO ?aR (fun _ _ h => h) (fun _ h => h.elim) ?aF ?aB ?aS ?aL ?_;(case aR => repeat (first | exact (Kd.R_reads' HO_9.out).2.2 | (with_reducible refine Kd.C_alloc ?_ _) | (with_reducible refine Kd.C_drewN ?_ _) | (with_reducible refine Kd.C_drew ?_)));(case aB => exact yq93);(case aF => exact (fun k_ hk => ⟨Kd.fresh' (Kd.R_lt (zrR HO_9)) k_ hk,Kd.fresh' (Kd.R_lt (zrR HO_10)) k_ hk,Kd.fresh' (Kd.R_lt (zrR HO_11)) k_ hk⟩));(case aO => exact (by refine yb2 ?_;exact Kd.R_mono HO777.out (fun _ hk => ⟨hk.1.1.2,⟨hk.1.2,hk.2⟩⟩)));(case aS => exact (zb7 yq93));(case aL => have:=LMc18.out;omega);intro v779 w26 ho hb hg hat;rw [← Ny778.out] at ho;have n0_:=zA0 (Kd.R_after (ok:=(fun k_ => some k_≠(v769 : Value).ownBlock∧some k_≠(u11 : Value).ownBlock)) (zrR HO_9) hg hat);have n1_:=zA0 (Kd.R_after (ok:=(fun k_ => some k_≠(.slice Ao11 t765.length co11 : Value).ownBlock∧some k_≠(u11 : Value).ownBlock)) (zrR HO_10) hg hat);have n2_:=zA0 (Kd.R_after (ok:=(fun k_ => some k_≠(.slice Ao11 t765.length co11 : Value).ownBlock∧some k_≠(v769 : Value).ownBlock)) (zrR HO_11) hg hat);have n3_:=zA0 (zdf (g:=gb762) (o:=.cells #[.int .u8 a0_0,.int .u8 a0_1] 22 (0,0)) (zb BK762) hg (Kd.R_ne HO777.out BK762.out (by decide)));have n4_:=zA0 (hb);have n5_:=zA0 (ho);clear HO_9 HO_10 HO_11 BK762 HB HO777;revert n0_ n1_ n2_ n3_ n4_ n5_;intro HO_9 HO_10 HO_11 BK762 HB HO780;clear ho hb hg hat;have p21 : 0≤(0 : Int):=(by omega);have q21 : (0 : Int) < ((y778.length : Int) : Int):=of_decide_eq_true yq3;have qi21 : (0 < y778.length) = True:=eq_true (by omega);obtain ⟨go21,co21,eo21,gb21,gl21,cl21,HG21⟩:=Kd.R_form HO780.out (by omega);(first | cases eo21 | (injection eo21 with ea_ en_ ec_;(first | subst ea_ | (injection ea_ with ea_;subst ea_));subst ec_;clear en_));have GB21:=zA0 gb21;have GG21:=zA0 HG21;clear gb21 gl21 HG21;obtain ⟨hx21_0,hf21_0⟩:=Kd.R_celln 0 HO780.out (0 : Int) p21 q21;(try rw [show ((0 : Int)).toNat = 0 from rfl] at hx21_0);(try simp only [Nat.reduceMul,Nat.zero_mul,Nat.zero_add,Nat.reduceAdd] at hx21_0);(try rw [show ((0 : Int)).toNat = 0 from rfl] at hf21_0);(try simp only [Nat.reduceMul,Nat.zero_mul,Nat.zero_add,Nat.reduceAdd] at hf21_0);replace p21:=eq_true p21;replace q21:=eq_true q21;obtain ⟨hy27_,hz27_⟩:=Kd.R_celln 0 HO780.out (0 : Int) (by omega) (of_decide_eq_true yq3);(try simp only [Int.reduceToNat,Int.toNat_zero,Int.toNat_ofNat,Nat.reduceMul,Nat.zero_mul,Nat.zero_add] at hy27_ hz27_);(try rw [show ((0 : Int)).toNat = 0 from rfl] at hy27_);(try rw [show ((0 : Int)).toNat = 0 from rfl] at hz27_);have HP27:=Kd.R_putg HO780.out (0 : Int) (Int.tmod a2 (IntKind.u64.wrap (t764)))) | ((with_reducible refine gate_store (t:=37) (p:=52) rfl ?_);refine store_event (t:=37) (p:=52) (v:=?vo_w28) (w1:=(w26.setCell ⟨go21,(0 : Int).toNat,none⟩ (.int .u64 (Int.tmod a2 (IntKind.u64.wrap (t764)))))) ?hg ?ho ?hn ?hr ?_;(case ho => rfl);(case hg => rfl);(case hn => rfl);(case hr => first | (go_simp;done) | (go_simp;rfl));intro w28 hw;have hg : w26.grownBy w28 (some go21):=(by rw [hw];exact HP27.2);have hp_ : Kd.R (Kd.int .u64) 37 w28 w.heap.size (fun k_ => some k_≠(.slice Ao11 t765.length co11 : Value).ownBlock∧some k_≠(v769 : Value).ownBlock∧some k_≠(u11 : Value).ownBlock) (.slice (some ⟨go21,0,none⟩) y778.length co21) y781:=(by rw [hw,Ny781.out];exact HP27.1);clear HP27;have n0_:=zA0 (Kd.R_after (v:=(.slice (some ⟨go21,0,none⟩) y778.length co21)) (v1:=(.slice (some ⟨go21,0,none⟩) y778.length co21)) (ok:=(fun k_ => some k_≠(v769 : Value).ownBlock∧some k_≠(u11 : Value).ownBlock)) (zrR HO_9) hg (.inl rfl));have n1_:=zA0 (Kd.R_after (v:=(.slice (some ⟨go21,0,none⟩) y778.length co21)) (v1:=(.slice (some ⟨go21,0,none⟩) y778.length co21)) (ok:=(fun k_ => some k_≠(.slice Ao11 t765.length co11 : Value).ownBlock∧some k_≠(u11 : Value).ownBlock)) (zrR HO_10) hg (.inl rfl));have n2_:=zA0 (Kd.R_after (v:=(.slice (some ⟨go21,0,none⟩) y778.length co21)) (v1:=(.slice (some ⟨go21,0,none⟩) y778.length co21)) (ok:=(fun k_ => some k_≠(.slice Ao11 t765.length co11 : Value).ownBlock∧some k_≠(v769 : Value).ownBlock)) (zrR HO_11) hg (.inl rfl));have n3_:=zA0 (zdf (g:=gb762) (o:=.cells #[.int .u8 a0_0,.int .u8 a0_1] 22 (0,0)) (zb BK762) hg (Kd.R_ne HO780.out BK762.out (by decide)));have n4_:=zA0 (hp_);have n5_:=zA0 ((by rw [hw];exact zba (HB.out) GB21.out : Below w.heap.size w w28));clear HO_9 HO_10 HO_11 BK762 HO780 HB;revert n0_ n1_ n2_ n3_ n4_ n5_;intro HO_9 HO_10 HO_11 BK762 HO780 HB;clear hg hw hp_) | ((with_reducible refine zav (f:=17) rfl ?_);refine zcf (some 55) rfl rfl Tryz.func17 (by kernel_rfl) rfl #[.slice (some ⟨go21,0,none⟩) y781.length co21,.int .i64 t764] rfl (by (try simp only [List.map_toArray,List.map_cons,List.map_nil]);first | done | (rw [show y781.length = y778.length from (Kd.R_reads' HO780.out).1.symm] <;> rfl) | rfl | (simp only [List.length_drop,List.length_take];rfl)) ?_;(with_reducible refine (election_Tally.calls k1 _ _ y781 t764 t782 _ ?side1 ?side2 A22.out).mono ?_);(case side1 => exact (by repeat (first | exact (Kd.R_reads' HO780.out).2.2 | (with_reducible refine Kd.C_alloc ?_ _) | (with_reducible refine Kd.C_drewN ?_ _) | (with_reducible refine Kd.C_drew ?_))));(case side2 => rw [show y781.length = y778.length from (Kd.R_reads' HO780.out).1.symm];exact (Kd.R_reads' HO780.out).2.1);rintro e w29 ⟨v783,rfl,ho0,hb⟩;refine ⟨_,rfl,?_⟩;have n0_:=zA0 (Kd.R_elder' (zrR HO_9) (Kd.R_base ho0) hb);have n1_:=zA0 (Kd.R_elder' (zrR HO_10) (Kd.R_base ho0) hb);have n2_:=zA0 (Kd.R_elder' (zrR HO_11) (Kd.R_base ho0) hb);have n3_:=zA0 (Kd.R_elder' (zrR HO780) (Kd.R_base ho0) hb);have n4_:=zA0 (Kd.R_lower (Kd.R_new' (Kd.R_new' (Kd.R_new' (Kd.R_new' ho0 (Kd.R_lt (zrR HO_9))) (Kd.R_lt (zrR HO_10))) (Kd.R_lt (zrR HO_11))) (Kd.R_lt (zrR HO780))) (zb7 yq93));have n5_:=zA0 (za4 (g:=gb762) (o:=.cells #[.int .u8 a0_0,.int .u8 a0_1] 22 (0,0)) (zb BK762) hb);have n6_:=zA0 (zaj yq93 hb);clear HO_9 HO_10 HO_11 HO780 BK762 HB;revert n0_ n1_ n2_ n3_ n4_ n5_ n6_;intro HO_9 HO_10 HO_11 HO780 HO784 BK762 HB;clear hb ho0))
       (try simp only [Act.put,za1,za2,za3])
       go_cut [73] (fun v73 wc => ∃ (kq : Nat) (x73_22 : Bool),v73 = .bool x73_22∧Aside0 (privitylaw50_ElectionChangedVote.j1 kq t763 t764 t765 t768 y781 t782 x73_22 = some r)∧Aside0 (kq≤k1)∧Aside0 (Kd.R (Kd.int .u64) 37 wc w.heap.size (fun k_ => some k_≠(v769 : Value).ownBlock∧some k_≠((.slice (some ⟨go21,0,none⟩) y778.length co21) : Value).ownBlock∧some k_≠(v783 : Value).ownBlock) (.slice Ao11 t765.length co11) t765)∧Aside0 (Kd.R (Kd.int .u64) 37 wc w.heap.size (fun k_ => some k_≠((.slice Ao11 t765.length co11) : Value).ownBlock∧some k_≠((.slice (some ⟨go21,0,none⟩) y778.length co21) : Value).ownBlock∧some k_≠(v783 : Value).ownBlock) v769 t768)∧Aside0 (Kd.R (Kd.int .u64) 37 wc w.heap.size (fun k_ => some k_≠((.slice Ao11 t765.length co11) : Value).ownBlock∧some k_≠(v769 : Value).ownBlock∧some k_≠(v783 : Value).ownBlock) (.slice (some ⟨go21,0,none⟩) y778.length co21) y781)∧Aside0 (Kd.R (Kd.int .u64) 37 wc w.heap.size (fun k_ => some k_≠((.slice Ao11 t765.length co11) : Value).ownBlock∧some k_≠(v769 : Value).ownBlock∧some k_≠((.slice (some ⟨go21,0,none⟩) y778.length co21) : Value).ownBlock) v783 t782)∧Aside0 (wc.heap[gb762]? = some (.cells #[.int .u8 a0_0,.int .u8 a0_1] 22 (0,0)))∧Aside0 (Below w.heap.size w wc))
       case first =>
        have H:=HC23.out;clear HC23
        by_cases c30 : (t768.length : Int) = t764
        ·rw [if_pos c30] at H
         have c30b0 : ((t768.length : Int) == t764) = true:=beq_iff_eq.mpr c30;have c30b1 : ((t768.length : Int) != t764) = false:=bne_eq_false_iff_eq.mpr c30;clear c30
         (first | rw [c30b0] | (simp only [zc7,zdc];rw [c30b0]) | skip)
         by_cases c31 : (t782.length : Int) = t764
         ·rw [if_pos c31] at H
          have c31b0 : ((t782.length : Int) == t764) = true:=beq_iff_eq.mpr c31;have c31b1 : ((t782.length : Int) != t764) = false:=bne_eq_false_iff_eq.mpr c31;clear c31;replace H:=Option.bind_eq_some_iff.mp H;obtain ⟨t785,A320,H⟩:=H;replace H : ((zao.f k1 t785 t768).bind fun t788 => (privitylaw50_ElectionChangedVote.j1 k1 t763 t764 t765 t768 y781 t782 (!t788))) = some r:=H;have A32:=zA0 A320;clear A320;replace H:=Option.bind_eq_some_iff.mp H;obtain ⟨t788,A330,H⟩:=H;replace H : (privitylaw50_ElectionChangedVote.j1 k1 t763 t764 t765 t768 y781 t782 (!t788)) = some r:=H;have A33:=zA0 A330;clear A330;have H':=zA0 H;clear H;obtain ⟨Ao34,co34,eo34⟩:=Kd.R_slice HO_10.out;subst eo34;obtain ⟨Ao35,co35,eo35⟩:=Kd.R_slice HO784.out;subst eo35;obtain ⟨Ao36,co36,eo36⟩:=Kd.R_slice HO_11.out;subst eo36
          go_wp2_with (first | (go_at_call 17;(with_reducible refine (election_Tally.calls k1 _ _ x11_1 t764 t785 _ ?side1 ?side2 A32.out).mono ?_);(case side1 => exact (by repeat (first | exact (Kd.R_reads' HO_11.out).2.2 | (with_reducible refine Kd.C_alloc ?_ _) | (with_reducible refine Kd.C_drewN ?_ _) | (with_reducible refine Kd.C_drew ?_))));(case side2 => exact (Kd.R_reads' HO_11.out).2.1);rintro e w37 ⟨v786,rfl,ho0,hb⟩;have n0_:=zA0 (Kd.R_elder' (zrR HO_9) (Kd.R_base ho0) hb);have n1_:=zA0 (Kd.R_elder' (zrR HO_10) (Kd.R_base ho0) hb);have n2_:=zA0 (Kd.R_elder' (zrR HO_11) (Kd.R_base ho0) hb);have n3_:=zA0 (Kd.R_elder' (zrR HO780) (Kd.R_base ho0) hb);have n4_:=zA0 (Kd.R_elder' (zrR HO784) (Kd.R_base ho0) hb);have n5_:=zA0 (Kd.R_lower (Kd.R_new' (Kd.R_new' (Kd.R_new' (Kd.R_new' (Kd.R_new' ho0 (Kd.R_lt (zrR HO_9))) (Kd.R_lt (zrR HO_10))) (Kd.R_lt (zrR HO_11))) (Kd.R_lt (zrR HO780))) (Kd.R_lt (zrR HO784))) (zb7 yq93));have n6_:=zA0 (za4 (g:=gb762) (o:=.cells #[.int .u8 a0_0,.int .u8 a0_1] 22 (0,0)) (zb BK762) hb);have n7_:=zA0 (zaj yq93 hb);clear HO_9 HO_10 HO_11 HO780 HO784 BK762 HB;revert n0_ n1_ n2_ n3_ n4_ n5_ n6_ n7_;intro HO_9 HO_10 HO_11 HO780 HO784 HO787 BK762 HB;clear hb ho0;obtain ⟨Ao38,co38,eo38⟩:=Kd.R_slice HO787.out;subst eo38) | (go_at_call 15;(with_reducible refine (zao.calls k1 _ _ t785 _ _ t768 t788 _ ?side1 ?side2 ?side3 ?side4 A33.out).mono ?_);(case side1 => exact (by repeat (first | exact (Kd.R_reads' HO787.out).2.2 | (with_reducible refine Kd.C_alloc ?_ _) | (with_reducible refine Kd.C_drewN ?_ _) | (with_reducible refine Kd.C_drew ?_))));(case side2 => exact (Kd.R_reads' HO787.out).2.1);(case side3 => exact (by repeat (first | exact (Kd.R_reads' HO_10.out).2.2 | (with_reducible refine Kd.C_alloc ?_ _) | (with_reducible refine Kd.C_drewN ?_ _) | (with_reducible refine Kd.C_drew ?_))));(case side4 => exact (Kd.R_reads' HO_10.out).2.1);rintro e w' ⟨rfl,⟨nd,rfl⟩⟩))
          go_meet
          case rel => exact ⟨_,(!t788),yq6,H',⟨yq101⟩,⟨by refine yb2 ?_;exact Kd.R_mono HO_9.out (fun _ hk => ⟨hk.1.1.1.1,⟨hk.1.1.2,hk.1.2⟩⟩)⟩,⟨by refine yb2 ?_;exact Kd.R_mono HO_10.out (fun _ hk => ⟨hk.1.1.1.1,⟨hk.1.1.2,hk.1.2⟩⟩)⟩,⟨by refine yb2 ?_;exact Kd.R_mono HO780.out (fun _ hk => ⟨hk.1.1.1,⟨hk.1.1.2.1,hk.1.2⟩⟩)⟩,⟨by refine yb2 ?_;exact Kd.R_mono HO784.out (fun _ hk => ⟨hk.1.1.1.1.2,⟨hk.1.1.1.2,hk.1.2⟩⟩)⟩,⟨yp2 BK762⟩,⟨yq46⟩⟩
         ·rw [if_neg c31] at H
          have c31b0 : ((t782.length : Int) == t764) = false:=beq_eq_false_iff_ne.mpr c31;have c31b1 : ((t782.length : Int) != t764) = true:=bne_iff_ne.mpr c31;have H':=zA0 H;clear H;obtain ⟨Ao39,co39,eo39⟩:=Kd.R_slice HO_10.out;subst eo39;obtain ⟨Ao40,co40,eo40⟩:=Kd.R_slice HO784.out;subst eo40;go_wp2
          go_meet
          case rel => exact ⟨_,(true),yq6,H',⟨yq101⟩,⟨by refine yb2 ?_;exact Kd.R_mono HO_9.out (fun _ hk => ⟨hk.1.1.1,⟨hk.1.2,hk.2⟩⟩)⟩,⟨by refine yb2 ?_;exact Kd.R_mono HO_10.out (fun _ hk => ⟨hk.1.1.1,⟨hk.1.2,hk.2⟩⟩)⟩,⟨by refine yb2 ?_;exact Kd.R_mono HO780.out (fun _ hk => ⟨hk.1.1,⟨hk.1.2.1,hk.2⟩⟩)⟩,⟨by refine yb2 ?_;exact Kd.R_mono HO784.out (fun _ hk => ⟨hk.1.1.1.2,⟨hk.1.1.2,hk.2⟩⟩)⟩,⟨yp2 BK762⟩,⟨yq46⟩⟩
        ·rw [if_neg c30] at H
         have c30b0 : ((t768.length : Int) == t764) = false:=beq_eq_false_iff_ne.mpr c30;have c30b1 : ((t768.length : Int) != t764) = true:=bne_iff_ne.mpr c30
         (first | rw [c30b0] | (simp only [zc7,zdc];rw [c30b0]) | skip)
         have H':=zA0 H;clear H;obtain ⟨Ao41,co41,eo41⟩:=Kd.R_slice HO_10.out;subst eo41;go_wp2
         go_meet
         case rel => exact ⟨_,(true),yq6,H',⟨yq101⟩,⟨by refine yb2 ?_;exact Kd.R_mono HO_9.out (fun _ hk => ⟨hk.1.1.1,⟨hk.1.2,hk.2⟩⟩)⟩,⟨by refine yb2 ?_;exact Kd.R_mono HO_10.out (fun _ hk => ⟨hk.1.1.1,⟨hk.1.2,hk.2⟩⟩)⟩,⟨by refine yb2 ?_;exact Kd.R_mono HO780.out (fun _ hk => ⟨hk.1.1,⟨hk.1.2.1,hk.2⟩⟩)⟩,⟨by refine yb2 ?_;exact Kd.R_mono HO784.out (fun _ hk => ⟨hk.1.1.1.2,⟨hk.1.1.2,hk.2⟩⟩)⟩,⟨yp2 BK762⟩,⟨yq46⟩⟩
       case rest =>
        clear HC23;(try clear q2);(try clear hx2);(try clear qi2);(try clear q7);(try clear hx7);(try clear q21);(try clear hx21);(try clear qi21);(try clear hf21);(try clear hx21_0);(try clear hx771_0);(try clear q21);(try clear q771);obtain ⟨kq,x73_22,rfl,HA,HJ22,HO_9,HO_10,HO_13,HO_14,BK762,HB⟩:=hcut;have hl13_22:=(Kd.R_reads' HO_13.out).1;rw [hl13_22] at HO_13;(try simp only [hl13_22]);(try simp only [hl13_22] at BK762);(try simp only [hl13_22] at HO_9);(try simp only [hl13_22] at HO_10);(try simp only [hl13_22] at HO_14)
        cases kq with
        | zero => exact absurd HA.out (by simp [privitylaw50_ElectionChangedVote.j1])
        | succ kj22 =>
         have H:=HA.out;clear HA;simp only [privitylaw50_ElectionChangedVote.j1] at H
         by_cases c42 : x73_22 = true
         ·subst c42
          have H1 : (none) = some r:=yq36
          clear H;have H:=H1;clear H1;exact absurd H (by simp)
         ·replace c42:=Bool.eq_false_iff.mpr c42
          subst c42
          have H1 : (privitylaw50_ElectionChangedVote.l1 kj22 t763 t764 t765 t768 y781 t782 0 0) = some r:=yq12
          clear H;have H:=H1;clear H1;have H':=zA0 H;clear H;go_wp2
          go_loopg [15,16] kj22 (fun kq v15 v16 w' => ∃ (x15_3 : Int) (x16_3 : Int),v15 = .int .u64 x15_3∧v16 = .int .i64 x16_3∧Aside0 (privitylaw50_ElectionChangedVote.l1 kq t763 t764 t765 t768 y781 t782 x15_3 x16_3 = some r)∧Aside0 (kq≤kj22)∧Aside0 (Kd.R (Kd.int .u64) 37 w' w.heap.size (fun k_ => some k_≠(v769 : Value).ownBlock∧some k_≠((.slice (some ⟨go21,0,none⟩) y781.length co21) : Value).ownBlock∧some k_≠(v783 : Value).ownBlock) (.slice Ao11 t765.length co11) t765)∧Aside0 (Kd.R (Kd.int .u64) 37 w' w.heap.size (fun k_ => some k_≠((.slice Ao11 t765.length co11) : Value).ownBlock∧some k_≠((.slice (some ⟨go21,0,none⟩) y781.length co21) : Value).ownBlock∧some k_≠(v783 : Value).ownBlock) v769 t768)∧Aside0 (Kd.R (Kd.int .u64) 37 w' w.heap.size (fun k_ => some k_≠((.slice Ao11 t765.length co11) : Value).ownBlock∧some k_≠(v769 : Value).ownBlock∧some k_≠(v783 : Value).ownBlock) (.slice (some ⟨go21,0,none⟩) y781.length co21) y781)∧Aside0 (Kd.R (Kd.int .u64) 37 w' w.heap.size (fun k_ => some k_≠((.slice Ao11 t765.length co11) : Value).ownBlock∧some k_≠(v769 : Value).ownBlock∧some k_≠((.slice (some ⟨go21,0,none⟩) y781.length co21) : Value).ownBlock) v783 t782)∧Aside0 (w'.heap[gb762]? = some (.cells #[.int .u8 a0_0,.int .u8 a0_1] 22 (0,0)))∧Aside0 (Below w.heap.size w w'))
          case atStart => exact ⟨(0),(0),yq6,yq6,H',⟨Nat.le_refl _⟩,⟨yq165⟩,⟨yq162⟩,⟨yq161⟩,⟨yq160⟩,⟨yq163⟩,⟨yq46⟩⟩
          case round =>
           clear H';(try clear q2);(try clear hx2);(try clear qi2);(try clear q7);(try clear hx7);(try clear q21);(try clear hx21);(try clear qi21);(try clear hf21);(try clear hx21_0);(try clear hx771_0);(try clear q2);(try clear q21);(try clear q7);(try clear q771);obtain ⟨x15_3,x16_3,rfl,rfl,HA,HK3,HO_9,HO_10,HO_13,HO_14,BK762,HB⟩:=hrel
           cases gk with
           | zero => exact absurd HA.out (by simp [privitylaw50_ElectionChangedVote.l1])
           | succ k3 =>
            have H:=HA.out;clear HA;simp only [privitylaw50_ElectionChangedVote.l1] at H
            by_cases c43 : x16_3 < t764
            ·rw [if_pos c43] at H
             have c43b0 : decide (x16_3 < t764) = true:=decide_eq_true c43;clear c43
             by_cases c44 : 0≤x16_3
             ·rw [if_pos c44] at H
              have c44b0 : decide (0≤x16_3) = true:=decide_eq_true c44;clear c44
              by_cases c45 : x16_3 < (t768.length : Int)
              ·rw [if_pos c45] at H
               have c45b0 : decide (x16_3 < (t768.length : Int)) = true:=decide_eq_true c45;clear c45
               by_cases c46 : 0 < (t765.length : Int)
               ·rw [if_pos c46] at H
                have c46b0 : decide (0 < (t765.length : Int)) = true:=decide_eq_true c46;have c46b1 : decide (0 < t765.length) = true:=decide_eq_true (by omega);clear c46;have HC47:=zA0 H;clear H;obtain ⟨Ao48,co48,eo48⟩:=Kd.R_slice HO_10.out;subst eo48;have p790 : 0≤(x16_3 : Int):=of_decide_eq_true yq3;have q790 : x16_3 < (t768.length : Int):=of_decide_eq_true yq3;obtain ⟨ad790,e790,hx790_0⟩:=Kd.at_int (Kd.R_reads' HO_10.out).2.2 x16_3 p790 q790;cases e790;replace p790:=eq_true p790;replace q790:=eq_true q790;have p791 : 0≤(x16_3 : Int):=of_decide_eq_true yq3;have q791 : x16_3 < (t768.length : Int):=of_decide_eq_true yq3;obtain ⟨ad791,e791,hx791_0⟩:=Kd.at_int (Kd.R_reads' HO_10.out).2.2 x16_3 p791 q791
                obtain rfl : ad790 = ad791:=(by injection e791)
                replace p791:=eq_true p791;replace q791:=eq_true q791
                have p792 : 0≤(0 : Int):=(by omega)
                have q792 : 0 < (t765.length : Int):=of_decide_eq_true yq3;obtain ⟨ad792,e792,hx792_0⟩:=Kd.at_int (Kd.R_reads' HO_9.out).2.2 0 p792 q792;cases e792;have qi792 : (0 < t765.length) = True:=eq_true (by omega);(try rw [show ((0 : Int)).toNat = 0 from rfl] at hx792_0);(try rw [Addr.add_zero'] at hx792_0);replace p792:=eq_true p792;replace q792:=eq_true q792
                go_upto_if 94 with (fail)
                go_cut [17] (fun v17 wc => ∃ (kq : Nat) (x17_46 : Int),v17 = .int .u64 x17_46∧Aside0 (privitylaw50_ElectionChangedVote.j3 kq t763 t764 t765 t768 y781 t782 (IntKind.u64.wrap (x15_3 + (rd t768 x16_3))) x16_3 x17_46 = some r)∧Aside0 (kq≤k3)∧Aside0 (Kd.R (Kd.int .u64) 37 wc w.heap.size (fun k_ => some k_≠((.slice (some ad790) t768.length co48) : Value).ownBlock∧some k_≠((.slice (some ⟨go21,0,none⟩) y781.length co21) : Value).ownBlock∧some k_≠(v783 : Value).ownBlock) (.slice (some ad792) t765.length co11) t765)∧Aside0 (Kd.R (Kd.int .u64) 37 wc w.heap.size (fun k_ => some k_≠((.slice (some ad792) t765.length co11) : Value).ownBlock∧some k_≠((.slice (some ⟨go21,0,none⟩) y781.length co21) : Value).ownBlock∧some k_≠(v783 : Value).ownBlock) (.slice (some ad790) t768.length co48) t768)∧Aside0 (Kd.R (Kd.int .u64) 37 wc w.heap.size (fun k_ => some k_≠((.slice (some ad792) t765.length co11) : Value).ownBlock∧some k_≠((.slice (some ad790) t768.length co48) : Value).ownBlock∧some k_≠(v783 : Value).ownBlock) (.slice (some ⟨go21,0,none⟩) y781.length co21) y781)∧Aside0 (Kd.R (Kd.int .u64) 37 wc w.heap.size (fun k_ => some k_≠((.slice (some ad792) t765.length co11) : Value).ownBlock∧some k_≠((.slice (some ad790) t768.length co48) : Value).ownBlock∧some k_≠((.slice (some ⟨go21,0,none⟩) y781.length co21) : Value).ownBlock) v783 t782)∧Aside0 (wc.heap[gb762]? = some (.cells #[.int .u8 a0_0,.int .u8 a0_1] 22 (0,0)))∧Aside0 (Below w.heap.size w wc))
                case first =>
                 have H:=HC47.out;clear HC47
                 by_cases c49 : (rd t765 0) = (IntKind.u64.wrap (x16_3))
                 ·rw [if_pos c49] at H
                  have c49b0 : ((rd t765 0) == (IntKind.u64.wrap (x16_3))) = true:=beq_iff_eq.mpr c49;have c49b1 : ((rd t765 0) != (IntKind.u64.wrap (x16_3))) = false:=bne_eq_false_iff_eq.mpr c49;clear c49
                  (first | rw [c49b0] | (simp only [zc7,zdc];rw [c49b0]) | skip)
                  have H':=zA0 H;clear H;go_wp2
                  go_meet
                  case rel => exact ⟨_,(IntKind.u64.wrap ((rd t768 x16_3) - 1)),yq6,H',⟨by have:=HK1.out;have:=HJ22.out;have:=HK3.out;first | omega | exact Nat.le_refl _⟩,⟨yq165⟩,⟨yq162⟩,⟨yq161⟩,⟨yq160⟩,⟨yq163⟩,⟨yq46⟩⟩
                 ·rw [if_neg c49] at H
                  have c49b0 : ((rd t765 0) == (IntKind.u64.wrap (x16_3))) = false:=beq_eq_false_iff_ne.mpr c49;have c49b1 : ((rd t765 0) != (IntKind.u64.wrap (x16_3))) = true:=bne_iff_ne.mpr c49
                  (first | rw [c49b0] | (simp only [zc7,zdc];rw [c49b0]) | skip)
                  have H':=zA0 H;clear H;go_wp2
                  go_meet
                  case rel => exact ⟨_,(rd t768 x16_3),yq6,H',⟨by have:=HK1.out;have:=HJ22.out;have:=HK3.out;first | omega | exact Nat.le_refl _⟩,⟨yq165⟩,⟨yq162⟩,⟨yq161⟩,⟨yq160⟩,⟨yq163⟩,⟨yq46⟩⟩
                case rest =>
                 clear HC47;(try clear q2);(try clear hx2);(try clear qi2);(try clear q7);(try clear hx7);(try clear qi7);(try clear q21);(try clear hx21);(try clear qi21);(try clear hf21);(try clear hx21_0);(try clear hx771_0);(try clear hx790_0);(try clear hx791_0);(try clear hx792_0);(try clear q2);(try clear q21);(try clear q7);(try clear q771);(try clear q790);(try clear q791);(try clear q792);obtain ⟨kq,x17_46,rfl,HA,HJ46,HO_9,HO_10,HO_13,HO_14,BK762,HB⟩:=hcut
                 cases kq with
                 | zero => exact absurd HA.out (by simp [privitylaw50_ElectionChangedVote.j3])
                 | succ kj46 =>
                  have H:=HA.out;clear HA;simp only [privitylaw50_ElectionChangedVote.j3] at H
                  by_cases c50 : 0 < (y781.length : Int)
                  ·rw [if_pos c50] at H
                   have c50b0 : decide (0 < (y781.length : Int)) = true:=decide_eq_true c50;have c50b1 : decide (0 < y781.length) = true:=decide_eq_true (by omega);clear c50
                   by_cases c51 : (rd y781 0) = (IntKind.u64.wrap (x16_3))
                   ·rw [if_pos c51] at H
                    have c51b0 : ((rd y781 0) == (IntKind.u64.wrap (x16_3))) = true:=beq_iff_eq.mpr c51;have c51b1 : ((rd y781 0) != (IntKind.u64.wrap (x16_3))) = false:=bne_eq_false_iff_eq.mpr c51;clear c51
                    by_cases c52 : 0≤x16_3
                    ·rw [if_pos c52] at H
                     have c52b0 : decide (0≤x16_3) = true:=decide_eq_true c52;clear c52
                     by_cases c53 : x16_3 < (t782.length : Int)
                     ·rw [if_pos c53] at H
                      have c53b0 : decide (x16_3 < (t782.length : Int)) = true:=decide_eq_true c53;clear c53
                      by_cases c54 : (rd t782 x16_3) = (IntKind.u64.wrap (x17_46 + 1))
                      ·rw [if_pos c54] at H
                       have c54b0 : ((rd t782 x16_3) == (IntKind.u64.wrap (x17_46 + 1))) = true:=beq_iff_eq.mpr c54;have c54b1 : ((rd t782 x16_3) != (IntKind.u64.wrap (x17_46 + 1))) = false:=bne_eq_false_iff_eq.mpr c54;clear c54;have H':=zA0 H;clear H
                       have p793 : 0≤(0 : Int):=(by omega)
                       have q793 : 0 < (y781.length : Int):=of_decide_eq_true yq3;obtain ⟨ad793,e793,hx793_0⟩:=Kd.at_int (Kd.R_reads' HO_13.out).2.2 0 p793 q793
                       obtain rfl : (⟨go21,0,none⟩ : Addr) = ad793:=(by injection e793)
                       (first | simp only [zdz] at hx793_0 | simp only [add_at] at hx793_0 | simp only [Addr.add,Nat.zero_add] at hx793_0 | skip)
                       have qi793 : (0 < y781.length) = True:=eq_true (by omega);(try rw [show ((0 : Int)).toNat = 0 from rfl] at hx793_0);(try rw [Addr.add_zero'] at hx793_0);replace p793:=eq_true p793;replace q793:=eq_true q793;obtain ⟨Ao55,co55,eo55⟩:=Kd.R_slice HO_14.out;subst eo55;have p794 : 0≤(x16_3 : Int):=of_decide_eq_true yq3;have q794 : x16_3 < (t782.length : Int):=of_decide_eq_true yq3;obtain ⟨ad794,e794,hx794_0⟩:=Kd.at_int (Kd.R_reads' HO_14.out).2.2 x16_3 p794 q794;cases e794;replace p794:=eq_true p794;replace q794:=eq_true q794;go_wp2
                       go_roundg kj46
                       case measure => have:=HK1.out;have:=HJ22.out;have:=HK3.out;have:=HJ46.out;omega
                       case rel => exact ⟨((IntKind.u64.wrap (x15_3 + (rd t768 x16_3)))),(wrap64 (x16_3 + 1)),yq6,yq6,H',⟨by have:=HK1.out;have:=HJ22.out;have:=HK3.out;have:=HJ46.out;omega⟩,⟨yq165⟩,⟨yq162⟩,⟨yq161⟩,⟨yq160⟩,⟨yq163⟩,⟨yq46⟩⟩
                      ·rw [if_neg c54] at H
                       exact absurd H (by simp)
                     ·rw [if_neg c53] at H
                      exact absurd H (by simp)
                    ·rw [if_neg c52] at H
                     exact absurd H (by simp)
                   ·rw [if_neg c51] at H
                    have c51b0 : ((rd y781 0) == (IntKind.u64.wrap (x16_3))) = false:=beq_eq_false_iff_ne.mpr c51;have c51b1 : ((rd y781 0) != (IntKind.u64.wrap (x16_3))) = true:=bne_iff_ne.mpr c51
                    by_cases c56 : 0≤x16_3
                    ·rw [if_pos c56] at H
                     have c56b0 : decide (0≤x16_3) = true:=decide_eq_true c56;clear c56
                     by_cases c57 : x16_3 < (t782.length : Int)
                     ·rw [if_pos c57] at H
                      have c57b0 : decide (x16_3 < (t782.length : Int)) = true:=decide_eq_true c57;clear c57
                      by_cases c58 : (rd t782 x16_3) = x17_46
                      ·rw [if_pos c58] at H
                       have c58b0 : ((rd t782 x16_3) == x17_46) = true:=beq_iff_eq.mpr c58;have c58b1 : ((rd t782 x16_3) != x17_46) = false:=bne_eq_false_iff_eq.mpr c58;clear c58;have H':=zA0 H;clear H
                       have p793 : 0≤(0 : Int):=(by omega)
                       have q793 : 0 < (y781.length : Int):=of_decide_eq_true yq3;obtain ⟨ad793,e793,hx793_0⟩:=Kd.at_int (Kd.R_reads' HO_13.out).2.2 0 p793 q793
                       obtain rfl : (⟨go21,0,none⟩ : Addr) = ad793:=(by injection e793)
                       (first | simp only [zdz] at hx793_0 | simp only [add_at] at hx793_0 | simp only [Addr.add,Nat.zero_add] at hx793_0 | skip)
                       have qi793 : (0 < y781.length) = True:=eq_true (by omega);(try rw [show ((0 : Int)).toNat = 0 from rfl] at hx793_0);(try rw [Addr.add_zero'] at hx793_0);replace p793:=eq_true p793;replace q793:=eq_true q793;obtain ⟨Ao59,co59,eo59⟩:=Kd.R_slice HO_14.out;subst eo59;have p795 : 0≤(x16_3 : Int):=of_decide_eq_true yq3;have q795 : x16_3 < (t782.length : Int):=of_decide_eq_true yq3;obtain ⟨ad795,e795,hx795_0⟩:=Kd.at_int (Kd.R_reads' HO_14.out).2.2 x16_3 p795 q795;cases e795;replace p795:=eq_true p795;replace q795:=eq_true q795;go_wp2
                       go_roundg kj46
                       case measure => have:=HK1.out;have:=HJ22.out;have:=HK3.out;have:=HJ46.out;omega
                       case rel => exact ⟨((IntKind.u64.wrap (x15_3 + (rd t768 x16_3)))),(wrap64 (x16_3 + 1)),yq6,yq6,H',⟨by have:=HK1.out;have:=HJ22.out;have:=HK3.out;have:=HJ46.out;omega⟩,⟨yq165⟩,⟨yq162⟩,⟨yq161⟩,⟨yq160⟩,⟨yq163⟩,⟨yq46⟩⟩
                      ·rw [if_neg c58] at H
                       exact absurd H (by simp)
                     ·rw [if_neg c57] at H
                      exact absurd H (by simp)
                    ·rw [if_neg c56] at H
                     exact absurd H (by simp)
                  ·rw [if_neg c50] at H
                   exact absurd H (by simp)
               ·rw [if_neg c46] at H
                exact absurd H (by simp)
              ·rw [if_neg c45] at H
               exact absurd H (by simp)
             ·rw [if_neg c44] at H
              exact absurd H (by simp)
            ·rw [if_neg c43] at H
             have c43b0 : decide (x16_3 < t764) = false:=decide_eq_false c43;clear c43;replace H:=Option.bind_eq_some_iff.mp H;obtain ⟨t789,A600,H⟩:=H;replace H : (if t789 = true then (some (decide (x15_3≤(IntKind.u64.wrap (t763))))) else (some false)) = some r:=H;have A60:=zA0 A600;clear A600
             by_cases c61 : t789 = true
             ·subst c61
              have H1 : (some (decide (x15_3≤(IntKind.u64.wrap (t763))))) = some r:=yq36
              clear H;have H:=H1;clear H1;obtain rfl:=Option.some.inj H
              go_wp2_with (first | ((with_reducible refine zav (f:=14) rfl ?_);refine zcf (some 111) rfl rfl Tryz.func14 (by kernel_rfl) rfl #[] rfl zt ?_;(with_reducible refine (zbh.calls k3  true _ A60.out).mono ?_);rintro e w62 ⟨rfl,hb⟩;refine ⟨_,rfl,?_⟩;have n0_:=zA0 (Kd.R_below (zrR HO_9) hb);have n1_:=zA0 (Kd.R_below (zrR HO_10) hb);have n2_:=zA0 (Kd.R_below (zrR HO_13) hb);have n3_:=zA0 (Kd.R_below (zrR HO_14) hb);have n4_:=zA0 (za4 (g:=gb762) (o:=.cells #[.int .u8 a0_0,.int .u8 a0_1] 22 (0,0)) (zb BK762) hb);have n5_:=zA0 (zaj yq93 hb);clear HO_9 HO_10 HO_13 HO_14 BK762 HB;revert n0_ n1_ n2_ n3_ n4_ n5_;intro HO_9 HO_10 HO_13 HO_14 BK762 HB;clear hb))
              go_ret;exact ⟨yq7,yq93⟩
             ·replace c61:=Bool.eq_false_iff.mpr c61
              subst c61
              have H1 : (some false) = some r:=yq12
              clear H;have H:=H1;clear H1;obtain rfl:=Option.some.inj H
              go_wp2_with (first | ((with_reducible refine zav (f:=14) rfl ?_);refine zcf (some 111) rfl rfl Tryz.func14 (by kernel_rfl) rfl #[] rfl zt ?_;(with_reducible refine (zbh.calls k3  false _ A60.out).mono ?_);rintro e w63 ⟨rfl,hb⟩;refine ⟨_,rfl,?_⟩;have n0_:=zA0 (Kd.R_below (zrR HO_9) hb);have n1_:=zA0 (Kd.R_below (zrR HO_10) hb);have n2_:=zA0 (Kd.R_below (zrR HO_13) hb);have n3_:=zA0 (Kd.R_below (zrR HO_14) hb);have n4_:=zA0 (za4 (g:=gb762) (o:=.cells #[.int .u8 a0_0,.int .u8 a0_1] 22 (0,0)) (zb BK762) hb);have n5_:=zA0 (zaj yq93 hb);clear HO_9 HO_10 HO_13 HO_14 BK762 HB;revert n0_ n1_ n2_ n3_ n4_ n5_;intro HO_9 HO_10 HO_13 HO_14 BK762 HB;clear hb))
              go_ret;exact ⟨yq7,yq93⟩
      ·rw [if_neg c20] at H
       exact absurd H (by simp)
    ·rw [if_neg c18] at H
     exact absurd H (by simp)
end Go.Proofs.YtkgdhdjkpnalmaaGreatDoor.P
end
