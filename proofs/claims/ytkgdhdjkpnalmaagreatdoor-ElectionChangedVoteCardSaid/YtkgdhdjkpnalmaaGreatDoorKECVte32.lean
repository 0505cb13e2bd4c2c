/- What is proved here: a part of the proof of ElectionChangedVote: Px56. No conditions beside those that each theorem states. -/
import Derived.Test.YtkgdhdjkpnalmaaGreatDoorKECVte4
set_option linter.unusedVariables false
set_option linter.unusedSimpArgs false
section
namespace Go.Proofs.YtkgdhdjkpnalmaaGreatDoor.P
open Go.RowKit Go.Proofs.YtkgdhdjkpnalmaaGreatDoorW.PrintWords Go.Proofs.YtkgdhdjkpnalmaaGreatDoorW.PrintLast Go.Proofs.YtkgdhdjkpnalmaaGreatDoorW.PrintMore
attribute [local go_sem] zcd zca zci zcj zb1 zb2 zcc zcb
mutual
def zar.l0 : Nat→List ByteArray→Int→List (S50)→List (S87)→List (S114)→Option (Bool)
 | 0,_,_,_,_,_ => none
 | k + 1,x3,x4,x576000,x576001,x576002 => if x4 < (x576000.length : Int) then (if 0≤x4 then (if x3.length < 8796093022208 then (zar.l0 k (x3 ++ [(zaq x576000 x4).f0]) (wrap64 (x4 + 1)) x576000 x576001 x576002) else (none)) else (none)) else (zar.l1 k x3 0 x576000 x576001 x576002)
def zar.l1 : Nat→List ByteArray→Int→List (S50)→List (S87)→List (S114)→Option (Bool)
 | 0,_,_,_,_,_ => none
 | k + 1,x3,x5,x576000,x576001,x576002 => if x5 < (x576001.length : Int) then (none) else (zar.l2 k x3 0)
def zar.l2 : Nat→List ByteArray→Int→Option (Bool)
 | 0,_,_ => none
 | k + 1,x3,x6 => if x6 < (x3.length : Int) then (zar.l3 k x3 x6 0) else (some true)
def zar.l3 : Nat→List ByteArray→Int→Int→Option (Bool)
 | 0,_,_,_ => none
 | k + 1,x3,x6,x7 => if x7 < x6 then (if 0≤x6 then (if x6 < (x3.length : Int) then (if 0≤x7 then (if x7 < (x3.length : Int) then (if (rdOf ByteArray.empty x3 x6).toList = (rdOf ByteArray.empty x3 x7).toList then (none) else (zar.l3 k x3 x6 (wrap64 (x7 + 1)))) else (none)) else (none)) else (none)) else (none)) else (zar.l2 k x3 (wrap64 (x6 + 1)))
end
def zar.f (k : Nat) (l0_0 : List (S50)) (l0_1 : List (S87)) (l0_2 : List (S114)) : Option (Bool):=zar.l0 k ([] : List ByteArray) 0 l0_0 l0_1 l0_2
theorem zar.mono_l : ∀ k,(∀ y0 y1 y2 y3 y4,LeO (zar.l0 k y0 y1 y2 y3 y4) (zar.l0 (k + 1) y0 y1 y2 y3 y4))∧(∀ y0 y1 y2 y3 y4,LeO (zar.l1 k y0 y1 y2 y3 y4) (zar.l1 (k + 1) y0 y1 y2 y3 y4))∧(∀ y0 y1,LeO (zar.l2 k y0 y1) (zar.l2 (k + 1) y0 y1))∧(∀ y0 y1 y2,LeO (zar.l3 k y0 y1 y2) (zar.l3 (k + 1) y0 y1 y2))
 | 0 => ⟨fun _ _ _ _ _ r h => by simp [zar.l0] at h,fun _ _ _ _ _ r h => by simp [zar.l1] at h,fun _ _ r h => by simp [zar.l2] at h,fun _ _ _ r h => by simp [zar.l3] at h⟩
 | k + 1 => by
  obtain ⟨ih0,ih1,ih2,ih3⟩:=zar.mono_l k;refine ⟨?_,?_,?_,?_⟩
  ·intro y0 y1 y2 y3 y4
   unfold zar.l0
   exact yq25
  ·intro y0 y1 y2 y3 y4
   unfold zar.l1
   exact yq25
  ·intro y0 y1
   unfold zar.l2
   exact yq25
  ·intro y0 y1 y2
   unfold zar.l3
   exact yq25
theorem zar.mono : ∀ a0 a1 a2 k,LeO (zar.f k a0 a1 a2) (zar.f (k + 1) a0 a1 a2):=by
 intro a0 a1 a2 k;obtain ⟨ih0,ih1,ih2,ih3⟩:=zar.mono_l k;unfold zar.f
 exact yq25
set_option maxHeartbeats 8000000 in
set_option maxRecDepth 100000 in
theorem zar.calls (k : Nat) (A0_0 : Option Addr) (c0_0 : Nat) (l0_0 : List (S50)) (A0_1 : Option Addr) (c0_1 : Nat) (l0_1 : List (S87)) (A0_2 : Option Addr) (c0_2 : Nat) (l0_2 : List (S114)) (r : Bool) (w : World) (hr0_0 : Kd.C k50 w A0_0 l0_0.length l0_0) (hc0_0 : l0_0.length≤c0_0) (hr0_1 : Kd.C k87 w A0_1 l0_1.length l0_1) (hc0_1 : l0_1.length≤c0_1) (hr0_2 : Kd.C k114 w A0_2 l0_2.length l0_2) (hc0_2 : l0_2.length≤c0_2) (h : zar.f k l0_0 l0_1 l0_2 = some r) :
  Calls Tryz.prog 67 #[.agg #[.slice A0_0 l0_0.length c0_0,.slice A0_1 l0_1.length c0_1,.slice A0_2 l0_2.length c0_2]] w fun e w' => e = .returned (.bool r)∧Below w.heap.size w w':=by
 have hu33:=Tryz.underlying33;have HR0_0:=zA0 hr0_0;have HC0_0:=zA0 hc0_0;clear hr0_0 hc0_0;have HR0_1:=zA0 hr0_1;have HC0_1:=zA0 hc0_1;clear hr0_1 hc0_1;have HR0_2:=zA0 hr0_2;have HC0_2:=zA0 hc0_2;clear hr0_2 hc0_2;have HB:=zA0 (Below.refl w.heap.size w);have H : (zar.l0 k ([] : List ByteArray) 0 l0_0 l0_1 l0_2) = some r:=h;clear h;have H':=zA0 H;clear H;go_enter Tryz.func67,Tryz.ntmps67
 go_wp2_with (first | ((with_reducible refine zbm (N:=1) rfl ?_);refine zbk ?hg (N:=1) ?hd (cs:=#[.slice A0_0 l0_0.length c0_0,.slice A0_1 l0_1.length c0_1,.slice A0_2 l0_2.length c0_2]) (t:=33) ?hr ?_;(case hd => rfl);(case hg => rfl);(case hr => first | (go_simp;done) | (go_simp;rfl));intro gb575 hg w2 hbox hb;have n0_:=zA0 (zaj (zs0 HB) hb);have n1_:=zA0 (hbox);have n2_:=zA0 ((yq30 : w.heap.size≤gb575));have n3_:=zA0 ((yq30 : w.heap.size≤gb575));clear HB;revert n0_ n1_ n2_ n3_;intro HB BK575 GW575 GE575;clear hb hbox hg))
 go_loopg [3,4] k (fun kq v3 v4 w' => ∃ (x3_1 : List ByteArray) (x4_1 : Int),v4 = .int .i64 x4_1∧Aside0 (zar.l0 kq x3_1 x4_1 l0_0 l0_1 l0_2 = some r)∧Aside0 (kq≤k)∧Aside0 (Kd.R Kd.string 9 w' w.heap.size (fun _ => True) v3 x3_1)∧Aside0 (w'.heap[gb575]? = some (.cells #[(.slice A0_0 l0_0.length c0_0),(.slice A0_1 l0_1.length c0_1),(.slice A0_2 l0_2.length c0_2)] 33 (0,0)))∧Aside0 (Below w.heap.size w w'))
 case atStart => exact ⟨(([] : List ByteArray)),(0),yq6,H',⟨Nat.le_refl _⟩,⟨yq44⟩,⟨yp2 BK575⟩,⟨yq83⟩⟩
 case round =>
  clear H';obtain ⟨x3_1,x4_1,rfl,HA,HK1,HO_3,BK575,HB⟩:=hrel
  cases gk with
  | zero => exact absurd HA.out (by simp [zar.l0])
  | succ k1 =>
   have H:=HA.out;clear HA;simp only [zar.l0] at H
   by_cases c3 : x4_1 < (l0_0.length : Int)
   ·rw [if_pos c3] at H
    have c3b0 : decide (x4_1 < (l0_0.length : Int)) = true:=decide_eq_true c3;clear c3
    by_cases c4 : 0≤x4_1
    ·rw [if_pos c4] at H
     have c4b0 : decide (0≤x4_1) = true:=decide_eq_true c4;clear c4
     by_cases c5 : x3_1.length < 8796093022208
     ·rw [if_pos c5] at H
      have LMc5:=zA0 c5;clear c5
      obtain ⟨y577,hy577⟩ : ∃ y_ : List ByteArray,y_ = (x3_1 ++ [(zaq l0_0 x4_1).f0]):=⟨_,rfl⟩
      replace H : (zar.l0 k1 y577 (wrap64 (x4_1 + 1)) l0_0 l0_1 l0_2) = some r:=yr hy577 H
      have Ny577:=zA0 hy577;clear hy577;have H':=zA0 H;clear H;obtain ⟨_,_,_⟩:=zc3 BK575.out;obtain ⟨_,_,_⟩:=zf3 BK575.out;have p576 : 0≤(x4_1 : Int):=of_decide_eq_true yq3;have q576 : x4_1 < (l0_0.length : Int):=of_decide_eq_true yq3;obtain ⟨ad576,e576,hx576_0,hx576_1,hx576_2,hx576_3⟩:=at_T50 HR0_0.out x4_1 p576 q576;cases e576;replace hx576_0:=(HB.out.cell (World.block_lt_of_cell? w _ hx576_0)).trans hx576_0;replace hx576_1:=(HB.out.cell (World.block_lt_of_cell? w _ hx576_1)).trans hx576_1;replace hx576_2:=(HB.out.cell (World.block_lt_of_cell? w _ hx576_2)).trans hx576_2;replace hx576_3:=(HB.out.cell (World.block_lt_of_cell? w _ hx576_3)).trans hx576_3;replace p576:=eq_true p576;replace q576:=eq_true q576
      go_wp2_with (first | ((with_reducible refine zdn (b:=.append) (xs:=#[.tmp 15,.tmp 22]) rfl ?_);at_builtin;refine Kd.R_append Kd.string (w0:=w) w.heap.size rfl (.tmp 15) (.tmp 22) 80 9 (.string ⟨#[]⟩) 16 rfl Tryz.underlying80 info9 rfl (by decide) (by omega) u3 x3_1 ((zaq l0_0 x4_1).f0) [.string ((zaq l0_0 x4_1).f0)] (fun _ => True) (fun _ => False) rfl rfl ?aP (fun _ hk => hk.elim) ?aF ?aO ?aB ?aS ?aL ?_;(case aP => exact rfl);(case aB => exact (by first | exact zs1 HB GE575 | exact zs0 HB));(case aF => exact (fun _ _ => trivial));(case aO => exact (zrR HO_3));(case aS => exact (zb7 (by first | exact zs1 HB GE575 | exact zs0 HB)));(case aL => have:=LMc5.out;omega);intro v578 w7 ho hb hg hat;rw [← Ny577.out] at ho;have n0_:=zA0 (zdf (g:=gb575) (o:=.cells #[.slice (some ad576) l0_0.length c0_0,.slice A0_1 l0_1.length c0_1,.slice A0_2 l0_2.length c0_2] 33 (0,0)) (zb BK575) hg (Kd.R_ne HO_3.out BK575.out (by decide)));have n1_:=zA0 (hb);have n2_:=zA0 (ho);clear BK575 HB HO_3;revert n0_ n1_ n2_;intro BK575 HB HO579;clear ho hb hg hat))
      go_roundg k1
      case measure => have:=HK1.out;omega
      case rel => exact ⟨(y577),(wrap64 (x4_1 + 1)),yq6,H',⟨yq95⟩,⟨yp1 HO579⟩,⟨yp2 BK575⟩,⟨yq83⟩⟩
     ·rw [if_neg c5] at H
      exact absurd H (by simp)
    ·rw [if_neg c4] at H
     exact absurd H (by simp)
   ·rw [if_neg c3] at H
    have c3b0 : decide (x4_1 < (l0_0.length : Int)) = false:=decide_eq_false c3;clear c3;have H':=zA0 H;clear H;obtain ⟨_,_,_⟩:=zc3 BK575.out;obtain ⟨_,_,_⟩:=zf3 BK575.out;go_wp2
    repeat (go_quiet (fail);try go_wp2)
    go_loopg [3,5] k1 (fun kq v3 v5 w' => ∃ (x3_2 : List ByteArray) (x5_2 : Int),v5 = .int .i64 x5_2∧Aside0 (zar.l1 kq x3_2 x5_2 l0_0 l0_1 l0_2 = some r)∧Aside0 (kq≤k1)∧Aside0 (Kd.R Kd.string 9 w' w.heap.size (fun _ => True) v3 x3_2)∧Aside0 (w'.heap[gb575]? = some (.cells #[(.slice A0_0 l0_0.length c0_0),(.slice A0_1 l0_1.length c0_1),(.slice A0_2 l0_2.length c0_2)] 33 (0,0)))∧Aside0 (Below w.heap.size w w'))
    case atStart => exact ⟨(x3_1),(0),yq6,H',⟨Nat.le_refl _⟩,⟨yp1 HO_3⟩,⟨yp2 BK575⟩,⟨yq83⟩⟩
    case round =>
     clear H';(try clear q5);(try clear hx5);(try clear hx576_0);(try clear hx576_1);(try clear hx576_2);(try clear hx576_3);(try clear q576);obtain ⟨x3_2,x5_2,rfl,HA,HK2,HO_3,BK575,HB⟩:=hrel
     cases gk with
     | zero => exact absurd HA.out (by simp [zar.l1])
     | succ k2 =>
      have H:=HA.out;clear HA;simp only [zar.l1] at H
      by_cases c9 : x5_2 < (l0_1.length : Int)
      ·rw [if_pos c9] at H
       exact absurd H (by simp)
      ·rw [if_neg c9] at H
       have c9b0 : decide (x5_2 < (l0_1.length : Int)) = false:=decide_eq_false c9;clear c9;have H':=zA0 H;clear H;obtain ⟨_,_,_⟩:=zc3 BK575.out;obtain ⟨_,_,_⟩:=zf3 BK575.out;go_wp2
       repeat (go_quiet (fail);try go_wp2)
       go_loopg [6] k2 (fun kq v6 w' => ∃ (x6_3 : Int),v6 = .int .i64 x6_3∧Aside0 (zar.l2 kq x3_2 x6_3 = some r)∧Aside0 (kq≤k2)∧Aside0 (Kd.R Kd.string 9 w' w.heap.size (fun _ => True) u3 x3_2)∧Aside0 (w'.heap[gb575]? = some (.cells #[(.slice A0_0 l0_0.length c0_0),(.slice A0_1 l0_1.length c0_1),(.slice A0_2 l0_2.length c0_2)] 33 (0,0)))∧Aside0 (Below w.heap.size w w'))
       case atStart => exact ⟨(0),yq6,H',⟨Nat.le_refl _⟩,⟨yp1 HO_3⟩,⟨yp2 BK575⟩,⟨yq83⟩⟩
       case round =>
        clear H';(try clear q5);(try clear hx5);(try clear hx576_0);(try clear hx576_1);(try clear hx576_2);(try clear hx576_3);(try clear q5);(try clear q576);obtain ⟨x6_3,rfl,HA,HK3,HO_3,BK575,HB⟩:=hrel
        cases gk with
        | zero => exact absurd HA.out (by simp [zar.l2])
        | succ k3 =>
         have H:=HA.out;clear HA;simp only [zar.l2] at H
         by_cases c11 : x6_3 < (x3_2.length : Int)
         ·rw [if_pos c11] at H
          have c11b0 : decide (x6_3 < (x3_2.length : Int)) = true:=decide_eq_true c11;clear c11;have H':=zA0 H;clear H;obtain ⟨Ao12,co12,eo12⟩:=Kd.R_slice HO_3.out;subst eo12;go_wp2
          repeat (go_quiet (fail);try go_wp2)
          go_loopg [7] k3 (fun kq v7 w' => ∃ (x7_4 : Int),v7 = .int .i64 x7_4∧Aside0 (zar.l3 kq x3_2 x6_3 x7_4 = some r)∧Aside0 (kq≤k3)∧Aside0 (Kd.R Kd.string 9 w' w.heap.size (fun _ => True) (.slice Ao12 x3_2.length co12) x3_2)∧Aside0 (w'.heap[gb575]? = some (.cells #[(.slice A0_0 l0_0.length c0_0),(.slice A0_1 l0_1.length c0_1),(.slice A0_2 l0_2.length c0_2)] 33 (0,0)))∧Aside0 (Below w.heap.size w w'))
          case atStart => exact ⟨(0),yq6,H',⟨Nat.le_refl _⟩,⟨yp1 HO_3⟩,⟨yp2 BK575⟩,⟨yq83⟩⟩
          case round =>
           clear H';(try clear q5);(try clear hx5);(try clear hx576_0);(try clear hx576_1);(try clear hx576_2);(try clear hx576_3);(try clear q5);(try clear q576);obtain ⟨x7_4,rfl,HA,HK4,HO_3,BK575,HB⟩:=hrel
           cases gk with
           | zero => exact absurd HA.out (by simp [zar.l3])
           | succ k4 =>
            have H:=HA.out;clear HA;simp only [zar.l3] at H
            by_cases c13 : x7_4 < x6_3
            ·rw [if_pos c13] at H
             have c13b0 : decide (x7_4 < x6_3) = true:=decide_eq_true c13;clear c13
             by_cases c14 : 0≤x6_3
             ·rw [if_pos c14] at H
              have c14b0 : decide (0≤x6_3) = true:=decide_eq_true c14;clear c14
              by_cases c15 : x6_3 < (x3_2.length : Int)
              ·rw [if_pos c15] at H
               have c15b0 : decide (x6_3 < (x3_2.length : Int)) = true:=decide_eq_true c15;clear c15
               by_cases c16 : 0≤x7_4
               ·rw [if_pos c16] at H
                have c16b0 : decide (0≤x7_4) = true:=decide_eq_true c16;clear c16
                by_cases c17 : x7_4 < (x3_2.length : Int)
                ·rw [if_pos c17] at H
                 have c17b0 : decide (x7_4 < (x3_2.length : Int)) = true:=decide_eq_true c17;clear c17
                 by_cases c18 : (rdOf ByteArray.empty x3_2 x6_3).toList = (rdOf ByteArray.empty x3_2 x7_4).toList
                 ·rw [if_pos c18] at H
                  exact absurd H (by simp)
                 ·rw [if_neg c18] at H
                  have c18b0 : ((rdOf ByteArray.empty x3_2 x6_3).toList == (rdOf ByteArray.empty x3_2 x7_4).toList) = false:=beq_eq_false_iff_ne.mpr c18;have c18b1 : ((rdOf ByteArray.empty x3_2 x6_3).toList != (rdOf ByteArray.empty x3_2 x7_4).toList) = true:=bne_iff_ne.mpr c18;have H':=zA0 H;clear H;have p580 : 0≤(x6_3 : Int):=of_decide_eq_true yq3;have q580 : x6_3 < (x3_2.length : Int):=of_decide_eq_true yq3;obtain ⟨ad580,e580,hx580_0⟩:=Kd.at_string (Kd.R_reads' HO_3.out).2.2 x6_3 p580 q580;cases e580;replace p580:=eq_true p580;replace q580:=eq_true q580;have p581 : 0≤(x7_4 : Int):=of_decide_eq_true yq3;have q581 : x7_4 < (x3_2.length : Int):=of_decide_eq_true yq3;obtain ⟨ad581,e581,hx581_0⟩:=Kd.at_string (Kd.R_reads' HO_3.out).2.2 x7_4 p581 q581
                  obtain rfl : ad580 = ad581:=(by injection e581)
                  replace p581:=eq_true p581;replace q581:=eq_true q581;go_wp2
                  repeat (go_quiet (fail);try go_wp2)
                  go_roundg k4
                  case measure => have:=HK1.out;have:=HK2.out;have:=HK3.out;have:=HK4.out;omega
                  case rel => exact ⟨(wrap64 (x7_4 + 1)),yq6,H',⟨by have:=HK1.out;have:=HK2.out;have:=HK3.out;have:=HK4.out;omega⟩,⟨yp1 HO_3⟩,⟨yp2 BK575⟩,⟨yq83⟩⟩
                ·rw [if_neg c17] at H
                 exact absurd H (by simp)
               ·rw [if_neg c16] at H
                exact absurd H (by simp)
              ·rw [if_neg c15] at H
               exact absurd H (by simp)
             ·rw [if_neg c14] at H
              exact absurd H (by simp)
            ·rw [if_neg c13] at H
             have c13b0 : decide (x7_4 < x6_3) = false:=decide_eq_false c13;clear c13;have H':=zA0 H;clear H;go_wp2
             repeat (go_quiet (fail);try go_wp2)
             go_roundg k4
             case measure => have:=HK1.out;have:=HK2.out;have:=HK3.out;have:=HK4.out;omega
             case rel => exact ⟨(wrap64 (x6_3 + 1)),yq6,H',⟨by have:=HK1.out;have:=HK2.out;have:=HK3.out;have:=HK4.out;omega⟩,⟨yp1 HO_3⟩,⟨yp2 BK575⟩,⟨yq83⟩⟩
         ·rw [if_neg c11] at H
          have c11b0 : decide (x6_3 < (x3_2.length : Int)) = false:=decide_eq_false c11;clear c11;obtain rfl:=Option.some.inj H;obtain ⟨Ao19,co19,eo19⟩:=Kd.R_slice HO_3.out;subst eo19;go_wp2
          repeat (go_quiet (fail);try go_wp2)
          go_ret;exact ⟨yq7,by first | exact zs1 HB GE575 | exact zs0 HB⟩
end Go.Proofs.YtkgdhdjkpnalmaaGreatDoor.P
end
