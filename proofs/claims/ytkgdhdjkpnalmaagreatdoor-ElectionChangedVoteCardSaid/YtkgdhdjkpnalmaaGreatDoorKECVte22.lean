/- What is proved here: a part of the proof of ElectionChangedVote: Px30. No conditions beside those that each theorem states. -/
import Derived.Test.YtkgdhdjkpnalmaaGreatDoorKECVte4
import Derived.Test.YtkgdhdjkpnalmaaGreatDoorKECVte19
import Derived.Test.YtkgdhdjkpnalmaaGreatDoorKECVte20
import Derived.Test.YtkgdhdjkpnalmaaGreatDoorKECVte21
set_option linter.unusedVariables false
set_option linter.unusedSimpArgs false
section
namespace Go.Proofs.YtkgdhdjkpnalmaaGreatDoor.P
open Go.RowKit Go.Proofs.YtkgdhdjkpnalmaaGreatDoorW.PrintWords Go.Proofs.YtkgdhdjkpnalmaaGreatDoorW.PrintLast Go.Proofs.YtkgdhdjkpnalmaaGreatDoorW.PrintMore
attribute [local go_sem] zcd zca zci zcj zb1 zb2 zcc zcb
set_option maxHeartbeats 8000000 in
set_option maxRecDepth 100000 in
theorem zag.step (k : Nat) (ih : ∀ m,m < k→zag.C m) (ih45 : ∀ m,m < k→za9.C m) : zag.C k:=by
 intro a0_0 a0_1 A0_2 c0_2 l0_2 A0_3 c0_3 l0_3 A0_4 c0_4 l0_4 a1 r w hr0_2 hc0_2 hr0_3 hc0_3 hr0_4 hc0_4 h
 cases k with
 | zero => exact absurd h (by simp [zag.f])
 | succ k =>
 simp only [zag.f] at h;have hu114:=Tryz.underlying114;have hu117:=Tryz.underlying117;have HR0_2:=zA0 hr0_2;have HC0_2:=zA0 hc0_2;clear hr0_2 hc0_2;have HR0_3:=zA0 hr0_3;have HC0_3:=zA0 hc0_3;clear hr0_3 hc0_3;have HR0_4:=zA0 hr0_4;have HC0_4:=zA0 hc0_4;clear hr0_4 hc0_4;have HB:=zA0 (Below.refl w.heap.size w);have H : (if a1 > 24 then (zag.j0 k a1 true a0_0 a0_1 l0_2 l0_3 l0_4) else (if a0_0 < 1 then (zag.j0 k a1 true a0_0 a0_1 l0_2 l0_3 l0_4) else (zag.j0 k a1 (decide (a0_0 > 5)) a0_0 a0_1 l0_2 l0_3 l0_4))) = some r:=h;clear h;have HC3:=zA0 H;clear H;go_enter Tryz.func64,Tryz.ntmps64
 go_upto_region 1 with (first | ((with_reducible refine zbm (N:=2) rfl ?_);(try (refine zcy (by rfl) ?_;dsimp only));refine zbk ?hg (N:=2) ?hd (cs:=#[.int .i64 a0_0,.string a0_1,.slice A0_2 l0_2.length c0_2,.slice A0_3 l0_3.length c0_3,.slice A0_4 l0_4.length c0_4]) (t:=114) ?hr ?_;(case hd => rfl);(case hg => rfl);(case hr => first | (go_simp;done) | (go_simp;rfl));intro gb427 hg w4 hbox hb;have n0_:=zA0 (zaj (zs0 HB) hb);have n1_:=zA0 (hbox);have n2_:=zA0 ((yq30 : w.heap.size≤gb427));have n3_:=zA0 ((yq30 : w.heap.size≤gb427));clear HB;revert n0_ n1_ n2_ n3_;intro HB BK427 GW427 GE427;clear hb hbox hg))
 (try simp only [Act.put,za1,za2,za3])
 go_cut [19] (fun v19 wc => ∃ (kq : Nat) (x19_2 : Bool),v19 = .bool x19_2∧Aside0 (zag.j0 kq a1 x19_2 a0_0 a0_1 l0_2 l0_3 l0_4 = some r)∧Aside0 (kq≤k)∧Aside0 (wc.heap[gb427]? = some (.cells #[.int .i64 a0_0,.string a0_1,(.slice A0_2 l0_2.length c0_2),(.slice A0_3 l0_3.length c0_3),(.slice A0_4 l0_4.length c0_4)] 114 (0,0)))∧Aside0 (Below w.heap.size w wc))
 case first =>
  have H:=HC3.out;clear HC3
  by_cases c5 : a1 > 24
  ·rw [if_pos c5] at H
   have c5b0 : decide (24 < a1) = true:=decide_eq_true c5;clear c5
   (first | rw [c5b0] | (simp only [zc7,zdc];rw [c5b0]) | skip)
   have H':=zA0 H;clear H;go_wp2
   go_meet
   case rel => exact ⟨_,(true),yq6,H',⟨yq209⟩,⟨yp2 BK427⟩,⟨yq23⟩⟩
  ·rw [if_neg c5] at H
   have c5b0 : decide (24 < a1) = false:=decide_eq_false c5;clear c5
   (first | rw [c5b0] | (simp only [zc7,zdc];rw [c5b0]) | skip)
   by_cases c6 : a0_0 < 1
   ·rw [if_pos c6] at H
    have c6b0 : decide (a0_0 < 1) = true:=decide_eq_true c6;clear c6;have H':=zA0 H;clear H;obtain ⟨_,_,_,_,_⟩:=zc5 BK427.out;obtain ⟨_,_,_,_,_⟩:=zf5 BK427.out;go_wp2
    go_meet
    case rel => exact ⟨_,(true),yq6,H',⟨yq209⟩,⟨yp2 BK427⟩,⟨yq23⟩⟩
   ·rw [if_neg c6] at H
    have c6b0 : decide (a0_0 < 1) = false:=decide_eq_false c6;clear c6;have H':=zA0 H;clear H;obtain ⟨_,_,_,_,_⟩:=zc5 BK427.out;obtain ⟨_,_,_,_,_⟩:=zf5 BK427.out;go_wp2
    go_meet
    case rel => exact ⟨_,(decide (a0_0 > 5)),yq6,H',⟨yq209⟩,⟨yp2 BK427⟩,⟨yq23⟩⟩
 case rest =>
  clear HC3;obtain ⟨kq,x19_2,rfl,HA,HJ2,BK427,HB⟩:=hcut
  cases kq with
  | zero => exact absurd HA.out (by simp [zag.j0])
  | succ kj2 =>
   have H:=HA.out;clear HA;simp only [zag.j0] at H
   by_cases c9 : x19_2 = true
   ·subst c9
    have H1 : (none) = some r:=yq36
    clear H;have H:=H1;clear H1;exact absurd H (by simp)
   ·replace c9:=Bool.eq_false_iff.mpr c9
    subst c9
    have H1 : (if a0_0 = 2 then (zag.j1 kj2 a1 1 true a0_0 a0_1 l0_2 l0_3 l0_4) else (zag.j1 kj2 a1 1 (a0_0 == 4) a0_0 a0_1 l0_2 l0_3 l0_4)) = some r:=yq12
    clear H;have H:=H1;clear H1;have HC10:=zA0 H;clear H
    go_upto_region 4 with (fail)
    go_cut [27] (fun v27 wc => ∃ (kq : Nat) (x27_9 : Bool),v27 = .bool x27_9∧Aside0 (zag.j1 kq a1 1 x27_9 a0_0 a0_1 l0_2 l0_3 l0_4 = some r)∧Aside0 (kq≤kj2)∧Aside0 (wc.heap[gb427]? = some (.cells #[.int .i64 a0_0,.string a0_1,(.slice A0_2 l0_2.length c0_2),(.slice A0_3 l0_3.length c0_3),(.slice A0_4 l0_4.length c0_4)] 114 (0,0)))∧Aside0 (Below w.heap.size w wc))
    case first =>
     have H:=HC10.out;clear HC10
     by_cases c11 : a0_0 = 2
     ·rw [if_pos c11] at H
      have c11b0 : (a0_0 == 2) = true:=beq_iff_eq.mpr c11;have c11b1 : (a0_0 != 2) = false:=bne_eq_false_iff_eq.mpr c11;clear c11
      (first | rw [c11b0] | (simp only [zc7,zdc];rw [c11b0]) | skip)
      have H':=zA0 H;clear H;obtain ⟨_,_,_,_,_⟩:=zc5 BK427.out;obtain ⟨_,_,_,_,_⟩:=zf5 BK427.out;go_wp2
      go_meet
      case rel => exact ⟨_,(true),yq6,H',⟨yq193⟩,⟨yp2 BK427⟩,⟨yq23⟩⟩
     ·rw [if_neg c11] at H
      have c11b0 : (a0_0 == 2) = false:=beq_eq_false_iff_ne.mpr c11;have c11b1 : (a0_0 != 2) = true:=bne_iff_ne.mpr c11
      (first | rw [c11b0] | (simp only [zc7,zdc];rw [c11b0]) | skip)
      have H':=zA0 H;clear H;obtain ⟨_,_,_,_,_⟩:=zc5 BK427.out;obtain ⟨_,_,_,_,_⟩:=zf5 BK427.out;go_wp2
      go_meet
      case rel => exact ⟨_,((a0_0 == 4)),yq6,H',⟨yq193⟩,⟨yp2 BK427⟩,⟨yq23⟩⟩
    case rest =>
     clear HC10;obtain ⟨kq,x27_9,rfl,HA,HJ9,BK427,HB⟩:=hcut
     cases kq with
     | zero => exact absurd HA.out (by simp [zag.j1])
     | succ kj9 =>
      have H:=HA.out;clear HA;simp only [zag.j1] at H
      by_cases c14 : x27_9 = true
      ·subst c14
       have H1 : (none) = some r:=yq36
       clear H;have H:=H1;clear H1;exact absurd H (by simp)
      ·replace c14:=Bool.eq_false_iff.mpr c14
       subst c14
       have H1 : (if a0_0 = 3 then (zag.j2 kj9 a1 1 false a0_0 a0_1 l0_2 l0_3 l0_4) else (zag.j2 kj9 a1 1 (a0_0 != 5) a0_0 a0_1 l0_2 l0_3 l0_4)) = some r:=yq12
       clear H;have H:=H1;clear H1;have HC15:=zA0 H;clear H
       go_upto_region 6 with (fail)
       go_cut [6] (fun v6 wc => ∃ (kq : Nat) (x6_14 : Bool),v6 = .bool x6_14∧Aside0 (zag.j2 kq a1 1 x6_14 a0_0 a0_1 l0_2 l0_3 l0_4 = some r)∧Aside0 (kq≤kj9)∧Aside0 (wc.heap[gb427]? = some (.cells #[.int .i64 a0_0,.string a0_1,(.slice A0_2 l0_2.length c0_2),(.slice A0_3 l0_3.length c0_3),(.slice A0_4 l0_4.length c0_4)] 114 (0,0)))∧Aside0 (Below w.heap.size w wc))
       case first =>
        have H:=HC15.out;clear HC15
        by_cases c16 : a0_0 = 3
        ·rw [if_pos c16] at H
         have c16b0 : (a0_0 == 3) = true:=beq_iff_eq.mpr c16;have c16b1 : (a0_0 != 3) = false:=bne_eq_false_iff_eq.mpr c16;clear c16
         (first | rw [c16b0] | (simp only [zc7,zdc];rw [c16b0]) | skip)
         have H':=zA0 H;clear H;obtain ⟨_,_,_,_,_⟩:=zc5 BK427.out;obtain ⟨_,_,_,_,_⟩:=zf5 BK427.out;go_wp2
         go_meet
         case rel => exact ⟨_,(false),yq6,H',⟨by have:=HJ2.out;have:=HJ9.out;first | omega | exact Nat.le_refl _⟩,⟨yp2 BK427⟩,⟨yq23⟩⟩
        ·rw [if_neg c16] at H
         have c16b0 : (a0_0 == 3) = false:=beq_eq_false_iff_ne.mpr c16;have c16b1 : (a0_0 != 3) = true:=bne_iff_ne.mpr c16
         (first | rw [c16b0] | (simp only [zc7,zdc];rw [c16b0]) | skip)
         have H':=zA0 H;clear H;obtain ⟨_,_,_,_,_⟩:=zc5 BK427.out;obtain ⟨_,_,_,_,_⟩:=zf5 BK427.out;go_wp2
         go_meet
         case rel => exact ⟨_,((a0_0 != 5)),yq6,H',⟨by have:=HJ2.out;have:=HJ9.out;first | omega | exact Nat.le_refl _⟩,⟨yp2 BK427⟩,⟨yq23⟩⟩
       case rest =>
        clear HC15;obtain ⟨kq,x6_14,rfl,HA,HJ14,BK427,HB⟩:=hcut
        cases kq with
        | zero => exact absurd HA.out (by simp [zag.j2])
        | succ kj14 =>
         have H:=HA.out;clear HA;simp only [zag.j2] at H;have HC19:=zA0 H;clear H
         go_upto_region 7 with (fail)
         go_cut [58] (fun v58 wc => ∃ (kq : Nat) (x58_18 : Bool),v58 = .bool x58_18∧Aside0 (zag.j3 kq a1 1 x58_18 a0_0 a0_1 l0_2 l0_3 l0_4 = some r)∧Aside0 (kq≤kj14)∧Aside0 (wc.heap[gb427]? = some (.cells #[.int .i64 a0_0,.string a0_1,(.slice A0_2 l0_2.length c0_2),(.slice A0_3 l0_3.length c0_3),(.slice A0_4 l0_4.length c0_4)] 114 (0,0)))∧Aside0 (Below w.heap.size w wc))
         case first =>
          have H:=HC19.out;clear HC19
          by_cases c20 : (l0_2.length : Int) = 1
          ·rw [if_pos c20] at H
           have c20b0 : ((l0_2.length : Int) == 1) = true:=beq_iff_eq.mpr c20;have c20b1 : ((l0_2.length : Int) != 1) = false:=bne_eq_false_iff_eq.mpr c20;clear c20
           (first | rw [c20b0] | (simp only [zc7,zdc];rw [c20b0]) | skip)
           by_cases c21 : x6_14 = true
           ·subst c21
            have H1 : ((zce.f kj14 a0_1).bind fun t428 => (if t428 = true then (zag.j3 kj14 a1 1 false a0_0 a0_1 l0_2 l0_3 l0_4) else (zag.j3 kj14 a1 1 true a0_0 a0_1 l0_2 l0_3 l0_4))) = some r:=yq36
            clear H;have H:=H1;clear H1;replace H:=Option.bind_eq_some_iff.mp H;obtain ⟨t428,A220,H⟩:=H;replace H : (if t428 = true then (zag.j3 kj14 a1 1 false a0_0 a0_1 l0_2 l0_3 l0_4) else (zag.j3 kj14 a1 1 true a0_0 a0_1 l0_2 l0_3 l0_4)) = some r:=H;have A22:=zA0 A220;clear A220
            by_cases c23 : t428 = true
            ·subst c23
             have H1 : (zag.j3 kj14 a1 1 false a0_0 a0_1 l0_2 l0_3 l0_4) = some r:=yq36
             clear H;have H:=H1;clear H1;have H':=zA0 H;clear H;obtain ⟨_,_,_,_,_⟩:=zc5 BK427.out;obtain ⟨_,_,_,_,_⟩:=zf5 BK427.out
             go_wp2_with (first | (go_at_call 44;(with_reducible refine (zce.calls kj14 a0_1 true _ A22.out).mono ?_);rintro e w25 ⟨rfl,hb⟩;have n0_:=zA0 (za4 (g:=gb427) (o:=.cells #[.int .i64 a0_0,.string a0_1,.slice A0_2 l0_2.length c0_2,.slice A0_3 l0_3.length c0_3,.slice A0_4 l0_4.length c0_4] 114 (0,0)) (zb BK427) hb);have n1_:=zA0 (zaj yq143 hb);clear BK427 HB;revert n0_ n1_;intro BK427 HB;clear hb))
             go_meet
             case rel => exact ⟨_,(false),yq6,H',⟨yq151⟩,⟨yp2 BK427⟩,⟨yq23⟩⟩
            ·replace c23:=Bool.eq_false_iff.mpr c23
             subst c23
             have H1 : (zag.j3 kj14 a1 1 true a0_0 a0_1 l0_2 l0_3 l0_4) = some r:=yq12
             clear H;have H:=H1;clear H1;have H':=zA0 H;clear H;obtain ⟨_,_,_,_,_⟩:=zc5 BK427.out;obtain ⟨_,_,_,_,_⟩:=zf5 BK427.out
             go_wp2_with (first | (go_at_call 44;(with_reducible refine (zce.calls kj14 a0_1 false _ A22.out).mono ?_);rintro e w27 ⟨rfl,hb⟩;have n0_:=zA0 (za4 (g:=gb427) (o:=.cells #[.int .i64 a0_0,.string a0_1,.slice A0_2 l0_2.length c0_2,.slice A0_3 l0_3.length c0_3,.slice A0_4 l0_4.length c0_4] 114 (0,0)) (zb BK427) hb);have n1_:=zA0 (zaj yq143 hb);clear BK427 HB;revert n0_ n1_;intro BK427 HB;clear hb))
             go_meet
             case rel => exact ⟨_,(true),yq6,H',⟨yq151⟩,⟨yp2 BK427⟩,⟨yq23⟩⟩
           ·replace c21:=Bool.eq_false_iff.mpr c21
            subst c21
            have H1 : (zag.j3 kj14 a1 1 (a0_1.toList != ([] : List UInt8)) a0_0 a0_1 l0_2 l0_3 l0_4) = some r:=yq12
            clear H;have H:=H1;clear H1;have H':=zA0 H;clear H;obtain ⟨_,_,_,_,_⟩:=zc5 BK427.out;obtain ⟨_,_,_,_,_⟩:=zf5 BK427.out;go_wp2
            go_meet
            case rel => exact ⟨_,((a0_1.toList != ([] : List UInt8))),(by first | rfl | (simp;done) | (simp;cases a0_1.toList <;> rfl) | (simp [*];done)),H',⟨yq151⟩,⟨yp2 BK427⟩,⟨yq23⟩⟩
          ·rw [if_neg c20] at H
           have c20b0 : ((l0_2.length : Int) == 1) = false:=beq_eq_false_iff_ne.mpr c20;have c20b1 : ((l0_2.length : Int) != 1) = true:=bne_iff_ne.mpr c20
           (first | rw [c20b0] | (simp only [zc7,zdc];rw [c20b0]) | skip)
           have H':=zA0 H;clear H;obtain ⟨_,_,_,_,_⟩:=zc5 BK427.out;obtain ⟨_,_,_,_,_⟩:=zf5 BK427.out;go_wp2
           go_meet
           case rel => exact ⟨_,(true),yq6,H',⟨yq151⟩,⟨yp2 BK427⟩,⟨yq23⟩⟩
         case rest =>
          clear HC19;obtain ⟨kq,x58_18,rfl,HA,HJ18,BK427,HB⟩:=hcut
          cases kq with
          | zero => exact absurd HA.out (by simp [zag.j3])
          | succ kj18 =>
           have H:=HA.out;clear HA;simp only [zag.j3] at H
           by_cases c30 : x58_18 = true
           ·subst c30
            have H1 : (none) = some r:=yq36
            clear H;have H:=H1;clear H1;exact absurd H (by simp)
           ·replace c30:=Bool.eq_false_iff.mpr c30
            subst c30
            have H1 : (if a0_0 = 3 then (zag.j4 kj18 a1 1 false a0_0 a0_1 l0_2 l0_3 l0_4) else (if (l0_4.length : Int) > 0 then (zag.j4 kj18 a1 1 true a0_0 a0_1 l0_2 l0_3 l0_4) else (if a0_0 = 4 then (zag.j4 kj18 a1 1 false a0_0 a0_1 l0_2 l0_3 l0_4) else (zag.j4 kj18 a1 1 (decide ((l0_3.length : Int) > 0)) a0_0 a0_1 l0_2 l0_3 l0_4)))) = some r:=yq12
            clear H;have H:=H1;clear H1;have HC31:=zA0 H;clear H
            go_upto_region 9 with (fail)
            go_cut [83] (fun v83 wc => ∃ (kq : Nat) (x83_30 : Bool),v83 = .bool x83_30∧Aside0 (zag.j4 kq a1 1 x83_30 a0_0 a0_1 l0_2 l0_3 l0_4 = some r)∧Aside0 (kq≤kj18)∧Aside0 (wc.heap[gb427]? = some (.cells #[.int .i64 a0_0,.string a0_1,(.slice A0_2 l0_2.length c0_2),(.slice A0_3 l0_3.length c0_3),(.slice A0_4 l0_4.length c0_4)] 114 (0,0)))∧Aside0 (Below w.heap.size w wc))
            case first =>
             have H:=HC31.out;clear HC31
             by_cases c32 : a0_0 = 3
             ·rw [if_pos c32] at H
              have c32b0 : (a0_0 == 3) = true:=beq_iff_eq.mpr c32;have c32b1 : (a0_0 != 3) = false:=bne_eq_false_iff_eq.mpr c32;clear c32
              (first | rw [c32b0] | (simp only [zc7,zdc];rw [c32b0]) | skip)
              have H':=zA0 H;clear H;obtain ⟨_,_,_,_,_⟩:=zc5 BK427.out;obtain ⟨_,_,_,_,_⟩:=zf5 BK427.out;go_wp2
              go_meet
              case rel => exact ⟨_,(false),yq6,H',⟨yq137⟩,⟨yp2 BK427⟩,⟨yq23⟩⟩
             ·rw [if_neg c32] at H
              have c32b0 : (a0_0 == 3) = false:=beq_eq_false_iff_ne.mpr c32;have c32b1 : (a0_0 != 3) = true:=bne_iff_ne.mpr c32
              (first | rw [c32b0] | (simp only [zc7,zdc];rw [c32b0]) | skip)
              by_cases c34 : (l0_4.length : Int) > 0
              ·rw [if_pos c34] at H
               have c34b0 : decide (0 < (l0_4.length : Int)) = true:=decide_eq_true c34;have c34b1 : decide (0 < l0_4.length) = true:=decide_eq_true (by omega);clear c34;have H':=zA0 H;clear H;obtain ⟨_,_,_,_,_⟩:=zc5 BK427.out;obtain ⟨_,_,_,_,_⟩:=zf5 BK427.out;go_wp2
               go_meet
               case rel => exact ⟨_,(true),yq6,H',⟨yq137⟩,⟨yp2 BK427⟩,⟨yq23⟩⟩
              ·rw [if_neg c34] at H
               have c34b0 : decide (0 < (l0_4.length : Int)) = false:=decide_eq_false c34;have c34b1 : decide (0 < l0_4.length) = false:=decide_eq_false (by omega);clear c34
               by_cases c36 : a0_0 = 4
               ·rw [if_pos c36] at H
                have c36b0 : (a0_0 == 4) = true:=beq_iff_eq.mpr c36;have c36b1 : (a0_0 != 4) = false:=bne_eq_false_iff_eq.mpr c36;clear c36;have H':=zA0 H;clear H;obtain ⟨_,_,_,_,_⟩:=zc5 BK427.out;obtain ⟨_,_,_,_,_⟩:=zf5 BK427.out;go_wp2
                go_meet
                case rel => exact ⟨_,(false),yq6,H',⟨yq137⟩,⟨yp2 BK427⟩,⟨yq23⟩⟩
               ·rw [if_neg c36] at H
                have c36b0 : (a0_0 == 4) = false:=beq_eq_false_iff_ne.mpr c36;have c36b1 : (a0_0 != 4) = true:=bne_iff_ne.mpr c36;have H':=zA0 H;clear H;obtain ⟨_,_,_,_,_⟩:=zc5 BK427.out;obtain ⟨_,_,_,_,_⟩:=zf5 BK427.out;go_wp2
                go_meet
                case rel => exact ⟨_,(decide ((l0_3.length : Int) > 0)),yq6,H',⟨yq137⟩,⟨yp2 BK427⟩,⟨yq23⟩⟩
            case rest =>
             clear HC31;obtain ⟨kq,x83_30,rfl,HA,HJ30,BK427,HB⟩:=hcut
             cases kq with
             | zero => exact absurd HA.out (by simp [zag.j4])
             | succ kj30 =>
              have H:=HA.out;clear HA;simp only [zag.j4] at H
              by_cases c39 : x83_30 = true
              ·subst c39
               have H1 : (none) = some r:=yq36
               clear H;have H:=H1;clear H1;exact absurd H (by simp)
              ·replace c39:=Bool.eq_false_iff.mpr c39
               subst c39
               have H1 : (zag.l0 kj30 a1 1 0 a0_0 a0_1 l0_2 l0_3 l0_4) = some r:=yq12
               clear H;have H:=H1;clear H1;have H':=zA0 H;clear H;go_wp2
               go_loopg [7] kj30 (fun kq v7 w' => ∃ (x7_6 : Int),v7 = .int .i64 x7_6∧Aside0 (zag.l0 kq a1 1 x7_6 a0_0 a0_1 l0_2 l0_3 l0_4 = some r)∧Aside0 (kq≤kj30)∧Aside0 (w'.heap[gb427]? = some (.cells #[.int .i64 a0_0,.string a0_1,(.slice A0_2 l0_2.length c0_2),(.slice A0_3 l0_3.length c0_3),(.slice A0_4 l0_4.length c0_4)] 114 (0,0)))∧Aside0 (Below w.heap.size w w'))
               case atStart => exact ⟨(0),yq6,H',⟨Nat.le_refl _⟩,⟨yp2 BK427⟩,⟨yq23⟩⟩
               case round =>
                clear H';obtain ⟨x7_6,rfl,HA,HK6,BK427,HB⟩:=hrel
                cases gk with
                | zero => exact absurd HA.out (by simp [zag.l0])
                | succ k6 =>
                 have H:=HA.out;clear HA;simp only [zag.l0] at H
                 by_cases c40 : x7_6 < 1
                 ·rw [if_pos c40] at H
                  have c40b0 : decide (x7_6 < 1) = true:=decide_eq_true c40;clear c40
                  by_cases c41 : 0≤x7_6
                  ·rw [if_pos c41] at H
                   have c41b0 : decide (0≤x7_6) = true:=decide_eq_true c41;clear c41
                   by_cases c42 : x7_6 < (l0_2.length : Int)
                   ·rw [if_pos c42] at H
                    have c42b0 : decide (x7_6 < (l0_2.length : Int)) = true:=decide_eq_true c42;clear c42;replace H:=Option.bind_eq_some_iff.mp H;obtain ⟨t430,A430,H⟩:=H;replace H : (if t430 = true then (zag.l0 k6 a1 1 (wrap64 (x7_6 + 1)) a0_0 a0_1 l0_2 l0_3 l0_4) else (none)) = some r:=H;have A43:=zA0 A430;clear A430
                    by_cases c44 : t430 = true
                    ·subst c44
                     have H1 : (zag.l0 k6 a1 1 (wrap64 (x7_6 + 1)) a0_0 a0_1 l0_2 l0_3 l0_4) = some r:=yq36
                     clear H;have H:=H1;clear H1;have H':=zA0 H;clear H;obtain ⟨_,_,_,_,_⟩:=zc5 BK427.out;obtain ⟨_,_,_,_,_⟩:=zf5 BK427.out;have p429 : 0≤(x7_6 : Int):=of_decide_eq_true yq3;have q429 : x7_6 < (l0_2.length : Int):=of_decide_eq_true yq3;obtain ⟨ad429,A429_4,c429_4,e429,hx429_0,hx429_1,hx429_2,hx429_3,hx429_4,hl429_4,hi429_4⟩:=zea HR0_2.out x7_6 p429 q429;cases e429;replace hx429_0:=(HB.out.cell (World.block_lt_of_cell? w _ hx429_0)).trans hx429_0;replace hx429_1:=(HB.out.cell (World.block_lt_of_cell? w _ hx429_1)).trans hx429_1;replace hx429_2:=(HB.out.cell (World.block_lt_of_cell? w _ hx429_2)).trans hx429_2;replace hx429_3:=(HB.out.cell (World.block_lt_of_cell? w _ hx429_3)).trans hx429_3;replace hx429_4:=(HB.out.cell (World.block_lt_of_cell? w _ hx429_4)).trans hx429_4;have HR429_4:=zA0 hi429_4;have HC429_4:=zA0 hl429_4;clear hi429_4 hl429_4;replace p429:=eq_true p429;replace q429:=eq_true q429
                     go_wp2_with (first | ((with_reducible refine zav (f:=76) rfl ?_);refine zcf (some 96) rfl rfl Tryz.func76 (by kernel_rfl) rfl #[.agg #[.int .i64 ((zad l0_2 x7_6).f0),.int .i64 ((zad l0_2 x7_6).f1),.int .u64 ((zad l0_2 x7_6).f2),.string ((zad l0_2 x7_6).f3),.slice A429_4 ((zad l0_2 x7_6).f4).length c429_4],.int .i64 (wrap64 (a1 + 1))] rfl zt ?_;(with_reducible refine (zac.calls k6 ((zad l0_2 x7_6).f0) ((zad l0_2 x7_6).f1) ((zad l0_2 x7_6).f2) ((zad l0_2 x7_6).f3) _ _ ((zad l0_2 x7_6).f4) (wrap64 (a1 + 1)) true _ ?side1 ?side2 A43.out).mono ?_);(case side1 => exact (by repeat (first | exact (Kd.C_below HR429_4.out HB.out) | (with_reducible refine Kd.C_alloc ?_ _) | (with_reducible refine Kd.C_drewN ?_ _) | (with_reducible refine Kd.C_drew ?_))));(case side2 => exact HC429_4.out);rintro e w46 ⟨rfl,hb⟩;refine ⟨_,rfl,?_⟩;have n0_:=zA0 (za4 (g:=gb427) (o:=.cells #[.int .i64 a0_0,.string a0_1,.slice (some ad429) l0_2.length c0_2,.slice A0_3 l0_3.length c0_3,.slice A0_4 l0_4.length c0_4] 114 (0,0)) (zb BK427) hb);have n1_:=zA0 (zaj yq143 hb);clear BK427 HB;revert n0_ n1_;intro BK427 HB;clear hb))
                     go_roundg k6
                     case measure => have:=HJ2.out;have:=HJ9.out;have:=HJ14.out;have:=HJ18.out;have:=HJ30.out;have:=HK6.out;omega
                     case rel => exact ⟨(wrap64 (x7_6 + 1)),yq6,H',⟨yq136⟩,⟨yp2 BK427⟩,⟨yq23⟩⟩
                    ·replace c44:=Bool.eq_false_iff.mpr c44
                     subst c44
                     have H1 : (none) = some r:=yq12
                     clear H;have H:=H1;clear H1;exact absurd H (by simp)
                   ·rw [if_neg c42] at H
                    exact absurd H (by simp)
                  ·rw [if_neg c41] at H
                   exact absurd H (by simp)
                 ·rw [if_neg c40] at H
                  have c40b0 : decide (x7_6 < 1) = false:=decide_eq_false c40;clear c40;replace H:=Option.bind_eq_some_iff.mp H;obtain ⟨t431,A470,H⟩:=H;replace H : (if t431 = true then ((za9.f k6 l0_4 (wrap64 (a1 + 1))).bind fun t432 => (some t432)) else (some false)) = some r:=H;have A47:=zA0 A470;clear A470
                  by_cases c48 : t431 = true
                  ·subst c48
                   have H1 : ((za9.f k6 l0_4 (wrap64 (a1 + 1))).bind fun t432 => (some t432)) = some r:=yq36
                   clear H;have H:=H1;clear H1;replace H:=Option.bind_eq_some_iff.mp H;obtain ⟨t432,A490,H⟩:=H;replace H : (some t432) = some r:=H;have A49:=zA0 A490;clear A490;obtain rfl:=Option.some.inj H;obtain ⟨_,_,_,_,_⟩:=zc5 BK427.out;obtain ⟨_,_,_,_,_⟩:=zf5 BK427.out
                   go_wp2_with (first | ((with_reducible refine zav (f:=45) rfl ?_);refine zcf (some 102) rfl rfl Tryz.func45 (by kernel_rfl) rfl #[.slice A0_3 l0_3.length c0_3,.int .i64 (wrap64 (a1 + 1))] rfl zt ?_;(with_reducible refine (ih45 k6 yq136 _ _ l0_3 (wrap64 (a1 + 1)) true _ ?side1 ?side2 A47.out).mono ?_);(case side1 => exact yq183);(case side2 => exact HC0_3.out);rintro e w51 ⟨rfl,hb⟩;refine ⟨_,rfl,?_⟩;have n0_:=zA0 (za4 (g:=gb427) (o:=.cells #[.int .i64 a0_0,.string a0_1,.slice A0_2 l0_2.length c0_2,.slice A0_3 l0_3.length c0_3,.slice A0_4 l0_4.length c0_4] 114 (0,0)) (zb BK427) hb);have n1_:=zA0 (zaj yq143 hb);clear BK427 HB;revert n0_ n1_;intro BK427 HB;clear hb;obtain ⟨_,_,_,_,_⟩:=zc5 BK427.out;obtain ⟨_,_,_,_,_⟩:=zf5 BK427.out) | (go_at_call 45;(with_reducible refine (ih45 k6 yq136 _ _ l0_4 (wrap64 (a1 + 1)) t432 _ ?side1 ?side2 A49.out).mono ?_);(case side1 => exact yq61);(case side2 => exact HC0_4.out);rintro e w53 ⟨rfl,hb⟩;have n0_:=zA0 (za4 (g:=gb427) (o:=.cells #[.int .i64 a0_0,.string a0_1,.slice A0_2 l0_2.length c0_2,.slice A0_3 l0_3.length c0_3,.slice A0_4 l0_4.length c0_4] 114 (0,0)) (zb BK427) hb);have n1_:=zA0 (zaj yq143 hb);clear BK427 HB;revert n0_ n1_;intro BK427 HB;clear hb))
                   go_ret;exact ⟨yq7,yq143⟩
                  ·replace c48:=Bool.eq_false_iff.mpr c48
                   subst c48
                   have H1 : (some false) = some r:=yq12
                   clear H;have H:=H1;clear H1;obtain rfl:=Option.some.inj H;obtain ⟨_,_,_,_,_⟩:=zc5 BK427.out;obtain ⟨_,_,_,_,_⟩:=zf5 BK427.out
                   go_wp2_with (first | ((with_reducible refine zav (f:=45) rfl ?_);refine zcf (some 102) rfl rfl Tryz.func45 (by kernel_rfl) rfl #[.slice A0_3 l0_3.length c0_3,.int .i64 (wrap64 (a1 + 1))] rfl zt ?_;(with_reducible refine (ih45 k6 yq136 _ _ l0_3 (wrap64 (a1 + 1)) false _ ?side1 ?side2 A47.out).mono ?_);(case side1 => exact yq183);(case side2 => exact HC0_3.out);rintro e w55 ⟨rfl,hb⟩;refine ⟨_,rfl,?_⟩;have n0_:=zA0 (za4 (g:=gb427) (o:=.cells #[.int .i64 a0_0,.string a0_1,.slice A0_2 l0_2.length c0_2,.slice A0_3 l0_3.length c0_3,.slice A0_4 l0_4.length c0_4] 114 (0,0)) (zb BK427) hb);have n1_:=zA0 (zaj yq143 hb);clear BK427 HB;revert n0_ n1_;intro BK427 HB;clear hb))
                   go_ret;exact ⟨yq7,yq143⟩
end Go.Proofs.YtkgdhdjkpnalmaaGreatDoor.P
end
