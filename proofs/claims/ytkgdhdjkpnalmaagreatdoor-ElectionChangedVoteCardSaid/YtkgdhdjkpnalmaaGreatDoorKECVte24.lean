/- What is proved here: a part of the proof of ElectionChangedVote: Px35. No conditions beside those that each theorem states. -/
import Derived.Test.YtkgdhdjkpnalmaaGreatDoorKECVte4
import Derived.Test.YtkgdhdjkpnalmaaGreatDoorKECVte23
set_option linter.unusedVariables false
set_option linter.unusedSimpArgs false
section
namespace Go.Proofs.YtkgdhdjkpnalmaaGreatDoor.P
open Go.RowKit Go.Proofs.YtkgdhdjkpnalmaaGreatDoorW.PrintWords Go.Proofs.YtkgdhdjkpnalmaaGreatDoorW.PrintLast Go.Proofs.YtkgdhdjkpnalmaaGreatDoorW.PrintMore
attribute [local go_sem] zcd zca zci zcj zb1 zb2 zcc zcb
set_option maxHeartbeats 8000000 in
set_option maxRecDepth 100000 in
theorem za7.step (k : Nat) (ih : ∀ m,m < k→za7.C m) (ih78 : ∀ m,m < k→zat.C m) : za7.C k:=by
 intro a0_0 a0_1 a0_2 a0_3 A0_4 c0_4 l0_4 a1 r w hr0_4 hc0_4 h
 cases k with
 | zero => exact absurd h (by simp [za7.f])
 | succ k =>
 simp only [za7.f] at h;have hu117:=Tryz.underlying117;have HR0_4:=zA0 hr0_4;have HC0_4:=zA0 hc0_4;clear hr0_4 hc0_4;have HB:=zA0 (Below.refl w.heap.size w);have H : ((zcv.f a0_0 a0_1 a0_2 a0_3 l0_4).bind fun t448 => (if t448 < a1 then ((zat.f k a0_0 a0_1 a0_2 a0_3 l0_4).bind fun t449 => (if 1 + t449.size≤9223372036854775807 then (if ((⟨#[40]⟩ : ByteArray) ++ t449).size + 1≤9223372036854775807 then (some (((⟨#[40]⟩ : ByteArray) ++ t449) ++ (⟨#[41]⟩ : ByteArray))) else (none)) else (none))) else ((zat.f k a0_0 a0_1 a0_2 a0_3 l0_4).bind fun t450 => (some t450)))) = some r:=h;clear h;replace H:=Option.bind_eq_some_iff.mp H;obtain ⟨t448,A30,H⟩:=H;replace H : (if t448 < a1 then ((zat.f k a0_0 a0_1 a0_2 a0_3 l0_4).bind fun t449 => (if 1 + t449.size≤9223372036854775807 then (if ((⟨#[40]⟩ : ByteArray) ++ t449).size + 1≤9223372036854775807 then (some (((⟨#[40]⟩ : ByteArray) ++ t449) ++ (⟨#[41]⟩ : ByteArray))) else (none)) else (none))) else ((zat.f k a0_0 a0_1 a0_2 a0_3 l0_4).bind fun t450 => (some t450))) = some r:=H;have A3:=zA0 A30;clear A30
 by_cases c4 : t448 < a1
 ·rw [if_pos c4] at H
  have c4b0 : decide (t448 < a1) = true:=decide_eq_true c4;clear c4;replace H:=Option.bind_eq_some_iff.mp H;obtain ⟨t449,A50,H⟩:=H;replace H : (if 1 + t449.size≤9223372036854775807 then (if ((⟨#[40]⟩ : ByteArray) ++ t449).size + 1≤9223372036854775807 then (some (((⟨#[40]⟩ : ByteArray) ++ t449) ++ (⟨#[41]⟩ : ByteArray))) else (none)) else (none)) = some r:=H;have A5:=zA0 A50;clear A50
  by_cases c6 : 1 + t449.size≤9223372036854775807
  ·rw [if_pos c6] at H
   have c6b0:=eq_true c6;have c6b1 : decide (1 + t449.size≤9223372036854775807) = true:=decide_eq_true c6;(try have c6b2 : (9223372036854775807 < 1 + t449.size) = False:=eq_false (Nat.not_lt.2 c6))
   by_cases c7 : ((⟨#[40]⟩ : ByteArray) ++ t449).size + 1≤9223372036854775807
   ·rw [if_pos c7] at H
    have c7b0:=eq_true c7;have c7b1 : decide (((⟨#[40]⟩ : ByteArray) ++ t449).size + 1≤9223372036854775807) = true:=decide_eq_true c7;(try have c7b2 : (9223372036854775807 < ((⟨#[40]⟩ : ByteArray) ++ t449).size + 1) = False:=eq_false (Nat.not_lt.2 c7))
    try have c7b3 : (9223372036854775807 < 1 + t449.size + 1) = False:=by have h_:=c7b2;simp only [ByteArray.size_append] at h_;exact h_
    obtain rfl:=Option.some.inj H;go_enter Tryz.func87,Tryz.ntmps87
    go_wp2_with (first | ((with_reducible refine zbm (N:=2) rfl ?_);refine zbk ?hg (N:=2) ?hd (cs:=#[.int .i64 a0_0,.int .i64 a0_1,.int .u64 a0_2,.string a0_3,.slice A0_4 l0_4.length c0_4]) (t:=117) ?hr ?_;(case hd => rfl);(case hg => rfl);(case hr => first | (go_simp;done) | (go_simp;rfl));intro gb447 hg w8 hbox hb;have n0_:=zA0 (zaj (zs0 HB) hb);have n1_:=zA0 (hbox);have n2_:=zA0 ((yq30 : w.heap.size≤gb447));have n3_:=zA0 ((yq30 : w.heap.size≤gb447));clear HB;revert n0_ n1_ n2_ n3_;intro HB BK447 GW447 GE447;clear hb hbox hg;obtain ⟨_,_,_,_,_⟩:=zc5 BK447.out;obtain ⟨_,_,_,_,_⟩:=zf5 BK447.out) | ((with_reducible refine zav (f:=88) rfl ?_);refine zcf (some 6) rfl rfl Tryz.func88 (by kernel_rfl) rfl #[.agg #[.int .i64 a0_0,.int .i64 a0_1,.int .u64 a0_2,.string a0_3,.slice A0_4 l0_4.length c0_4]] rfl zt ?_;(with_reducible refine (zcv.calls a0_0 a0_1 a0_2 a0_3 _ _ l0_4 t448 _ ?side1 ?side2 A3.out).mono ?_);(case side1 => exact yq61);(case side2 => exact HC0_4.out);rintro e w10 ⟨rfl,hb⟩;refine ⟨_,rfl,?_⟩;have n0_:=zA0 (za4 (g:=gb447) (o:=.cells #[.int .i64 a0_0,.int .i64 a0_1,.int .u64 a0_2,.string a0_3,.slice A0_4 l0_4.length c0_4] 117 (0,0)) (zb BK447) hb);have n1_:=zA0 (zaj yq177 hb);clear BK447 HB;revert n0_ n1_;intro BK447 HB;clear hb;obtain ⟨_,_,_,_,_⟩:=zc5 BK447.out;obtain ⟨_,_,_,_,_⟩:=zf5 BK447.out) | ((with_reducible refine zav (f:=78) rfl ?_);refine zcf (some 10) rfl rfl Tryz.func78 (by kernel_rfl) rfl #[.agg #[.int .i64 a0_0,.int .i64 a0_1,.int .u64 a0_2,.string a0_3,.slice A0_4 l0_4.length c0_4]] rfl zt ?_;(with_reducible refine (ih78 k (by omega) a0_0 a0_1 a0_2 a0_3 _ _ l0_4 t449 _ ?side1 ?side2 A5.out).mono ?_);(case side1 => exact yq61);(case side2 => exact HC0_4.out);rintro e w12 ⟨rfl,hb⟩;refine ⟨_,rfl,?_⟩;have n0_:=zA0 (za4 (g:=gb447) (o:=.cells #[.int .i64 a0_0,.int .i64 a0_1,.int .u64 a0_2,.string a0_3,.slice A0_4 l0_4.length c0_4] 117 (0,0)) (zb BK447) hb);have n1_:=zA0 (zaj yq177 hb);clear BK447 HB;revert n0_ n1_;intro BK447 HB;clear hb))
    go_ret;exact ⟨yq7,yq177⟩
   ·rw [if_neg c7] at H
    exact absurd H (by simp)
  ·rw [if_neg c6] at H
   exact absurd H (by simp)
 ·rw [if_neg c4] at H
  have c4b0 : decide (t448 < a1) = false:=decide_eq_false c4;clear c4;replace H:=Option.bind_eq_some_iff.mp H;obtain ⟨t450,A130,H⟩:=H;replace H : (some t450) = some r:=H;have A13:=zA0 A130;clear A130;obtain rfl:=Option.some.inj H;go_enter Tryz.func87,Tryz.ntmps87
  go_wp2_with (first | ((with_reducible refine zbm (N:=2) rfl ?_);refine zbk ?hg (N:=2) ?hd (cs:=#[.int .i64 a0_0,.int .i64 a0_1,.int .u64 a0_2,.string a0_3,.slice A0_4 l0_4.length c0_4]) (t:=117) ?hr ?_;(case hd => rfl);(case hg => rfl);(case hr => first | (go_simp;done) | (go_simp;rfl));intro gb447 hg w14 hbox hb;have n0_:=zA0 (zaj (zs0 HB) hb);have n1_:=zA0 (hbox);have n2_:=zA0 ((yq30 : w.heap.size≤gb447));have n3_:=zA0 ((yq30 : w.heap.size≤gb447));clear HB;revert n0_ n1_ n2_ n3_;intro HB BK447 GW447 GE447;clear hb hbox hg;obtain ⟨_,_,_,_,_⟩:=zc5 BK447.out;obtain ⟨_,_,_,_,_⟩:=zf5 BK447.out) | ((with_reducible refine zav (f:=88) rfl ?_);refine zcf (some 6) rfl rfl Tryz.func88 (by kernel_rfl) rfl #[.agg #[.int .i64 a0_0,.int .i64 a0_1,.int .u64 a0_2,.string a0_3,.slice A0_4 l0_4.length c0_4]] rfl zt ?_;(with_reducible refine (zcv.calls a0_0 a0_1 a0_2 a0_3 _ _ l0_4 t448 _ ?side1 ?side2 A3.out).mono ?_);(case side1 => exact yq61);(case side2 => exact HC0_4.out);rintro e w16 ⟨rfl,hb⟩;refine ⟨_,rfl,?_⟩;have n0_:=zA0 (za4 (g:=gb447) (o:=.cells #[.int .i64 a0_0,.int .i64 a0_1,.int .u64 a0_2,.string a0_3,.slice A0_4 l0_4.length c0_4] 117 (0,0)) (zb BK447) hb);have n1_:=zA0 (zaj yq177 hb);clear BK447 HB;revert n0_ n1_;intro BK447 HB;clear hb;obtain ⟨_,_,_,_,_⟩:=zc5 BK447.out;obtain ⟨_,_,_,_,_⟩:=zf5 BK447.out) | ((with_reducible refine zav (f:=78) rfl ?_);refine zcf (some 14) rfl rfl Tryz.func78 (by kernel_rfl) rfl #[.agg #[.int .i64 a0_0,.int .i64 a0_1,.int .u64 a0_2,.string a0_3,.slice A0_4 l0_4.length c0_4]] rfl zt ?_;(with_reducible refine (ih78 k (by omega) a0_0 a0_1 a0_2 a0_3 _ _ l0_4 t450 _ ?side1 ?side2 A13.out).mono ?_);(case side1 => exact yq61);(case side2 => exact HC0_4.out);rintro e w18 ⟨rfl,hb⟩;refine ⟨_,rfl,?_⟩;have n0_:=zA0 (za4 (g:=gb447) (o:=.cells #[.int .i64 a0_0,.int .i64 a0_1,.int .u64 a0_2,.string a0_3,.slice A0_4 l0_4.length c0_4] 117 (0,0)) (zb BK447) hb);have n1_:=zA0 (zaj yq177 hb);clear BK447 HB;revert n0_ n1_;intro BK447 HB;clear hb))
  go_ret;exact ⟨yq7,yq177⟩
end Go.Proofs.YtkgdhdjkpnalmaaGreatDoor.P
end
