/- What is proved here: a part of the proof of ElectionChangedVote: Px21, Px22. No conditions beside those that each theorem states. -/
import Derived.Test.YtkgdhdjkpnalmaaGreatDoorKECVte4
set_option linter.unusedVariables false
set_option linter.unusedSimpArgs false
section
namespace Go.Proofs.YtkgdhdjkpnalmaaGreatDoor.P
open Go.RowKit Go.Proofs.YtkgdhdjkpnalmaaGreatDoorW.PrintWords Go.Proofs.YtkgdhdjkpnalmaaGreatDoorW.PrintLast Go.Proofs.YtkgdhdjkpnalmaaGreatDoorW.PrintMore
attribute [local go_sem] zcd zca zci zcj zb1 zb2 zcc zcb
def zbg.l0 : Nat→ByteArray→List ByteArray→Int→Option (Bool)
 | 0,_,_,_ => none
 | k + 1,x0,x3,x4 => if x4 < (x3.length : Int) then (if 0≤x4 then (if x0.toList = (rdOf ByteArray.empty x3 x4).toList then (some true) else (zbg.l0 k x0 x3 (wrap64 (x4 + 1)))) else (none)) else (some false)
def zbg.f (k : Nat) (a0 : ByteArray) : Option (Bool):=zbg.l0 k a0 (([(⟨#[105,110]⟩ : ByteArray),(⟨#[102,114,111,109]⟩ : ByteArray),(⟨#[97,114,114,97,121]⟩ : ByteArray),(⟨#[105,102]⟩ : ByteArray),(⟨#[101,108,115,101]⟩ : ByteArray),(⟨#[102,111,114]⟩ : ByteArray),(⟨#[116,111]⟩ : ByteArray),(⟨#[111,117,116]⟩ : ByteArray)] : List ByteArray)) 0
theorem zbg.mono_l : ∀ k,(∀ y0 y1 y2,LeO (zbg.l0 k y0 y1 y2) (zbg.l0 (k + 1) y0 y1 y2))
 | 0 => fun _ _ _ r h => by simp [zbg.l0] at h
 | k + 1 => by
  have ih0:=zbg.mono_l k
  ·intro y0 y1 y2
   unfold zbg.l0
   exact yq11
theorem zbg.mono : ∀ a0 k,LeO (zbg.f k a0) (zbg.f (k + 1) a0):=by
 intro a0 k;have ih0:=zbg.mono_l k;unfold zbg.f
 exact yq11
set_option maxHeartbeats 8000000 in
set_option maxRecDepth 100000 in
theorem zbg.calls (k : Nat) (a0 : ByteArray) (r : Bool) (w : World) (h : zbg.f k a0 = some r) :
  Calls Tryz.prog 60 #[.string a0] w fun e w' => e = .returned (.bool r)∧Below w.heap.size w w':=by
 have HB:=zA0 (Below.refl w.heap.size w);have H : (zbg.l0 k a0 (([(⟨#[105,110]⟩ : ByteArray),(⟨#[102,114,111,109]⟩ : ByteArray),(⟨#[97,114,114,97,121]⟩ : ByteArray),(⟨#[105,102]⟩ : ByteArray),(⟨#[101,108,115,101]⟩ : ByteArray),(⟨#[102,111,114]⟩ : ByteArray),(⟨#[116,111]⟩ : ByteArray),(⟨#[111,117,116]⟩ : ByteArray)] : List ByteArray)) 0) = some r:=h;clear h
 obtain ⟨y393,hy393⟩ : ∃ y_ : List ByteArray,y_ = (([(⟨#[105,110]⟩ : ByteArray),(⟨#[102,114,111,109]⟩ : ByteArray),(⟨#[97,114,114,97,121]⟩ : ByteArray),(⟨#[105,102]⟩ : ByteArray),(⟨#[101,108,115,101]⟩ : ByteArray),(⟨#[102,111,114]⟩ : ByteArray),(⟨#[116,111]⟩ : ByteArray),(⟨#[111,117,116]⟩ : ByteArray)] : List ByteArray)):=⟨_,rfl⟩
 replace H : (zbg.l0 k a0 y393 0) = some r:=yr hy393 H
 have Ny393:=zA0 hy393;clear hy393;have H':=zA0 H;clear H;go_enter Tryz.func60,Tryz.ntmps60
 go_wp2_with (first | ((with_reducible refine zbm (N:=5) rfl ?_);refine Kd.R_lit Kd.string _ 9 ?hg (N:=5) ?hd (xs:=([(⟨#[105,110]⟩ : ByteArray),(⟨#[102,114,111,109]⟩ : ByteArray),(⟨#[97,114,114,97,121]⟩ : ByteArray),(⟨#[105,102]⟩ : ByteArray),(⟨#[101,108,115,101]⟩ : ByteArray),(⟨#[102,111,114]⟩ : ByteArray),(⟨#[116,111]⟩ : ByteArray),(⟨#[111,117,116]⟩ : ByteArray)] : List ByteArray)) (inner:=[.string (⟨#[105,110]⟩ : ByteArray),.string (⟨#[102,114,111,109]⟩ : ByteArray),.string (⟨#[97,114,114,97,121]⟩ : ByteArray),.string (⟨#[105,102]⟩ : ByteArray),.string (⟨#[101,108,115,101]⟩ : ByteArray),.string (⟨#[102,111,114]⟩ : ByteArray),.string (⟨#[116,111]⟩ : ByteArray),.string (⟨#[111,117,116]⟩ : ByteArray)]) (ok:=fun _ => True) (okp:=fun _ => True) ?hr ?hp (fun _ hk => hk) trivial (Below.refl _ _) (Nat.le_refl _) (by simp) ?_;(case hd => rfl);(case hg => rfl);(case hr => first | (go_simp;done) | (go_simp;rfl));(case hp => exact (Reps.one (show Kd.M Kd.string _ _ _ (⟨#[105,110]⟩ : ByteArray) [.string (⟨#[105,110]⟩ : ByteArray)] from rfl) (Reps.one (show Kd.M Kd.string _ _ _ (⟨#[102,114,111,109]⟩ : ByteArray) [.string (⟨#[102,114,111,109]⟩ : ByteArray)] from rfl) (Reps.one (show Kd.M Kd.string _ _ _ (⟨#[97,114,114,97,121]⟩ : ByteArray) [.string (⟨#[97,114,114,97,121]⟩ : ByteArray)] from rfl) (Reps.one (show Kd.M Kd.string _ _ _ (⟨#[105,102]⟩ : ByteArray) [.string (⟨#[105,102]⟩ : ByteArray)] from rfl) (Reps.one (show Kd.M Kd.string _ _ _ (⟨#[101,108,115,101]⟩ : ByteArray) [.string (⟨#[101,108,115,101]⟩ : ByteArray)] from rfl) (Reps.one (show Kd.M Kd.string _ _ _ (⟨#[102,111,114]⟩ : ByteArray) [.string (⟨#[102,111,114]⟩ : ByteArray)] from rfl) (Reps.one (show Kd.M Kd.string _ _ _ (⟨#[116,111]⟩ : ByteArray) [.string (⟨#[116,111]⟩ : ByteArray)] from rfl) (Reps.one (show Kd.M Kd.string _ _ _ (⟨#[111,117,116]⟩ : ByteArray) [.string (⟨#[111,117,116]⟩ : ByteArray)] from rfl) (Reps.none _ _))))))))));intro v394 w2 ho3 hb hg_ hnew_;clear hg_ hnew_;(first | rw [← Ny393.out] at ho3 | (simp only [Int.reduceToNat] at ho3;rw [← Ny393.out] at ho3));have n0_:=zA0 (Kd.R_lower ho3 (zb7 (zs0 HB)));have n1_:=zA0 (zaj (zs0 HB) hb);clear HB;revert n0_ n1_;intro HO395 HB;clear hb ho3))
 go_loopg [4] k (fun kq v4 w' => ∃ (x4_1 : Int),v4 = .int .i64 x4_1∧Aside0 (zbg.l0 kq a0 y393 x4_1 = some r)∧Aside0 (kq≤k)∧Aside0 (Kd.R Kd.string 9 w' w.heap.size (fun _ => True) v394 y393)∧Aside0 (Below w.heap.size w w'))
 case atStart => exact ⟨(0),yq6,H',⟨Nat.le_refl _⟩,⟨yp1 HO395⟩,⟨yq38⟩⟩
 case round =>
  clear H';obtain ⟨x4_1,rfl,HA,HK1,HO_3,HB⟩:=hrel
  cases gk with
  | zero => exact absurd HA.out (by simp [zbg.l0])
  | succ k1 =>
   have H:=HA.out;clear HA;simp only [zbg.l0] at H
   by_cases c4 : x4_1 < (y393.length : Int)
   ·rw [if_pos c4] at H
    have c4b0 : decide (x4_1 < (y393.length : Int)) = true:=decide_eq_true c4;clear c4
    by_cases c5 : 0≤x4_1
    ·rw [if_pos c5] at H
     have c5b0 : decide (0≤x4_1) = true:=decide_eq_true c5;clear c5
     by_cases c6 : a0.toList = (rdOf ByteArray.empty y393 x4_1).toList
     ·rw [if_pos c6] at H
      have c6b0 : (a0.toList == (rdOf ByteArray.empty y393 x4_1).toList) = true:=beq_iff_eq.mpr c6;have c6b1 : (a0.toList != (rdOf ByteArray.empty y393 x4_1).toList) = false:=bne_eq_false_iff_eq.mpr c6;clear c6;obtain rfl:=Option.some.inj H;obtain ⟨Ao7,co7,eo7⟩:=Kd.R_slice HO_3.out;subst eo7;have p396 : 0≤(x4_1 : Int):=of_decide_eq_true yq3;have q396 : x4_1 < (y393.length : Int):=of_decide_eq_true yq3;obtain ⟨ad396,e396,hx396_0⟩:=Kd.at_string (Kd.R_reads' HO_3.out).2.2 x4_1 p396 q396;cases e396;replace p396:=eq_true p396;replace q396:=eq_true q396;go_wp2;go_ret;exact ⟨yq7,zs0 HB⟩
     ·rw [if_neg c6] at H
      have c6b0 : (a0.toList == (rdOf ByteArray.empty y393 x4_1).toList) = false:=beq_eq_false_iff_ne.mpr c6;have c6b1 : (a0.toList != (rdOf ByteArray.empty y393 x4_1).toList) = true:=bne_iff_ne.mpr c6;have H':=zA0 H;clear H;obtain ⟨Ao8,co8,eo8⟩:=Kd.R_slice HO_3.out;subst eo8;have p396 : 0≤(x4_1 : Int):=of_decide_eq_true yq3;have q396 : x4_1 < (y393.length : Int):=of_decide_eq_true yq3;obtain ⟨ad396,e396,hx396_0⟩:=Kd.at_string (Kd.R_reads' HO_3.out).2.2 x4_1 p396 q396;cases e396;replace p396:=eq_true p396;replace q396:=eq_true q396;go_wp2
      go_roundg k1
      case measure => have:=HK1.out;omega
      case rel => exact ⟨(wrap64 (x4_1 + 1)),yq6,H',⟨yq95⟩,⟨yp1 HO_3⟩,⟨yq38⟩⟩
    ·rw [if_neg c5] at H
     exact absurd H (by simp)
   ·rw [if_neg c4] at H
    have c4b0 : decide (x4_1 < (y393.length : Int)) = false:=decide_eq_false c4;clear c4;obtain rfl:=Option.some.inj H;obtain ⟨Ao9,co9,eo9⟩:=Kd.R_slice HO_3.out;subst eo9;go_wp2;go_ret;exact ⟨yq7,zs0 HB⟩
mutual
def zaw.j0 : Nat→ByteArray→Bool→Option (Int)
 | 0,_,_ => none
 | k + 1,x0,x12 => if x12 = true then (some 2) else (zaw.l0 k x0 (⟨#[40,41,91,93,123,125,59,44,58,61,43,45,42,60,38,124,33,63]⟩ : ByteArray) 0)
def zaw.l0 : Nat→ByteArray→ByteArray→Int→Option (Int)
 | 0,_,_,_ => none
 | k + 1,x0,x3,x4 => if x4 < (x3.size : Int) then (if 0 < (x0.size : Int) then (if 0≤x4 then (if (bt x0 0) = (bt x3 x4) then (some 1) else (zaw.l0 k x0 x3 (wrap64 (x4 + 1)))) else (none)) else (none)) else (some 0)
end
def zaw.f (k : Nat) (a0 : ByteArray) : Option (Int):=if (a0.size : Int) > 1 then (if 0≤2 then (if 2≤(a0.size : Int) then (zaw.j0 k a0 ((a0.extract 0 2).toList == ([61,61] : List UInt8))) else (none)) else (none)) else (zaw.j0 k a0 false)
theorem zaw.mono_l : ∀ k,(∀ y0 y1,LeO (zaw.j0 k y0 y1) (zaw.j0 (k + 1) y0 y1))∧(∀ y0 y1 y2,LeO (zaw.l0 k y0 y1 y2) (zaw.l0 (k + 1) y0 y1 y2))
 | 0 => ⟨fun _ _ r h => by simp [zaw.j0] at h,fun _ _ _ r h => by simp [zaw.l0] at h⟩
 | k + 1 => by
  obtain ⟨ih0,ih1⟩:=zaw.mono_l k;refine ⟨?_,?_⟩
  ·intro y0 y1
   unfold zaw.j0
   exact yq37
  ·intro y0 y1 y2
   unfold zaw.l0
   exact yq37
theorem zaw.mono : ∀ a0 k,LeO (zaw.f k a0) (zaw.f (k + 1) a0):=by
 intro a0 k;obtain ⟨ih0,ih1⟩:=zaw.mono_l k;unfold zaw.f
 exact yq37
set_option maxHeartbeats 8000000 in
set_option maxRecDepth 100000 in
theorem zaw.calls (k : Nat) (a0 : ByteArray) (r : Int) (w : World) (h : zaw.f k a0 = some r) :
  Calls Tryz.prog 61 #[.string a0] w fun e w' => e = .returned (.int .i64 r)∧zdl w w':=by
 have H : (if (a0.size : Int) > 1 then (if 0≤2 then (if 2≤(a0.size : Int) then (zaw.j0 k a0 ((a0.extract 0 2).toList == ([61,61] : List UInt8))) else (none)) else (none)) else (zaw.j0 k a0 false)) = some r:=h;clear h;have HC2:=zA0 H;clear H;go_enter Tryz.func61,Tryz.ntmps61
 go_upto_region 1 with (fail)
 repeat (go_quiet (fail);go_upto_region 1 with (fail))
 go_cut [12] (fun v12 wc => ∃ (kq : Nat) (x12_1 : Bool),v12 = .bool x12_1∧Aside0 (zaw.j0 kq a0 x12_1 = some r)∧Aside0 (kq≤k)∧zdl w wc)
 case first =>
  have H:=HC2.out;clear HC2
  by_cases c3 : (a0.size : Int) > 1
  ·rw [if_pos c3] at H
   have c3b0 : decide (1 < (a0.size : Int)) = true:=decide_eq_true c3;have c3b1 : decide (1 < a0.size) = true:=decide_eq_true (by omega);clear c3
   (first | rw [c3b0] | (simp only [zc7,zdc];rw [c3b0]) | skip)
   by_cases c4 : 0≤2
   ·rw [if_pos c4] at H
    have c4b0:=eq_true c4;have c4b1 : decide (0≤2) = true:=decide_eq_true c4;clear c4
    by_cases c5 : 2≤(a0.size : Int)
    ·rw [if_pos c5] at H
     have c5b0:=eq_true c5;have c5b1 : decide (2≤(a0.size : Int)) = true:=decide_eq_true c5;clear c5;have H':=zA0 H;clear H;go_wp2
     repeat (go_quiet (fail);try go_wp2)
     go_meet
     case rel => exact ⟨_,(((a0.extract 0 2).toList == ([61,61] : List UInt8))),yq6,H',⟨yq209⟩,yq17⟩
    ·rw [if_neg c5] at H
     exact absurd H (by simp)
   ·rw [if_neg c4] at H
    exact absurd H (by simp)
  ·rw [if_neg c3] at H
   have c3b0 : decide (1 < (a0.size : Int)) = false:=decide_eq_false c3;have c3b1 : decide (1 < a0.size) = false:=decide_eq_false (by omega);clear c3
   (first | rw [c3b0] | (simp only [zc7,zdc];rw [c3b0]) | skip)
   have H':=zA0 H;clear H;go_wp2
   repeat (go_quiet (fail);try go_wp2)
   go_meet
   case rel => exact ⟨_,(false),yq6,H',⟨yq209⟩,yq17⟩
 case rest =>
  clear HC2;obtain ⟨kq,x12_1,rfl,HA,HJ1,⟨mc1,rfl⟩⟩:=hcut
  cases kq with
  | zero => exact absurd HA.out (by simp [zaw.j0])
  | succ kj1 =>
   have H:=HA.out;clear HA;simp only [zaw.j0] at H
   by_cases c6 : x12_1 = true
   ·subst c6
    have H1 : (some 2) = some r:=yq36
    clear H;have H:=H1;clear H1;obtain rfl:=Option.some.inj H;go_wp2
    repeat (go_quiet (fail);try go_wp2)
    go_ret;exact ⟨yq6,yq17⟩
   ·replace c6:=Bool.eq_false_iff.mpr c6
    subst c6
    have H1 : (zaw.l0 kj1 a0 (⟨#[40,41,91,93,123,125,59,44,58,61,43,45,42,60,38,124,33,63]⟩ : ByteArray) 0) = some r:=yq12
    clear H;have H:=H1;clear H1;have H':=zA0 H;clear H;go_wp2
    repeat (go_quiet (fail);try go_wp2)
    go_loopg [4] kj1 (fun kq v4 w' => ∃ (x4_2 : Int),v4 = .int .i64 x4_2∧Aside0 (zaw.l0 kq a0 (⟨#[40,41,91,93,123,125,59,44,58,61,43,45,42,60,38,124,33,63]⟩ : ByteArray) x4_2 = some r)∧Aside0 (kq≤kj1)∧zdl w w')
    case atStart => exact ⟨(0),yq6,H',⟨Nat.le_refl _⟩,yq17⟩
    case round =>
     clear H';obtain ⟨x4_2,rfl,HA,HK2,⟨m2,rfl⟩⟩:=hrel
     cases gk with
     | zero => exact absurd HA.out (by simp [zaw.l0])
     | succ k2 =>
      have H:=HA.out;clear HA;simp only [zaw.l0] at H
      by_cases c7 : x4_2 < ((⟨#[40,41,91,93,123,125,59,44,58,61,43,45,42,60,38,124,33,63]⟩ : ByteArray).size : Int)
      ·rw [if_pos c7] at H
       have c7b0 : decide (x4_2 < ((⟨#[40,41,91,93,123,125,59,44,58,61,43,45,42,60,38,124,33,63]⟩ : ByteArray).size : Int)) = true:=decide_eq_true c7;have c7b0z : decide (x4_2 < 18) = true:=c7b0;clear c7
       by_cases c8 : 0 < (a0.size : Int)
       ·rw [if_pos c8] at H
        have c8b0 : decide (0 < (a0.size : Int)) = true:=decide_eq_true c8;have c8b1 : decide (0 < a0.size) = true:=decide_eq_true (by omega);clear c8
        by_cases c10 : 0≤x4_2
        ·rw [if_pos c10] at H
         have c10b0 : decide (0≤x4_2) = true:=decide_eq_true c10;clear c10
         by_cases c12 : (bt a0 0) = (bt (⟨#[40,41,91,93,123,125,59,44,58,61,43,45,42,60,38,124,33,63]⟩ : ByteArray) x4_2)
         ·rw [if_pos c12] at H
          have c12b0 : ((bt a0 0) == (bt (⟨#[40,41,91,93,123,125,59,44,58,61,43,45,42,60,38,124,33,63]⟩ : ByteArray) x4_2)) = true:=beq_iff_eq.mpr c12;have c12b1 : ((bt a0 0) != (bt (⟨#[40,41,91,93,123,125,59,44,58,61,43,45,42,60,38,124,33,63]⟩ : ByteArray) x4_2)) = false:=bne_eq_false_iff_eq.mpr c12;clear c12;obtain rfl:=Option.some.inj H
          have p9 : 0≤(0 : Int):=(by omega)
          have q9 : 0 < a0.size:=(by have : (0 : Int) < (a0.size : Int):=of_decide_eq_true yq3;omega)
          have hx9 : ∀ h : 0 < a0.size,((a0[0]'h).toNat : Int) = bt a0 0:=zd8 a0 0;clear p9;have qi9 : (0 < (a0.size : Int)) = True:=eq_true (of_decide_eq_true yq3);replace q9:=eq_true q9;have p11 : 0≤(x4_2 : Int):=of_decide_eq_true yq3;have q11 : x4_2 < (18 : Int):=of_decide_eq_true yq3;have hx11:=zd8 (⟨#[40,41,91,93,123,125,59,44,58,61,43,45,42,60,38,124,33,63]⟩ : ByteArray) x4_2;replace p11:=eq_true p11;replace q11:=eq_true q11;go_wp2
          repeat (go_quiet (fail);try go_wp2)
          go_ret;exact ⟨yq6,yq17⟩
         ·rw [if_neg c12] at H
          have c12b0 : ((bt a0 0) == (bt (⟨#[40,41,91,93,123,125,59,44,58,61,43,45,42,60,38,124,33,63]⟩ : ByteArray) x4_2)) = false:=beq_eq_false_iff_ne.mpr c12;have c12b1 : ((bt a0 0) != (bt (⟨#[40,41,91,93,123,125,59,44,58,61,43,45,42,60,38,124,33,63]⟩ : ByteArray) x4_2)) = true:=bne_iff_ne.mpr c12;have H':=zA0 H;clear H
          have p9 : 0≤(0 : Int):=(by omega)
          have q9 : 0 < a0.size:=(by have : (0 : Int) < (a0.size : Int):=of_decide_eq_true yq3;omega)
          have hx9 : ∀ h : 0 < a0.size,((a0[0]'h).toNat : Int) = bt a0 0:=zd8 a0 0;clear p9;have qi9 : (0 < (a0.size : Int)) = True:=eq_true (of_decide_eq_true yq3);replace q9:=eq_true q9;have p11 : 0≤(x4_2 : Int):=of_decide_eq_true yq3;have q11 : x4_2 < (18 : Int):=of_decide_eq_true yq3;have hx11:=zd8 (⟨#[40,41,91,93,123,125,59,44,58,61,43,45,42,60,38,124,33,63]⟩ : ByteArray) x4_2;replace p11:=eq_true p11;replace q11:=eq_true q11;go_wp2
          repeat (go_quiet (fail);try go_wp2)
          go_roundg k2
          case measure => have:=HJ1.out;have:=HK2.out;omega
          case rel => exact ⟨(wrap64 (x4_2 + 1)),yq6,H',⟨by have:=HJ1.out;have:=HK2.out;omega⟩,yq17⟩
        ·rw [if_neg c10] at H
         exact absurd H (by simp)
       ·rw [if_neg c8] at H
        exact absurd H (by simp)
      ·rw [if_neg c7] at H
       have c7b0 : decide (x4_2 < ((⟨#[40,41,91,93,123,125,59,44,58,61,43,45,42,60,38,124,33,63]⟩ : ByteArray).size : Int)) = false:=decide_eq_false c7;have c7b0z : decide (x4_2 < 18) = false:=c7b0;clear c7;obtain rfl:=Option.some.inj H;go_wp2
       repeat (go_quiet (fail);try go_wp2)
       go_ret;exact ⟨yq6,yq17⟩
end Go.Proofs.YtkgdhdjkpnalmaaGreatDoor.P
end
