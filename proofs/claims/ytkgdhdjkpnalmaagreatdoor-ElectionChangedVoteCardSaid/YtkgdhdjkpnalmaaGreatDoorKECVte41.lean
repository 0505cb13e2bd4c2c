/- What is proved here: a part of the proof of ElectionChangedVote: Emw, Ert, Px60. No conditions beside those that each theorem states. -/
import Derived.Test.YtkgdhdjkpnalmaaGreatDoorKECVte32
import Derived.Test.YtkgdhdjkpnalmaaGreatDoorKECVte40
import Derived.StillTailTactics
import Derived.Test.YtkgdhdjkpnalmaaGreatDoorKECVte31
import Derived.Test.YtkgdhdjkpnalmaaGreatDoorKECVte4
set_option linter.unusedVariables false
set_option linter.unusedSimpArgs false
section
namespace Go.Proofs.YtkgdhdjkpnalmaaGreatDoor.P
open Go.RowKit Go.Proofs.YtkgdhdjkpnalmaaGreatDoorW.PrintWords Go.Proofs.YtkgdhdjkpnalmaaGreatDoorW.PrintLast Go.Proofs.YtkgdhdjkpnalmaaGreatDoorW.PrintMore
attribute [local go_sem] zcd zca zci zcj zb1 zb2 zcc zcb
theorem wrap_succ {i n : Nat} (h : i < n) (hn : n≤1000) : wrap64 ((i : Int) + 1) = ((i + 1 : Nat) : Int):=by unfold wrap64;omega
theorem kE_heap : Kd.Heap k117:=Kd.heap_fix (fun _ h_ => Kd.heap_iso _ (Kd.heap_pair (Kd.heap_int .i64) (Kd.heap_pair (Kd.heap_int .i64) (Kd.heap_pair (Kd.heap_int .u64) (Kd.heap_pair Kd.heap_string (Kd.heap_slice 117 h_))))))
theorem kS_heap : Kd.Heap k114:=Kd.heap_fix (fun _ h_ => Kd.heap_iso _ (Kd.heap_pair (Kd.heap_int .i64) (Kd.heap_pair Kd.heap_string (Kd.heap_pair (Kd.heap_slice 117 kE_heap) (Kd.heap_pair (Kd.heap_slice 114 h_) (Kd.heap_slice 114 h_))))))
def mostOf (l : List S50) : Int:=l.foldl (fun m x => mx m x.f2) 0
theorem mostOf_snoc (l : List S50) (x : S50) : mostOf (l ++ [x]) = mx (mostOf l) x.f2:=by simp [mostOf]
def zcm.f (k : Nat) (l0 : List S50) (l1 : List S87) (l2 : List S114) : Option (Int × Int × Int × Int) :=
 (zar.f k l0 l1 l2).bind fun u => (if u = true then (if l1.isEmpty = true then (if l0.length≤1000 then (zb5.f k l0 l1 l2 [] [] [] 0 (mostOf l0) 0 l2) else (none)) else (none)) else (none))
theorem zcm.mono : ∀ a0 a1 a2 k,LeO (zcm.f k a0 a1 a2) (zcm.f (k + 1) a0 a1 a2):=by
 intro a0 a1 a2 k;unfold zcm.f
 exact (by repeat' first | with_reducible apply zar.mono | with_reducible apply zb5.mono | with_reducible apply LeO.refl | with_reducible apply LeO.none | (with_reducible refine LeO.ite ?_ ?_) | (with_reducible refine LeO.bind ?_ (fun _ => ?_)))
set_option maxHeartbeats 4000000 in
set_option maxRecDepth 100000 in
theorem zcm.calls (k : Nat) (A0 : Option Addr) (c0 : Nat) (l0 : List S50) (A1 : Option Addr) (c1 : Nat) (l1 : List S87) (A2 : Option Addr) (c2 : Nat) (l2 : List S114) (r1 r2 r3 r4 : Int) (w : World)
  (hr0 : Kd.C k50 w A0 l0.length l0) (hc0 : l0.length≤c0) (hr1 : Kd.C k87 w A1 l1.length l1) (hc1 : l1.length≤c1) (hr2 : Kd.C k114 w A2 l2.length l2) (hc2 : l2.length≤c2) (h : zcm.f k l0 l1 l2 = some (r1,r2,r3,r4)) :
  Calls Tryz.prog 47 #[.agg #[.slice A0 l0.length c0,.slice A1 l1.length c1,.slice A2 l2.length c2]] w fun e w' => ∃ g : Nat,e = .returned (.tuple #[.pointer (some ⟨g,0,none⟩),.int .i64 r1])∧zax w w' g l0 l1 l2 [] [] [] r2 r3 r4∧Below w.heap.size w w':=by
 unfold zcm.f at h;obtain ⟨u,hu,h⟩:=Option.bind_eq_some_iff.1 h
 by_cases cu : u = true
 rotate_left
 ·rw [if_neg cu] at h;cases h
 by_cases ce : l1.isEmpty = true
 rotate_left
 ·rw [if_pos cu,if_neg ce] at h;cases h
 by_cases cl : l0.length≤1000
 rotate_left
 ·rw [if_pos cu,if_pos ce,if_neg cl] at h;cases h
 rw [if_pos cu,if_pos ce,if_pos cl] at h;subst cu;obtain rfl:=List.isEmpty_iff.1 ce;have HU:=zA0 hu;have HS:=zA0 h;have HR0:=zA0 hr0;have HR1:=zA0 hr1;have HR2:=zA0 hr2;have hup:=Tryz.underlying33;clear hu h ce hr0 hr1 hr2;go_enter Tryz.func47,Tryz.ntmps47
 go_upto_region 1 with (first | ((with_reducible refine zbm (N:=1) rfl ?_);(try (refine zcy (by rfl) ?_;dsimp only));refine zbk ?hg (N:=1) ?hd (cs:=#[.slice A0 l0.length c0,.slice A1 ([] : List S87).length c1,.slice A2 l2.length c2]) (t:=33) ?hr ?_;(case hd => rfl);(case hg => rfl);(case hr => first | (go_simp;done) | (go_simp;rfl));intro gb hgb w1 hbx hbb;have hGb : w.heap.size≤gb:=(by rw [hgb];exact Nat.le_refl _);clear hgb))
 have hlb : gb < w1.heap.size:=zcs hbx;have y0 : w1.cell? ⟨gb,0,none⟩ = some (.slice A0 l0.length c0):=(zbf hbx 0).trans rfl;have y1 : w1.cell? ⟨gb,1,none⟩ = some (.slice A1 0 c1):=(zbf hbx 1).trans rfl;have y2 : w1.cell? ⟨gb,2,none⟩ = some (.slice A2 l2.length c2):=(zbf hbx 2).trans rfl
 go_upto_region 2 with (fail)
 have hB2:=zbp hbb (.cells #[.slice A0 l0.length c0,.slice A1 0 c1,.slice A2 l2.length c2,.slice none 0 0,.slice none 0 0,.slice none 0 0,.int .i64 0,.int .i64 0,.int .i64 0] 107);have hx2:=((zbp (Below.refl w1.heap.size w1) (.cells #[.slice A0 l0.length c0,.slice A1 0 c1,.slice A2 l2.length c2,.slice none 0 0,.slice none 0 0,.slice none 0 0,.int .i64 0,.int .i64 0,.int .i64 0] 107)).block gb hlb).trans hbx;have HI2 : zax w (w1.alloc (.cells #[.slice A0 l0.length c0,.slice A1 0 c1,.slice A2 l2.length c2,.slice none 0 0,.slice none 0 0,.slice none 0 0,.int .i64 0,.int .i64 0,.int .i64 0] 107)) w1.heap.size l0 [] l2 [] [] [] 0 0 0:=zax.new w w1 A0 c0 A1 c1 A2 c2 none 0 none 0 none 0 l0 [] l2 [] [] [] 0 0 0 hbb HR0.out HR1.out HR2.out (Kd.C_nil _ _) (Kd.C_nil _ _) (Kd.C_nil _ _);have hgb : gb≠w1.heap.size:=Nat.ne_of_lt hlb;have hgw : w.heap.size≤w1.heap.size:=hbb.size;clear y0 y1 y2;generalize w1.alloc (.cells #[.slice A0 l0.length c0,.slice A1 0 c1,.slice A2 l2.length c2,.slice none 0 0,.slice none 0 0,.slice none 0 0,.int .i64 0,.int .i64 0,.int .i64 0] 107) = w2 at *;generalize w1.heap.size = g at *;have y0 : w2.cell? ⟨gb,0,none⟩ = some (.slice A0 l0.length c0):=(zbf hx2 0).trans rfl;have y1 : w2.cell? ⟨gb,1,none⟩ = some (.slice A1 0 c1):=(zbf hx2 1).trans rfl;have y2 : w2.cell? ⟨gb,2,none⟩ = some (.slice A2 l2.length c2):=(zbf hx2 2).trans rfl;have HB2:=zA0 hB2;have HX2:=zA0 hx2;have hl2 : gb < w2.heap.size:=zcs hx2;have HJ2:=zA0 HI2;clear hB2 hx2 HI2 hbb hbx hlb w1
 go_wp2_with fail
 refine (zar.calls k A0 c0 l0 A1 c1 [] A2 c2 l2 true w2 (Kd.C_below HR0.out HB2.out) hc0 (Kd.C_below HR1.out HB2.out) hc1 (Kd.C_below HR2.out HB2.out) hc2 HU.out).mono ?_;rintro e w3 ⟨rfl,b3⟩;have hx3:=(b3.block gb hl2).trans HX2.out;have HB3:=zA0 (zaj HB2.out b3);have HJ3:=zA0 (zax.below HJ2.out b3);have HX3:=zA0 hx3;clear hx3 b3 y0 y1 y2 HB2 HX2 HJ2 hl2
 go_wp2_with fail
 go_loopw [5] (fun v5 wr => ∃ i : Nat,v5 = .int .i64 (i : Int)∧i≤l0.length∧zax w wr g l0 [] l2 [] [] [] 0 (mostOf (l0.take i)) 0∧Below w.heap.size w wr∧wr.heap[gb]? = some (.cells #[.slice A0 l0.length c0,.slice A1 0 c1,.slice A2 l2.length c2] 33 (0,0))) (fun v5 _ => ((l0.length : Int) - intOf v5).toNat)
 case atStart => exact ⟨0,rfl,Nat.zero_le _,HJ3.out,HB3.out,HX3.out⟩
 case round =>
  clear HJ3 HB3 HX3 w3;obtain ⟨i,rfl,hi,hI,hB,hX⟩:=hrel;have y0 : wr.cell? ⟨gb,0,none⟩ = some (.slice A0 l0.length c0):=(zbf hX 0).trans rfl;have y1 : wr.cell? ⟨gb,1,none⟩ = some (.slice A1 0 c1):=(zbf hX 1).trans rfl;have y2 : wr.cell? ⟨gb,2,none⟩ = some (.slice A2 l2.length c2):=(zbf hX 2).trans rfl
  by_cases hlt : i < l0.length
  ·obtain ⟨ad,e0,x0,x1,x2,x3⟩:=at_T50 (Kd.C_below HR0.out hB) (i : Int) (by omega) (by omega)
   cases e0;rw [Int.toNat_natCast] at x0 x1 x2 x3
   have hrd : zaq l0 (i : Int) = l0[i]:=by simp [zaq,hlt]
   have htk : mostOf (l0.take (i + 1)) = mx (mostOf (l0.take i)) (zaq l0 (i : Int)).f2:=by rw [List.take_succ_eq_append_getElem hlt,mostOf_snoc,hrd]
   have HT:=zA0 htk;have p0 : (0≤(i : Int)) = True:=eq_true (by omega);have p1 : ((i : Int) < (l0.length : Int)) = True:=eq_true (by omega);have HI:=zA0 hI;have HB:=zA0 hB;have HX:=zA0 hX;obtain ⟨B0,d0,B1,d1,B2,d2,B3,d3,B4,d4,B5,d5,HG,hgg,_,_,_,_,_,_⟩:=hI;have z7:=cellS107_7 HG;have f7:=zap HG 7
   have mixed : Tryz.prog.follows .mixedOrders = true:=by kernel_rfl
   clear HG htk hrd hX hB
   go_upto_region 7 with (fail)
   refine wp_region_still_tail 14 mixed (by kernel_rfl) ?_;simp only [List.take_succ_cons,List.take_zero,List.drop_succ_cons,List.drop_zero]
   change wpStill _ _ (World.drew _) _ _ _
   repeat still_step
   refine wpStill_nil ?_
   change wpList _ _ _ _ _ (World.drew _)
   go_wp2
   go_roundw
   have hwi:=wrap_succ hlt cl
   case rel => exact ⟨i + 1,by first | rfl | rw [hwi],Nat.succ_le_of_lt hlt,by rw [HT.out];exact zax.set_7 (zax.drew HI.out) _,zba (zbr HB.out) hgw,zbv (zdg HX.out) hgb _⟩
   case measure => first | (simp [intOf];omega) | (simp only [hwi,intOf];simp;omega)
  ·obtain rfl : i = l0.length:=by omega
   rw [List.take_length] at hI;have HI:=zA0 hI;have HB:=zA0 hB;have HX:=zA0 hX;clear hI hB hX
   go_wp2_with fail
   clear y0 y1 y2
   go_loopw [6,7,8] (fun v6 _ _ wr => v6 = .int .i64 0∧zax w wr g l0 [] l2 [] [] [] 0 (mostOf l0) 0∧Below w.heap.size w wr∧wr.heap[gb]? = some (.cells #[.slice A0 l0.length c0,.slice A1 0 c1,.slice A2 l2.length c2] 33 (0,0))) (fun _ _ _ _ => 0)
   case atStart => exact ⟨rfl,HI.out,HB.out,HX.out⟩
   case round =>
    clear HI HB HX;obtain ⟨rfl,hI,hB,hX⟩:=hrel;have y0 : wr.cell? ⟨gb,0,none⟩ = some (.slice A0 l0.length c0):=(zbf hX 0).trans rfl;have y1 : wr.cell? ⟨gb,1,none⟩ = some (.slice A1 0 c1):=(zbf hX 1).trans rfl;have y2 : wr.cell? ⟨gb,2,none⟩ = some (.slice A2 l2.length c2):=(zbf hX 2).trans rfl;have HI:=zA0 hI;have HB:=zA0 hB;clear hI hB hX
    go_wp2_with fail
    refine (zb5.calls k g l0 [] l2 [] [] [] 0 (mostOf l0) 0 A2 c2 l2 r1 r2 r3 r4 w wr HI.out HB.out (Kd.C_foot_came kS_heap HR2.out HB.out hgw) hc2 HS.out).mono ?_;rintro e w7 ⟨rfl,hI7,hB7,hk7⟩;have HI7:=zA0 hI7;have HB7:=zA0 hB7;clear hI7 hB7 hk7 y0 y1 y2
    go_wp2_with fail
    go_ret2
    exact ⟨g,rfl,HI7.out,HB7.out⟩
def zdd.f (k : Nat) (l0 : List S50) (l1 : List S87) (l2 : List S114) : Option (Int × Int) :=
 (zcm.f k l0 l1 l2).bind fun t => (if t.1 = 0 then (some (t.2.2.1,0)) else (some (0,t.1)))
def zcx.f (k : Nat) (l0 : List S50) (l1 : List S87) (l2 : List S114) : Option Int :=
 (zcm.f k l0 l1 l2).bind fun t => (some t.1)
theorem zdd.mono : ∀ a0 a1 a2 k,LeO (zdd.f k a0 a1 a2) (zdd.f (k + 1) a0 a1 a2):=by
 intro a0 a1 a2 k;unfold zdd.f;exact LeO.bind (zcm.mono a0 a1 a2 k) (fun _ => LeO.refl _)
theorem zcx.mono : ∀ a0 a1 a2 k,LeO (zcx.f k a0 a1 a2) (zcx.f (k + 1) a0 a1 a2):=by
 intro a0 a1 a2 k;unfold zcx.f;exact LeO.bind (zcm.mono a0 a1 a2 k) (fun _ => LeO.refl _)
set_option maxHeartbeats 4000000 in
set_option maxRecDepth 100000 in
theorem zdd.calls (k : Nat) (A0 : Option Addr) (c0 : Nat) (l0 : List S50) (A1 : Option Addr) (c1 : Nat) (l1 : List S87) (A2 : Option Addr) (c2 : Nat) (l2 : List S114) (r1 r2 : Int) (w : World) (hr0 : Kd.C k50 w A0 l0.length l0) (hc0 : l0.length≤c0) (hr1 : Kd.C k87 w A1 l1.length l1) (hc1 : l1.length≤c1) (hr2 : Kd.C k114 w A2 l2.length l2) (hc2 : l2.length≤c2) (h : zdd.f k l0 l1 l2 = some (r1,r2)) :
  Calls Tryz.prog 29 #[.agg #[.slice A0 l0.length c0,.slice A1 l1.length c1,.slice A2 l2.length c2]] w fun e w' => e = .returned (.tuple #[.int .i64 r1,.int .i64 r2])∧Below w.heap.size w w':=by
 unfold zdd.f at h;obtain ⟨⟨t1,t2,t3,t4⟩,ht,h⟩:=Option.bind_eq_some_iff.1 h;replace h : (if t1 = 0 then (some (t3,0)) else (some (0,t1))) = some (r1,r2):=h;go_enter Tryz.func29,Tryz.ntmps29
 go_upto_region 1 with (first | ((with_reducible refine zbm (N:=1) rfl ?_);(try (refine zcy (by rfl) ?_;dsimp only));refine zbk ?hg (N:=1) ?hd (cs:=#[.slice A0 l0.length c0,.slice A1 l1.length c1,.slice A2 l2.length c2]) (t:=33) ?hr ?_;(case hd => rfl);(case hg => rfl);(case hr => first | (go_simp;done) | (go_simp;rfl));intro gb hgb w1 hbx hbb;clear hgb))
 have y0 : w1.cell? ⟨gb,0,none⟩ = some (.slice A0 l0.length c0):=(zbf hbx 0).trans rfl;have y1 : w1.cell? ⟨gb,1,none⟩ = some (.slice A1 l1.length c1):=(zbf hbx 1).trans rfl;have y2 : w1.cell? ⟨gb,2,none⟩ = some (.slice A2 l2.length c2):=(zbf hbx 2).trans rfl;have HT:=zA0 ht;have HB1:=zA0 hbb;have HR0:=zA0 hr0;have HR1:=zA0 hr1;have HR2:=zA0 hr2;clear ht hbb hbx hr0 hr1 hr2
 go_wp2_with fail
 refine (zcm.calls k A0 c0 l0 A1 c1 l1 A2 c2 l2 t1 t2 t3 t4 w1 (Kd.C_below HR0.out HB1.out) hc0 (Kd.C_below HR1.out HB1.out) hc1 (Kd.C_below HR2.out HB1.out) hc2 HT.out).mono ?_;rintro e w2 ⟨g,rfl,hI,hB⟩;have HB2:=zA0 (zaj HB1.out hB)
 by_cases c : t1 = 0
 ·subst c
  rw [if_pos rfl] at h;obtain ⟨rfl,rfl⟩:=Prod.mk.inj (Option.some.inj h);obtain ⟨B0,d0,B1,d1,B2,d2,B3,d3,B4,d4,B5,d5,HG,hgg,_,_,_,_,_,_⟩:=hI;have z7:=cellS107_7 HG;clear HG hB y0 y1 y2
  go_wp2_with fail
  go_ret2
  exact ⟨rfl,HB2.out⟩
 ·rw [if_neg c] at h
  obtain ⟨rfl,rfl⟩:=Prod.mk.inj (Option.some.inj h);have c1 : (t1 == 0) = false:=beq_eq_false_iff_ne.mpr c;have c2 : (t1 != 0) = true:=bne_iff_ne.mpr c;clear hI hB y0 y1 y2
  go_wp2_with fail
  go_ret2
  exact ⟨rfl,HB2.out⟩
set_option maxHeartbeats 4000000 in
set_option maxRecDepth 100000 in
theorem zcx.calls (k : Nat) (A0 : Option Addr) (c0 : Nat) (l0 : List S50) (A1 : Option Addr) (c1 : Nat) (l1 : List S87) (A2 : Option Addr) (c2 : Nat) (l2 : List S114) (r : Int) (w : World) (hr0 : Kd.C k50 w A0 l0.length l0) (hc0 : l0.length≤c0) (hr1 : Kd.C k87 w A1 l1.length l1) (hc1 : l1.length≤c1) (hr2 : Kd.C k114 w A2 l2.length l2) (hc2 : l2.length≤c2) (h : zcx.f k l0 l1 l2 = some r) :
  Calls Tryz.prog 49 #[.agg #[.slice A0 l0.length c0,.slice A1 l1.length c1,.slice A2 l2.length c2]] w fun e w' => e = .returned (.int .i64 r)∧Below w.heap.size w w':=by
 unfold zcx.f at h;obtain ⟨⟨t1,t2,t3,t4⟩,ht,h⟩:=Option.bind_eq_some_iff.1 h;obtain rfl:=Option.some.inj h;go_enter Tryz.func49,Tryz.ntmps49
 go_upto_region 1 with (first | ((with_reducible refine zbm (N:=1) rfl ?_);(try (refine zcy (by rfl) ?_;dsimp only));refine zbk ?hg (N:=1) ?hd (cs:=#[.slice A0 l0.length c0,.slice A1 l1.length c1,.slice A2 l2.length c2]) (t:=33) ?hr ?_;(case hd => rfl);(case hg => rfl);(case hr => first | (go_simp;done) | (go_simp;rfl));intro gb hgb w1 hbx hbb;clear hgb))
 have y0 : w1.cell? ⟨gb,0,none⟩ = some (.slice A0 l0.length c0):=(zbf hbx 0).trans rfl;have y1 : w1.cell? ⟨gb,1,none⟩ = some (.slice A1 l1.length c1):=(zbf hbx 1).trans rfl;have y2 : w1.cell? ⟨gb,2,none⟩ = some (.slice A2 l2.length c2):=(zbf hbx 2).trans rfl;have HT:=zA0 ht;have HB1:=zA0 hbb;have HR0:=zA0 hr0;have HR1:=zA0 hr1;have HR2:=zA0 hr2;clear ht hbb hbx hr0 hr1 hr2
 go_wp2_with fail
 refine (zcm.calls k A0 c0 l0 A1 c1 l1 A2 c2 l2 t1 t2 t3 t4 w1 (Kd.C_below HR0.out HB1.out) hc0 (Kd.C_below HR1.out HB1.out) hc1 (Kd.C_below HR2.out HB1.out) hc2 HT.out).mono ?_;rintro e w2 ⟨g,rfl,hI,hB⟩;have HB2:=zA0 (zaj HB1.out hB);clear hI hB y0 y1 y2
 go_wp2_with fail
 go_ret;exact ⟨rfl,HB2.out⟩
end Go.Proofs.YtkgdhdjkpnalmaaGreatDoor.P
end
section
namespace Go.Proofs.YtkgdhdjkpnalmaaGreatDoor.P
open Go.RowKit Go.Proofs.YtkgdhdjkpnalmaaGreatDoorW.PrintWords Go.Proofs.YtkgdhdjkpnalmaaGreatDoorW.PrintLast Go.Proofs.YtkgdhdjkpnalmaaGreatDoorW.PrintMore
structure Fy (g : Nat) (w0 W : World) (A : Option Addr) (a : Nat) (B : Option Addr) (b : Nat) (ns : List ByteArray) (vs : List Int) (u v : Value) (ts : List Int) : Prop where
 hg : W.heap[g]? = some (.cells #[.slice A ns.length a,.slice B vs.length b,.slice none 0 0,.slice none 0 0,u] 82 (0,0))
 gb : w0.heap.size≤g
 r1 : Kd.R Kd.string 9 W w0.heap.size (fun _ => True) (.slice A ns.length a) ns
 r2 : Kd.R (Kd.int .u64) 37 W w0.heap.size (fun _ => True) (.slice B vs.length b) vs
 r3 : Kd.R (Kd.int .u64) 37 W w0.heap.size (fun _ => True) v ts
 ne : ∀ k,v.ownBlock = some k→some k≠(Value.slice B vs.length b).ownBlock
 hb : Below w0.heap.size w0 W
section
variable {g : Nat} {w0 W W' : World} {A B : Option Addr} {a b : Nat} {ns : List ByteArray} {vs ts ts' : List Int} {u v v' : Value}
theorem Fy.below (h : Fy g w0 W A a B b ns vs u v ts) (hb : Below W.heap.size W W') : Fy g w0 W' A a B b ns vs u v ts :=
 ⟨(hb.block g (zcs h.hg)).trans h.hg,h.gb,Kd.R_below h.r1 hb,Kd.R_below h.r2 hb,Kd.R_below h.r3 hb,h.ne,zaj h.hb hb⟩
theorem Fy.st (h : Fy g w0 W A a B b ns vs u v ts) : St30 W g ns vs u :=
 ⟨A,a,B,b,h.hg,(Kd.R_reads' h.r1).2.1,(Kd.R_reads' h.r2).2.1,(Kd.R_reads' h.r1).2.2,(Kd.R_reads' h.r2).2.2⟩
theorem Fy.set {q t : Nat} {cs : Array Value} (h : Fy g w0 W A a B b ns vs u v ts) (hq : W.heap[q]? = some (.cells cs t (0,0))) (hn : t≠82∧t≠9∧t≠37) (hqb : w0.heap.size≤q) (j : Nat) (x : Value) : Fy g w0 (W.setCell ⟨q,j,none⟩ x) A a B b ns vs u v ts:=by
 have n1 : ∀ p,p ∈ 9 :: Kd.string.E→p≠t:=by intro p hp;simp [Kd.string,Kd.scalar] at hp;subst hp;exact fun e => hn.2.1 e.symm
 have n2 : ∀ p,p ∈ 37 :: (Kd.int .u64).E→p≠t:=by intro p hp;simp [Kd.int,Kd.scalar] at hp;subst hp;exact fun e => hn.2.2 e.symm
 refine ⟨zbv h.hg (p:=⟨q,j,none⟩) (fun e => ?_) x,h.gb,Kd.R_set h.r1 hq n1 _ _,Kd.R_set h.r2 hq n2 _ _,Kd.R_set h.r3 hq n2 _ _,h.ne,zba h.hb hqb⟩;have e' : g = q:=e;subst e';rw [h.hg] at hq
 injection hq with hq
 injection hq with _ e2
 exact hn.1 e2.symm
theorem Fy.app (h : Fy g w0 W A a B b ns vs u v ts) (hr : Kd.R (Kd.int .u64) 37 W' w0.heap.size (fun _ => True) v' ts') (hb : Below w0.heap.size w0 W') (hg : W.grownBy W' v.ownBlock) (hat : v'.ownBlock = v.ownBlock ∨ ∃ k,v'.ownBlock = some k∧W.heap.size≤k) : Fy g w0 W' A a B b ns vs u v' ts':=by
 refine ⟨zdf h.hg hg (Kd.R_ne h.r3 h.hg (by decide)),h.gb,Kd.R_over' h.r1 (fun k hk => (by obtain ⟨inner,ho⟩:=Kd.R_own h.r3;exact own_typed ho k hk)) (by intro q hq;simp [Kd.string,Kd.scalar] at hq;subst hq;decide) hg,Kd.R_grown2 h.r2 rfl hg h.ne,hr,?_,hb⟩;intro k hk
 rcases hat with hat | ⟨m,hm,hlt⟩
 ·exact h.ne k (hat.symm.trans hk)
 ·intro e
  rw [hm] at hk;cases hk;have:=Kd.R_lt h.r2 k e.symm
  omega
theorem Fy.store (h : Fy g w0 W A a B b ns vs u v ts) : Fy g w0 (W.setCell ⟨g,4,none⟩ v) A a B b ns vs v v ts:=by
 have n1 : ∀ q,q ∈ 9 :: Kd.string.E→q≠82:=by intro q hq;simp [Kd.string,Kd.scalar] at hq;subst hq;decide
 have n2 : ∀ q,q ∈ 37 :: (Kd.int .u64).E→q≠82:=by intro q hq;simp [Kd.int,Kd.scalar] at hq;subst hq;decide
 exact ⟨by simpa using zds h.hg 4 v,h.gb,Kd.R_set h.r1 h.hg n1 _ _,Kd.R_set h.r2 h.hg n2 _ _,Kd.R_set h.r3 h.hg n2 _ _,h.ne,zba h.hb h.gb⟩
theorem blk5 {q t : Nat} {x0 x1 x2 x3 x4 y0 y1 y2 y3 y4 : Value} (h : W.heap[q]? = some (.cells #[x0,x1,x2,x3,x4] t (0,0))) : (((((W.setCell ⟨q,0,none⟩ y0).setCell ⟨q,1,none⟩ y1).setCell ⟨q,2,none⟩ y2).setCell ⟨q,3,none⟩ y3).setCell ⟨q,4,none⟩ y4).heap[q]? = some (.cells #[y0,y1,y2,y3,y4] t (0,0)):=by
 simpa using zds (zds (zds (zds (zds h 0 y0) 1 y1) 2 y2) 3 y3) 4 y4
theorem Fy.set5 {q t : Nat} {x0 x1 x2 x3 x4 y0 y1 y2 y3 y4 : Value} (h : Fy g w0 W A a B b ns vs u v ts) (hq : W.heap[q]? = some (.cells #[x0,x1,x2,x3,x4] t (0,0))) (hn : t≠82∧t≠9∧t≠37) (hqb : w0.heap.size≤q) :
  Fy g w0 (((((W.setCell ⟨q,0,none⟩ y0).setCell ⟨q,1,none⟩ y1).setCell ⟨q,2,none⟩ y2).setCell ⟨q,3,none⟩ y3).setCell ⟨q,4,none⟩ y4) A a B b ns vs u v ts:=by
 have q0:=zds hq 0 y0;have q1:=zds q0 1 y1;have q2:=zds q1 2 y2;have q3:=zds q2 3 y3;exact ((((h.set hq hn hqb 0 y0).set q0 hn hqb 1 y1).set q1 hn hqb 2 y2).set q2 hn hqb 3 y3).set q3 hn hqb 4 y4
end
def outs (k : Nat) (ns : List ByteArray) (vs : List Int) : List S114→Option (List Int)
 | [] => some []
 | s :: l => if s.f0 = 5 then (if s.f2.length = 1 then ((ev k ns vs (zad s.f2 0).f0 (zad s.f2 0).f1 (zad s.f2 0).f2 (zad s.f2 0).f3 (zad s.f2 0).f4).bind fun x => (outs k ns vs l).bind fun r => some (x :: r)) else none) else none
theorem outs_at (k : Nat) (ns : List ByteArray) (vs : List Int) : ∀ (l : List S114) (r : List Int),outs k ns vs l = some r→r.length = l.length∧∀ i : Nat,i < l.length→(zbe l i).f0 = 5∧(zbe l i).f2.length = 1∧∃ x,r.take (i + 1) = r.take i ++ [x]∧ev k ns vs (zad (zbe l i).f2 0).f0 (zad (zbe l i).f2 0).f1 (zad (zbe l i).f2 0).f2 (zad (zbe l i).f2 0).f3 (zad (zbe l i).f2 0).f4 = some x
 | [],r,h => by
  obtain rfl:=Option.some.inj h;exact ⟨rfl,fun i hi => absurd hi (Nat.not_lt_zero _)⟩
 | s :: l,r,h => by
  unfold outs at h
  by_cases h5 : s.f0 = 5
  ·rw [if_pos h5] at h
   by_cases hl : s.f2.length = 1
   ·rw [if_pos hl] at h
    obtain ⟨x,hx,h⟩:=Option.bind_eq_some_iff.1 h;obtain ⟨r',hr,h⟩:=Option.bind_eq_some_iff.1 h;obtain rfl:=Option.some.inj h;obtain ⟨h1,h2⟩:=outs_at k ns vs l r' hr;refine ⟨by simp [h1],fun i hi => ?_⟩
    rcases i with _ | i
    ·exact ⟨h5,hl,x,by simp,hx⟩
    ·have q : zbe (s :: l) ((i + 1 : Nat) : Int) = zbe l (i : Int):=by simp [zbe]
     rw [q];obtain ⟨p1,p2,y,p3,p4⟩:=h2 i (by simpa using hi);exact ⟨p1,p2,y,by simp [p3],p4⟩
   ·rw [if_neg hl] at h;cases h
  ·rw [if_neg h5] at h;cases h
set_option maxHeartbeats 4000000 in
set_option maxRecDepth 100000 in
theorem stmts_calls (g k : Nat) (A : Option Addr) (a : Nat) (B : Option Addr) (b : Nat) (ns : List ByteArray) (vs : List Int) (L : Option Addr) (c : Nat) (l : List S114) (r : List Int) (w0 w : World) (hF : Fy g w0 w A a B b ns vs (.slice none 0 0) (.slice none 0 0) []) (hr : Kd.C k114 w0 L l.length l) (hl : l.length≤1000) (h : outs k ns vs l = some r) :
  Calls Tryz.prog 34 #[.pointer (some ⟨g,0,none⟩),.slice L l.length c] w fun e w' => e = .returned (.tuple #[])∧∃ v,Fy g w0 w' A a B b ns vs v v r:=by
 obtain ⟨hlen,hat⟩:=outs_at k ns vs l r h;have HAT:=zA0 hat;have HLEN:=zA0 hlen;have HR:=zA0 hr;have HF:=zA0 hF
 have mixed : Tryz.prog.follows .mixedOrders = true:=by kernel_rfl
 have hue:=Tryz.underlying117;have hus:=Tryz.underlying114;clear hat hr hF h hlen;go_enter Tryz.func34,Tryz.ntmps34
 go_wp2_with fail
 go_loopw [4] (fun v4 wr => ∃ i : Nat,v4 = .int .i64 (i : Int)∧i≤l.length∧∃ v,Fy g w0 wr A a B b ns vs v v (r.take i)) (fun v4 _ => ((l.length : Int) - intOf v4).toNat)
 case atStart => exact ⟨0,rfl,Nat.zero_le _,_,HF.out⟩
 case round =>
  clear HF;obtain ⟨i,rfl,hi,v,hF⟩:=hrel
  by_cases hlt : i < l.length
  ·obtain ⟨p5,p1,x,px,pe⟩:=HAT.out i hlt
   obtain ⟨ad,K2,c2,K3,c3,K4,c4,eA,x0,x1,x2,x3,x4,m2,n2,m3,n3,m4,n4⟩:=at_T114 (Kd.C_below HR.out hF.hb) (i : Int) (by omega) (by omega);obtain ⟨ad',K2',c2',K3',c3',K4',c4',eA',x0',x1',x2',x3',x4',m2',n2',m3',n3',m4',n4'⟩:=at_T114 HR.out (i : Int) (by omega) (by omega);cases eA;cases eA'
   have same : K2' = K2∧c2' = c2:=by
    have q:=(hF.hb.cell (World.block_lt_of_cell? _ _ x2')).trans x2';rw [x2] at q
    injection q with q
    injection q with q1 q2 q3
    exact ⟨q1.symm,q3.symm⟩
   obtain ⟨rfl,rfl⟩:=same;obtain ⟨ae,J,cJ,rfl,⟨u0,u1,u2,u3,u4⟩,mJ,nJ⟩:=kid0 n2' (by omega);rw [Int.toNat_natCast] at x0 x1 x2 x3 x4;rw [p5] at x0;rw [p1] at x2;have q0 : (0≤(i : Int)) = True:=eq_true (by omega);have q1 : ((i : Int) < (l.length : Int)) = True:=eq_true (by omega);clear x0' x1' x2' x3' x4' m2' n2' m3' n3' m4' n4' m2 n2 m3 n3 m4 n4 p5 p1;have HF:=zA0 hF;have PX:=zA0 px;have PE:=zA0 pe;have NJ:=zA0 nJ;have MJ:=zA0 mJ;have LE:=zA0 (show (r.take i).length + 1≤1001 by have:=HLEN.out;simp;omega);clear hF px pe nJ mJ
   go_upto_region 4 with (first | ((with_reducible refine zbm (N:=5) rfl ?_);refine zbk ?hg (N:=5) ?hd (cs:=#[.int .i64 0,.string (⟨#[]⟩ : ByteArray),.slice none 0 0,.slice none 0 0,.slice none 0 0]) (t:=114) ?hr ?_;(case hd => rfl);(case hg => rfl);(case hr => first | (go_simp;done) | (go_simp;rfl));intro gb hgb w2 hbx hbb;have s0 : w2.cell? ⟨gb,0,none⟩ = some (.int .i64 0):=(zbf hbx 0).trans rfl;have s1 : w2.cell? ⟨gb,1,none⟩ = some (.string (⟨#[]⟩ : ByteArray)):=(zbf hbx 1).trans rfl;have s2 : w2.cell? ⟨gb,2,none⟩ = some (.slice none 0 0):=(zbf hbx 2).trans rfl;have s3 : w2.cell? ⟨gb,3,none⟩ = some (.slice none 0 0):=(zbf hbx 3).trans rfl;have s4 : w2.cell? ⟨gb,4,none⟩ = some (.slice none 0 0):=(zbf hbx 4).trans rfl;have t0:=zap hbx 0;have t1:=zap hbx 1;have t2:=zap hbx 2;have t3:=zap hbx 3;have t4:=zap hbx 4;have GB:=zA0 (show w0.heap.size≤gb by rw [hgb];exact HF.out.hb.size);clear hgb;have BX:=zA0 hbx;have BB:=zA0 hbb;clear hbx hbb))
   have BX5:=blk5 (y0:=.int .i64 5) (y1:=.string (zbe l ↑i).f1) (y2:=.slice (some ae) 1 c2') (y3:=.slice K3 (zbe l ↑i).f3.length c3) (y4:=.slice K4 (zbe l ↑i).f4.length c4) BX.out;have HF5:=(HF.out.below BB.out).set5 (y0:=.int .i64 5) (y1:=.string (zbe l ↑i).f1) (y2:=.slice (some ae) 1 c2') (y3:=.slice K3 (zbe l ↑i).f3.length c3) (y4:=.slice K4 (zbe l ↑i).f4.length c4) BX.out (by decide) GB.out;clear s0 s1 s2 s3 s4 t0 t1 t2 t3 t4 BX BB HF x0 x1 x2 x3 x4;generalize ((((w2.setCell ⟨gb,0,none⟩ (.int .i64 5)).setCell ⟨gb,1,none⟩ (.string (zbe l ↑i).f1)).setCell ⟨gb,2,none⟩ (.slice (some ae) 1 c2')).setCell ⟨gb,3,none⟩ (.slice K3 (zbe l ↑i).f3.length c3)).setCell ⟨gb,4,none⟩ (.slice K4 (zbe l ↑i).f4.length c4) = w3 at *;clear w2;have s0 : w3.cell? ⟨gb,0,none⟩ = some (.int .i64 5):=(zbf BX5 0).trans rfl;have BX6 : Aside0 (w3.drew.heap[gb]? = _):=zA0 BX5;have HF6:=zA0 (HF5.below ((Below.refl _ w3).drew));clear BX5 HF5
   go_upto_region 5 with (fail)
   clear s0;refine zd9 (fun w' => w'.heap[g]? = some (.cells #[.slice A ns.length a,.slice B vs.length b,.slice none 0 0,.slice none 0 0,v] 82 (0,0))∧w'.heap[gb]? = some (.cells #[.int .i64 5,.string (zbe l ↑i).f1,.slice (some ae) 1 c2',.slice K3 (zbe l ↑i).f3.length c3,.slice K4 (zbe l ↑i).f4.length c4] 114 (0,0))∧Below w0.heap.size w0 w') (fun j => decide (15≤j)) 16 rfl mixed ?_;generalize w3.drew = W at *;clear w3 mixed;have hS:=And.intro HF6.out.hg (And.intro BX6.out HF6.out.hb);refine zbz (i:=0) (v:=?v1) rfl (by kernel_rfl) (by kernel_rfl) (by kernel_rfl) (fun _ _ _ h => h) (Or.inl ⟨by rfl,?hy1⟩) ?hr1
   case hy1 => (intro w' _;(try go_simp);(try (with_reducible rfl)))
   (try simp only [Act.put,za1,za2,za3]);refine zbz (i:=1) (v:=?v2) rfl (by kernel_rfl) (by kernel_rfl) (by kernel_rfl) (fun _ _ _ h => h) (Or.inl ⟨by rfl,?hy2⟩) ?hr2
   case hy2 => (intro w' _;(try go_simp);(try (with_reducible rfl)))
   (try simp only [Act.put,za1,za2,za3]);refine zbz (i:=2) (v:=?v3) rfl (by kernel_rfl) (by kernel_rfl) (by kernel_rfl) (fun _ _ _ h => h) (Or.inl ⟨by rfl,?hy3⟩) ?hr3
   case hy3 => (intro w' _;(try go_simp);(try (with_reducible rfl)))
   (try simp only [Act.put,za1,za2,za3]);refine zbz (i:=3) (v:=?v4) rfl (by kernel_rfl) (by kernel_rfl) (by kernel_rfl) (fun _ _ _ h => h) (Or.inl ⟨by rfl,?hy4⟩) ?hr4
   case hy4 => (intro w' _;(try go_simp);(try (with_reducible rfl)))
   (try simp only [Act.put,za1,za2,za3]);refine zdt (i:=4) (v:=?v5) rfl (by kernel_rfl) (by kernel_rfl) (by kernel_rfl) (by kernel_rfl) (fun _ _ _ h => h) (Or.inl ⟨by rfl,?hy5⟩) hS ?hr5
   case hy5 =>
    intro w' hw';obtain ⟨hw1,hw2,hw3⟩:=hw';have y4:=(zbf hw1 4).trans rfl;have y2:=(zbf hw2 2).trans rfl;have u0':=(hw3.cell (World.block_lt_of_cell? _ _ u0)).trans u0;have u1':=(hw3.cell (World.block_lt_of_cell? _ _ u1)).trans u1;have u2':=(hw3.cell (World.block_lt_of_cell? _ _ u2)).trans u2;have u3':=(hw3.cell (World.block_lt_of_cell? _ _ u3)).trans u3;have u4':=(hw3.cell (World.block_lt_of_cell? _ _ u4)).trans u4;(try go_simp);(try (with_reducible rfl))
   (try simp only [Act.put,za1,za2,za3]);refine zbz (i:=5) (v:=?v6) rfl (by kernel_rfl) (by kernel_rfl) (by kernel_rfl) (fun _ _ _ h => h) (Or.inl ⟨by rfl,?hy6⟩) ?hr6
   case hy6 => (intro w' _;(try go_simp);(try (with_reducible rfl)))
   (try simp only [Act.put,za1,za2,za3]);refine zbz (i:=6) (v:=?v7) rfl (by kernel_rfl) (by kernel_rfl) (by kernel_rfl) (fun _ _ _ h => h) (Or.inl ⟨by rfl,?hy7⟩) ?hr7
   case hy7 => (intro w' _;(try go_simp);(try (with_reducible rfl)))
   (try simp only [Act.put,za1,za2,za3]);refine zdt (i:=7) (v:=?v8) rfl (by kernel_rfl) (by kernel_rfl) (by kernel_rfl) (by kernel_rfl) (fun _ _ _ h => h) (Or.inl ⟨by rfl,?hy8⟩) hS ?hr8
   case hy8 =>
    intro w' hw';obtain ⟨hw1,hw2,hw3⟩:=hw';have y4:=(zbf hw1 4).trans rfl;have y2:=(zbf hw2 2).trans rfl;have u0':=(hw3.cell (World.block_lt_of_cell? _ _ u0)).trans u0;have u1':=(hw3.cell (World.block_lt_of_cell? _ _ u1)).trans u1;have u2':=(hw3.cell (World.block_lt_of_cell? _ _ u2)).trans u2;have u3':=(hw3.cell (World.block_lt_of_cell? _ _ u3)).trans u3;have u4':=(hw3.cell (World.block_lt_of_cell? _ _ u4)).trans u4;(try go_simp);(try (with_reducible rfl))
   (try simp only [Act.put,za1,za2,za3]);refine zbz (i:=8) (v:=?v9) rfl (by kernel_rfl) (by kernel_rfl) (by kernel_rfl) (fun _ _ _ h => h) (Or.inl ⟨by rfl,?hy9⟩) ?hr9
   case hy9 => (intro w' _;(try go_simp);(try (with_reducible rfl)))
   (try simp only [Act.put,za1,za2,za3]);refine zdt (i:=9) (v:=?v10) rfl (by kernel_rfl) (by kernel_rfl) (by kernel_rfl) (by kernel_rfl) (fun _ _ _ h => h) (Or.inl ⟨by rfl,?hy10⟩) hS ?hr10
   case hy10 =>
    intro w' hw';obtain ⟨hw1,hw2,hw3⟩:=hw';have y4:=(zbf hw1 4).trans rfl;have y2:=(zbf hw2 2).trans rfl;have u0':=(hw3.cell (World.block_lt_of_cell? _ _ u0)).trans u0;have u1':=(hw3.cell (World.block_lt_of_cell? _ _ u1)).trans u1;have u2':=(hw3.cell (World.block_lt_of_cell? _ _ u2)).trans u2;have u3':=(hw3.cell (World.block_lt_of_cell? _ _ u3)).trans u3;have u4':=(hw3.cell (World.block_lt_of_cell? _ _ u4)).trans u4;(try go_simp);(try (with_reducible rfl))
   (try simp only [Act.put,za1,za2,za3]);refine zdb (i:=10) (by kernel_rfl) rfl (fun K hK => ?_);go_simp;refine (expr_all g k ns vs v (zad (zbe l ↑i).f2 0).f0 (zad (zbe l ↑i).f2 0).f1 (zad (zbe l ↑i).f2 0).f2 (zad (zbe l ↑i).f2 0).f3 J cJ (zad (zbe l ↑i).f2 0).f4 x W HF6.out.st (Kd.C_below NJ.out HF6.out.hb) MJ.out PE.out).mono ?_;rintro e W2 ⟨rfl,hb2⟩;(try simp only []);refine hK.out _ _ (fun _ hq => ⟨(hb2.block g (zcs hq.1)).trans hq.1,(hb2.block gb (zcs hq.2.1)).trans hq.2.1,zaj hq.2.2 hb2⟩) ?_;clear hK K;have HF7:=zA0 (HF6.out.below hb2);have BX7 : Aside0 (W2.heap[gb]? = _):=zA0 ((hb2.block gb (zcs BX6.out)).trans BX6.out);clear hb2 hS HF6 BX6;refine zdb (i:=11) (by kernel_rfl) rfl (fun K hK => ?_);go_simp;refine hK.out _ _ (fun _ hq => ⟨zdh hq.1 _,zdh hq.2.1 _,zbp hq.2.2 _⟩) ?_;clear hK K;have HF8:=HF7.out.below (zbp (Below.refl _ W2) (Obj.cells #[.int .u64 x] 37));have BX8:=zdh BX7.out (Obj.cells #[.int .u64 x] 37);have hb1:=blk_new W2 (Obj.cells #[.int .u64 x] 37)
   revert HF8 BX8 hb1
   generalize W2.alloc (Obj.cells #[.int .u64 x] 37) = W3,W2.heap.size = b1;intro HF8 BX8 hb1;clear HF7 BX7;refine zdb (i:=12) (by kernel_rfl) rfl (fun K hK => ?_);have hle:=LE.out;refine Kd.R_append_rows_step (Kd.int .u64) (Rr:=fun p cs => cs = [.int .u64 p]) (w0:=w0) w0.heap.size (by rfl) (.tmp 26) (.tmp 33) 23 37 (.int .u64 0) 8 rfl Tryz.underlying23 info37 rfl (by decide) (by omega) _ (r.take i) [x] (some ⟨b1,0,none⟩) 1 1 (fun _ => True) (fun _ => False) rfl rfl HF8.r3 (box_reads hb1 rfl) (fun _ _ h => h) (fun _ h => h.elim) (fun _ _ => trivial) HF8.hb HF8.hb.size (by omega) ?_;intro v1 W4 hR hB hG hA;(try simp only [Act.put,za1,za2,za3]);have BX9:=zdf BX8 hG (Kd.R_ne HF8.r3 BX8 (by decide));have HF9:=HF8.app hR hB hG hA;refine hK.out _ _ (fun _ hq => ⟨HF9.hg,BX9,HF9.hb⟩) ?_;clear hK K hR hB hG hA HF8 BX8 hb1;obtain ⟨D,d,hv1⟩:=Kd.R_slice HF9.r3;generalize (r.take i ++ [x]).length = m at hv1;subst hv1;refine zbz (i:=13) (v:=?v11) rfl (by kernel_rfl) (by kernel_rfl) (by kernel_rfl) (fun _ _ _ h => h) (Or.inl ⟨by rfl,?hy11⟩) ?hr11
   case hy11 => (intro w' _;(try go_simp);(try (with_reducible rfl)))
   (try simp only [Act.put,za1,za2,za3]);refine zbz (i:=14) (v:=?v12) rfl (by kernel_rfl) (by kernel_rfl) (by kernel_rfl) (fun _ _ _ h => h) (Or.inl ⟨by rfl,?hy12⟩) ?hr12
   case hy12 => (intro w' _;(try go_simp);(try (with_reducible rfl)))
   (try simp only [Act.put,za1,za2,za3]);have z4 : W4.cell? ⟨g,4,none⟩ = some v:=(zbf HF9.hg 4).trans rfl;have f4:=zap HF9.hg 4;refine zdb (i:=15) (by kernel_rfl) rfl (fun K hK => ?_);go_simp;refine hK.out _ _ (fun h => absurd h (by decide)) ?_;clear hK K z4 f4;refine zeb (by kernel_rfl) ?_ _;have HFA:=HF9.store;rw [← PX.out] at HFA;have HFB:=zA0 HFA;have hwi:=wrap_succ hlt hl;clear HFA HF9;go_wp2
   go_roundw
   case rel => exact ⟨i + 1,by first | rfl | rw [hwi],Nat.succ_le_of_lt hlt,_,HFB.out⟩
   case measure => first | (simp [intOf];omega) | (simp only [hwi,intOf];simp;omega)
  ·obtain rfl : i = l.length:=by omega
   rw [List.take_of_length_le (by rw [HLEN.out];exact Nat.le_refl _)] at hF;have HF:=zA0 hF;clear hF
   go_wp2_with fail
   go_end0
   exact ⟨rfl,_,HF.out⟩
end Go.Proofs.YtkgdhdjkpnalmaaGreatDoor.P
end
section
namespace Go.Proofs.YtkgdhdjkpnalmaaGreatDoor.P
open Go.RowKit Go.Proofs.YtkgdhdjkpnalmaaGreatDoorW.PrintWords Go.Proofs.YtkgdhdjkpnalmaaGreatDoorW.PrintLast Go.Proofs.YtkgdhdjkpnalmaaGreatDoorW.PrintMore
attribute [local go_sem] zcd zca zci zcj zb1 zb2 zcc zcb
def zc0.f (a0_0 : ByteArray) (a0_1 : Int) (a0_2 : Int) (a0_3 : Int) : Option (Int):=if a0_3 > 0 then (none) else (some 1)
set_option maxHeartbeats 8000000 in
set_option maxRecDepth 100000 in
theorem zc0.calls (a0_0 : ByteArray) (a0_1 : Int) (a0_2 : Int) (a0_3 : Int) (r : Int) (w : World) (h : zc0.f a0_0 a0_1 a0_2 a0_3 = some r) :
  Calls Tryz.prog 32 #[.agg #[.string a0_0,.int .i64 a0_1,.int .i64 a0_2,.int .i64 a0_3]] w fun e w' => e = .returned (.int .i64 r)∧Below w.heap.size w w':=by
 have hu50:=Tryz.underlying50;have HB:=zA0 (Below.refl w.heap.size w);have H : (if a0_3 > 0 then (none) else (some 1)) = some r:=h;clear h
 by_cases c2 : a0_3 > 0
 ·rw [if_pos c2] at H
  exact absurd H (by simp)
 ·rw [if_neg c2] at H
  have c2b0 : decide (0 < a0_3) = false:=decide_eq_false c2;clear c2;obtain rfl:=Option.some.inj H;go_enter Tryz.func32,Tryz.ntmps32
  go_wp2_with (first | ((with_reducible refine zbm (N:=1) rfl ?_);refine zbk ?hg (N:=1) ?hd (cs:=#[.string a0_0,.int .i64 a0_1,.int .i64 a0_2,.int .i64 a0_3]) (t:=50) ?hr ?_;(case hd => rfl);(case hg => rfl);(case hr => first | (go_simp;done) | (go_simp;rfl));intro gb593 hg w3 hbox hb;have n0_:=zA0 (zaj (zs0 HB) hb);have n1_:=zA0 (hbox);have n2_:=zA0 ((yq30 : w.heap.size≤gb593));have n3_:=zA0 ((yq30 : w.heap.size≤gb593));clear HB;revert n0_ n1_ n2_ n3_;intro HB BK593 GW593 GE593;clear hb hbox hg;obtain ⟨_,_,_,_⟩:=zc4 BK593.out;obtain ⟨_,_,_,_⟩:=zf4 BK593.out))
  go_ret;exact ⟨yq7,by first | exact zs1 HB GE593 | exact zs0 HB⟩
end Go.Proofs.YtkgdhdjkpnalmaaGreatDoor.P
end
