/- What is proved here: a part of the proof of ElectionChangedVote: Px29. No conditions beside those that each theorem states. -/
import Derived.Test.YtkgdhdjkpnalmaaGreatDoorKECVte4
import Derived.Test.YtkgdhdjkpnalmaaGreatDoorKECVte19
import Derived.Test.YtkgdhdjkpnalmaaGreatDoorKECVte20
set_option linter.unusedVariables false
set_option linter.unusedSimpArgs false
section
namespace Go.Proofs.YtkgdhdjkpnalmaaGreatDoor.P
open Go.RowKit Go.Proofs.YtkgdhdjkpnalmaaGreatDoorW.PrintWords Go.Proofs.YtkgdhdjkpnalmaaGreatDoorW.PrintLast Go.Proofs.YtkgdhdjkpnalmaaGreatDoorW.PrintMore
attribute [local go_sem] zcd zca zci zcj zb1 zb2 zcc zcb
mutual
def zag.j0 : Nat→Int→Bool→Int→ByteArray→List (S117)→List (S114)→List (S114)→Option (Bool)
 | 0,_,_,_,_,_,_,_ => none
 | k + 1,x1,x19,x428000,x428001,x428002,x428003,x428004 => if x19 = true then (none) else (if x428000 = 2 then (zag.j1 k x1 1 true x428000 x428001 x428002 x428003 x428004) else (zag.j1 k x1 1 (x428000 == 4) x428000 x428001 x428002 x428003 x428004))
def zag.j1 : Nat→Int→Int→Bool→Int→ByteArray→List (S117)→List (S114)→List (S114)→Option (Bool)
 | 0,_,_,_,_,_,_,_,_ => none
 | k + 1,x1,x5,x27,x428000,x428001,x428002,x428003,x428004 => if x27 = true then (none) else (if x428000 = 3 then (zag.j2 k x1 x5 false x428000 x428001 x428002 x428003 x428004) else (zag.j2 k x1 x5 (x428000 != 5) x428000 x428001 x428002 x428003 x428004))
def zag.j2 : Nat→Int→Int→Bool→Int→ByteArray→List (S117)→List (S114)→List (S114)→Option (Bool)
 | 0,_,_,_,_,_,_,_,_ => none
 | k + 1,x1,x5,x6,x428000,x428001,x428002,x428003,x428004 => if (x428002.length : Int) = x5 then (if x6 = true then ((zce.f k x428001).bind fun t428 => (if t428 = true then (zag.j3 k x1 x5 false x428000 x428001 x428002 x428003 x428004) else (zag.j3 k x1 x5 true x428000 x428001 x428002 x428003 x428004))) else (zag.j3 k x1 x5 (x428001.toList != ([] : List UInt8)) x428000 x428001 x428002 x428003 x428004)) else (zag.j3 k x1 x5 true x428000 x428001 x428002 x428003 x428004)
def zag.j3 : Nat→Int→Int→Bool→Int→ByteArray→List (S117)→List (S114)→List (S114)→Option (Bool)
 | 0,_,_,_,_,_,_,_,_ => none
 | k + 1,x1,x5,x58,x428000,x428001,x428002,x428003,x428004 => if x58 = true then (none) else (if x428000 = 3 then (zag.j4 k x1 x5 false x428000 x428001 x428002 x428003 x428004) else (if (x428004.length : Int) > 0 then (zag.j4 k x1 x5 true x428000 x428001 x428002 x428003 x428004) else (if x428000 = 4 then (zag.j4 k x1 x5 false x428000 x428001 x428002 x428003 x428004) else (zag.j4 k x1 x5 (decide ((x428003.length : Int) > 0)) x428000 x428001 x428002 x428003 x428004))))
def zag.j4 : Nat→Int→Int→Bool→Int→ByteArray→List (S117)→List (S114)→List (S114)→Option (Bool)
 | 0,_,_,_,_,_,_,_,_ => none
 | k + 1,x1,x5,x83,x428000,x428001,x428002,x428003,x428004 => if x83 = true then (none) else (zag.l0 k x1 x5 0 x428000 x428001 x428002 x428003 x428004)
def zag.l0 : Nat→Int→Int→Int→Int→ByteArray→List (S117)→List (S114)→List (S114)→Option (Bool)
 | 0,_,_,_,_,_,_,_,_ => none
 | k + 1,x1,x5,x7,x428000,x428001,x428002,x428003,x428004 => if x7 < x5 then (if 0≤x7 then (if x7 < (x428002.length : Int) then ((zac.f k ((zad x428002 x7).f0) ((zad x428002 x7).f1) ((zad x428002 x7).f2) ((zad x428002 x7).f3) ((zad x428002 x7).f4) (wrap64 (x1 + 1))).bind fun t430 => (if t430 = true then (zag.l0 k x1 x5 (wrap64 (x7 + 1)) x428000 x428001 x428002 x428003 x428004) else (none))) else (none)) else (none)) else ((za9.f k x428003 (wrap64 (x1 + 1))).bind fun t431 => (if t431 = true then ((za9.f k x428004 (wrap64 (x1 + 1))).bind fun t432 => (some t432)) else (some false)))
def zag.f : Nat→Int→ByteArray→List (S117)→List (S114)→List (S114)→Int→Option (Bool)
 | 0,_,_,_,_,_,_ => none
 | k + 1,a0_0,a0_1,l0_2,l0_3,l0_4,a1 => if a1 > 24 then (zag.j0 k a1 true a0_0 a0_1 l0_2 l0_3 l0_4) else (if a0_0 < 1 then (zag.j0 k a1 true a0_0 a0_1 l0_2 l0_3 l0_4) else (zag.j0 k a1 (decide (a0_0 > 5)) a0_0 a0_1 l0_2 l0_3 l0_4))
def za9.l0 : Nat→List (S114)→Int→Int→Option (Bool)
 | 0,_,_,_ => none
 | k + 1,x0,x1,x5 => if x5 < (x0.length : Int) then (if 0≤x5 then ((zag.f k ((zbe x0 x5).f0) ((zbe x0 x5).f1) ((zbe x0 x5).f2) ((zbe x0 x5).f3) ((zbe x0 x5).f4) x1).bind fun t434 => (if t434 = true then (za9.l0 k x0 x1 (wrap64 (x5 + 1))) else (none))) else (none)) else (some true)
def za9.f : Nat→List (S114)→Int→Option (Bool)
 | 0,_,_ => none
 | k + 1,l0,a1 => za9.l0 k l0 a1 0
end
mutual
theorem zag.mono_l : ∀ k,(∀ y0 y1 y2 y3 y4 y5,LeO (zag.f k y0 y1 y2 y3 y4 y5) (zag.f (k + 1) y0 y1 y2 y3 y4 y5))∧(∀ y0 y1 y2 y3 y4 y5 y6,LeO (zag.j0 k y0 y1 y2 y3 y4 y5 y6) (zag.j0 (k + 1) y0 y1 y2 y3 y4 y5 y6))∧(∀ y0 y1 y2 y3 y4 y5 y6 y7,LeO (zag.j1 k y0 y1 y2 y3 y4 y5 y6 y7) (zag.j1 (k + 1) y0 y1 y2 y3 y4 y5 y6 y7))∧(∀ y0 y1 y2 y3 y4 y5 y6 y7,LeO (zag.j2 k y0 y1 y2 y3 y4 y5 y6 y7) (zag.j2 (k + 1) y0 y1 y2 y3 y4 y5 y6 y7))∧(∀ y0 y1 y2 y3 y4 y5 y6 y7,LeO (zag.j3 k y0 y1 y2 y3 y4 y5 y6 y7) (zag.j3 (k + 1) y0 y1 y2 y3 y4 y5 y6 y7))∧(∀ y0 y1 y2 y3 y4 y5 y6 y7,LeO (zag.j4 k y0 y1 y2 y3 y4 y5 y6 y7) (zag.j4 (k + 1) y0 y1 y2 y3 y4 y5 y6 y7))∧(∀ y0 y1 y2 y3 y4 y5 y6 y7,LeO (zag.l0 k y0 y1 y2 y3 y4 y5 y6 y7) (zag.l0 (k + 1) y0 y1 y2 y3 y4 y5 y6 y7))
 | 0 => ⟨fun _ _ _ _ _ _ r h => by simp [zag.f] at h,fun _ _ _ _ _ _ _ r h => by simp [zag.j0] at h,fun _ _ _ _ _ _ _ _ r h => by simp [zag.j1] at h,fun _ _ _ _ _ _ _ _ r h => by simp [zag.j2] at h,fun _ _ _ _ _ _ _ _ r h => by simp [zag.j3] at h,fun _ _ _ _ _ _ _ _ r h => by simp [zag.j4] at h,fun _ _ _ _ _ _ _ _ r h => by simp [zag.l0] at h⟩
 | k + 1 => by
  have ihm45:=(za9.mono_l k).1;obtain ⟨ih0,ih1,ih2,ih3,ih4,ih5,ih6⟩:=zag.mono_l k;refine ⟨?_,?_,?_,?_,?_,?_,?_⟩
  ·intro y0 y1 y2 y3 y4 y5
   unfold zag.f
   exact yq41
  ·intro y0 y1 y2 y3 y4 y5 y6
   unfold zag.j0
   exact yq41
  ·intro y0 y1 y2 y3 y4 y5 y6 y7
   unfold zag.j1
   exact yq41
  ·intro y0 y1 y2 y3 y4 y5 y6 y7
   unfold zag.j2
   exact (by repeat' first | with_reducible apply ih0 | with_reducible apply ih1 | with_reducible apply ih2 | with_reducible apply ih3 | with_reducible apply ih4 | with_reducible apply ih5 | with_reducible apply ih6 | with_reducible apply ihm45 | apply ihm45 | with_reducible apply zce.mono | with_reducible apply LeO.refl | with_reducible apply LeO.none | (with_reducible refine LeO.ite ?_ ?_) | (with_reducible refine LeO.bind ?_ (fun _ => ?_)))
  ·intro y0 y1 y2 y3 y4 y5 y6 y7
   unfold zag.j3
   exact yq41
  ·intro y0 y1 y2 y3 y4 y5 y6 y7
   unfold zag.j4
   exact yq41
  ·intro y0 y1 y2 y3 y4 y5 y6 y7
   unfold zag.l0
   exact (by repeat' first | with_reducible apply ih0 | with_reducible apply ih1 | with_reducible apply ih2 | with_reducible apply ih3 | with_reducible apply ih4 | with_reducible apply ih5 | with_reducible apply ih6 | with_reducible apply ihm45 | apply ihm45 | with_reducible apply zac.mono | with_reducible apply LeO.refl | with_reducible apply LeO.none | (with_reducible refine LeO.ite ?_ ?_) | (with_reducible refine LeO.bind ?_ (fun _ => ?_)))
theorem za9.mono_l : ∀ k,(∀ y0 y1,LeO (za9.f k y0 y1) (za9.f (k + 1) y0 y1))∧(∀ y0 y1 y2,LeO (za9.l0 k y0 y1 y2) (za9.l0 (k + 1) y0 y1 y2))
 | 0 => ⟨fun _ _ r h => by simp [za9.f] at h,fun _ _ _ r h => by simp [za9.l0] at h⟩
 | k + 1 => by
  have ihm64:=(zag.mono_l k).1;obtain ⟨ih0,ih1⟩:=za9.mono_l k;refine ⟨?_,?_⟩
  ·intro y0 y1
   unfold za9.f
   exact yq148
  ·intro y0 y1 y2
   unfold za9.l0
   exact yq148
end
theorem za9.mono : ∀ a0 a1 k,LeO (za9.f k a0 a1) (za9.f (k + 1) a0 a1):=by
 intro a0 a1 k;obtain ⟨ih0,ih1⟩:=za9.mono_l k;exact ih0 a0 a1
abbrev zag.C (k : Nat) : Prop:=∀ (a0_0 : Int) (a0_1 : ByteArray) (A0_2 : Option Addr) (c0_2 : Nat) (l0_2 : List (S117)) (A0_3 : Option Addr) (c0_3 : Nat) (l0_3 : List (S114)) (A0_4 : Option Addr) (c0_4 : Nat) (l0_4 : List (S114)) (a1 : Int) (r : Bool) (w : World) (hr0_2 : Kd.C k117 w A0_2 l0_2.length l0_2) (hc0_2 : l0_2.length≤c0_2) (hr0_3 : Kd.C k114 w A0_3 l0_3.length l0_3) (hc0_3 : l0_3.length≤c0_3) (hr0_4 : Kd.C k114 w A0_4 l0_4.length l0_4) (hc0_4 : l0_4.length≤c0_4) (h : zag.f k a0_0 a0_1 l0_2 l0_3 l0_4 a1 = some r),
  Calls Tryz.prog 64 #[.agg #[.int .i64 a0_0,.string a0_1,.slice A0_2 l0_2.length c0_2,.slice A0_3 l0_3.length c0_3,.slice A0_4 l0_4.length c0_4],.int .i64 a1] w fun e w' => e = .returned (.bool r)∧Below w.heap.size w w'
abbrev za9.C (k : Nat) : Prop:=∀ (A0 : Option Addr) (c0 : Nat) (l0 : List (S114)) (a1 : Int) (r : Bool) (w : World) (hr0 : Kd.C k114 w A0 l0.length l0) (hc0 : l0.length≤c0) (h : za9.f k l0 a1 = some r),
  Calls Tryz.prog 45 #[.slice A0 l0.length c0,.int .i64 a1] w fun e w' => e = .returned (.bool r)∧Below w.heap.size w w'
end Go.Proofs.YtkgdhdjkpnalmaaGreatDoor.P
end
