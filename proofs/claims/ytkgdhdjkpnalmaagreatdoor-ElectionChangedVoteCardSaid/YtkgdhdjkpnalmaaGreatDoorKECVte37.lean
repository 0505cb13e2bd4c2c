/- What is proved here: a part of the proof of ElectionChangedVote: Px46. No conditions beside those that each theorem states. -/
import Derived.Test.YtkgdhdjkpnalmaaGreatDoorKECVte4
import Derived.Test.YtkgdhdjkpnalmaaGreatDoorKECVte33
import Derived.Test.YtkgdhdjkpnalmaaGreatDoorKECVte36
set_option linter.unusedVariables false
set_option linter.unusedSimpArgs false
section
namespace Go.Proofs.YtkgdhdjkpnalmaaGreatDoor.P
open Go.RowKit Go.Proofs.YtkgdhdjkpnalmaaGreatDoorW.PrintWords Go.Proofs.YtkgdhdjkpnalmaaGreatDoorW.PrintLast Go.Proofs.YtkgdhdjkpnalmaaGreatDoorW.PrintMore
attribute [local go_sem] zcd zca zci zcj zb1 zb2 zcc zcb
mutual
def zcg.f : Nat→List (S50)→List (S87)→List (S114)→List (S158)→List (S158)→List (List Int)→Int→Int→Int→Int→Int→Int→ByteArray→List (S117)→Option (Int × Int × Bool × Int × Int × Int × Int × Int)
 | 0,_,_,_,_,_,_,_,_,_,_,_,_,_,_ => none
 | k + 1,s0_0,s0_1,s0_2,s0_3,s0_4,s0_5,s0_6,s0_7,s0_8,a1_0,a1_1,a1_2,a1_3,l1_4 => (zbj.f k s0_0 s0_1 s0_2 s0_3 s0_4 s0_5 s0_6 s0_7 s0_8 l1_4).bind fun bt519 => (if bt519.2.1 = 0 then ((zbl.f k s0_0 s0_1 s0_2 s0_3 s0_4 s0_5 bt519.2.2.1 bt519.2.2.2.1 bt519.2.2.2.2 a1_0 a1_1 a1_2 a1_3 l1_4 bt519.1).bind fun bt526 => (if bt526.2.2.2.2.1 = 0 then (if bt526.1 = 1 then (if bt526.2.1 > 60 then (none) else (some (bt526.1,bt526.2.1,bt526.2.2.1,bt526.2.2.2.1,0,bt526.2.2.2.2.2.1,mx bt526.2.2.2.2.2.2.1 bt526.2.1,bt526.2.2.2.2.2.2.2))) else (some (bt526.1,bt526.2.1,bt526.2.2.1,bt526.2.2.2.1,0,bt526.2.2.2.2.2.1,bt526.2.2.2.2.2.2.1,bt526.2.2.2.2.2.2.2))) else (none))) else (none))
def zbj.l0 : Nat→List (S117)→List (S155)→Int→List (S50)→List (S87)→List (S114)→List (S158)→List (S158)→List (List Int)→Int→Int→Int→Option ((List (S155)) × Int × Int × Int × Int)
 | 0,_,_,_,_,_,_,_,_,_,_,_,_ => none
 | k + 1,x1,x6,x7,x1000,x1001,x1002,x1003,x1004,x1005,x1006,x1007,x1008 => if x7 < (x1.length : Int) then (if 0≤x7 then ((zcg.f k x1000 x1001 x1002 x1003 x1004 x1005 x1006 x1007 x1008 ((zad x1 x7).f0) ((zad x1 x7).f1) ((zad x1 x7).f2) ((zad x1 x7).f3) ((zad x1 x7).f4)).bind fun bt536 => (if bt536.2.2.2.2.1 = 0 then (if x6.length < 4398046511104 then (zbj.l0 k x1 (x6 ++ [(⟨bt536.1,bt536.2.1,bt536.2.2.1,bt536.2.2.2.1⟩ : S155)]) (wrap64 (x7 + 1)) x1000 x1001 x1002 x1003 x1004 x1005 bt536.2.2.2.2.2.1 bt536.2.2.2.2.2.2.1 bt536.2.2.2.2.2.2.2) else (none)) else (none))) else (none)) else (some (x6,0,x1006,x1007,x1008))
def zbj.f : Nat→List (S50)→List (S87)→List (S114)→List (S158)→List (S158)→List (List Int)→Int→Int→Int→List (S117)→Option ((List (S155)) × Int × Int × Int × Int)
 | 0,_,_,_,_,_,_,_,_,_,_ => none
 | k + 1,s0_0,s0_1,s0_2,s0_3,s0_4,s0_5,s0_6,s0_7,s0_8,l1 => zbj.l0 k l1 ([] : List (S155)) 0 s0_0 s0_1 s0_2 s0_3 s0_4 s0_5 s0_6 s0_7 s0_8
end
mutual
theorem zcg.mono_l : ∀ k,(∀ y0 y1 y2 y3 y4 y5 y6 y7 y8 y9 y10 y11 y12 y13,LeO (zcg.f k y0 y1 y2 y3 y4 y5 y6 y7 y8 y9 y10 y11 y12 y13) (zcg.f (k + 1) y0 y1 y2 y3 y4 y5 y6 y7 y8 y9 y10 y11 y12 y13))
 | 0 => fun _ _ _ _ _ _ _ _ _ _ _ _ _ _ r h => by simp [zcg.f] at h
 | k + 1 => by
  have ihm91:=(zbj.mono_l k).1;have ih0:=zcg.mono_l k
  ·intro y0 y1 y2 y3 y4 y5 y6 y7 y8 y9 y10 y11 y12 y13
   unfold zcg.f
   exact (by repeat' first | with_reducible apply ih0 | with_reducible apply ihm91 | apply ihm91 | with_reducible apply zbl.mono | with_reducible apply LeO.refl | with_reducible apply LeO.none | (with_reducible refine LeO.ite ?_ ?_) | (with_reducible refine LeO.bind ?_ (fun _ => ?_)))
theorem zbj.mono_l : ∀ k,(∀ y0 y1 y2 y3 y4 y5 y6 y7 y8 y9,LeO (zbj.f k y0 y1 y2 y3 y4 y5 y6 y7 y8 y9) (zbj.f (k + 1) y0 y1 y2 y3 y4 y5 y6 y7 y8 y9))∧(∀ y0 y1 y2 y3 y4 y5 y6 y7 y8 y9 y10 y11,LeO (zbj.l0 k y0 y1 y2 y3 y4 y5 y6 y7 y8 y9 y10 y11) (zbj.l0 (k + 1) y0 y1 y2 y3 y4 y5 y6 y7 y8 y9 y10 y11))
 | 0 => ⟨fun _ _ _ _ _ _ _ _ _ _ r h => by simp [zbj.f] at h,fun _ _ _ _ _ _ _ _ _ _ _ _ r h => by simp [zbj.l0] at h⟩
 | k + 1 => by
  have ihm104:=zcg.mono_l k;obtain ⟨ih0,ih1⟩:=zbj.mono_l k;refine ⟨?_,?_⟩
  ·intro y0 y1 y2 y3 y4 y5 y6 y7 y8 y9
   unfold zbj.f
   exact yq145
  ·intro y0 y1 y2 y3 y4 y5 y6 y7 y8 y9 y10 y11
   unfold zbj.l0
   exact yq145
end
theorem zbj.mono : ∀ a0 a1 a2 a3 a4 a5 a6 a7 a8 a9 k,LeO (zbj.f k a0 a1 a2 a3 a4 a5 a6 a7 a8 a9) (zbj.f (k + 1) a0 a1 a2 a3 a4 a5 a6 a7 a8 a9):=by
 intro a0 a1 a2 a3 a4 a5 a6 a7 a8 a9 k;obtain ⟨ih0,ih1⟩:=zbj.mono_l k;exact ih0 a0 a1 a2 a3 a4 a5 a6 a7 a8 a9
abbrev zcg.C (k : Nat) : Prop:=∀ (g : Nat) (s0_0 : List (S50)) (s0_1 : List (S87)) (s0_2 : List (S114)) (s0_3 : List (S158)) (s0_4 : List (S158)) (s0_5 : List (List Int)) (s0_6 : Int) (s0_7 : Int) (s0_8 : Int) (a1_0 : Int) (a1_1 : Int) (a1_2 : Int) (a1_3 : ByteArray) (A1_4 : Option Addr) (c1_4 : Nat) (l1_4 : List (S117)) (r1 : Int) (r2 : Int) (r3 : Bool) (r4 : Int) (r5 : Int) (r6 : Int) (r7 : Int) (r8 : Int) (w0 w : World) (hI : zax w0 w g s0_0 s0_1 s0_2 s0_3 s0_4 s0_5 s0_6 s0_7 s0_8) (hB : Below w0.heap.size w0 w) (hr1_4 : ∀ W_,zaf w W_ g none→Kd.C k117 W_ A1_4 l1_4.length l1_4) (hc1_4 : l1_4.length≤c1_4) (h : zcg.f k s0_0 s0_1 s0_2 s0_3 s0_4 s0_5 s0_6 s0_7 s0_8 a1_0 a1_1 a1_2 a1_3 l1_4 = some (r1,r2,r3,r4,r5,r6,r7,r8)),
  Calls Tryz.prog 104 #[.pointer (some ⟨g,0,none⟩),.agg #[.int .i64 a1_0,.int .i64 a1_1,.int .u64 a1_2,.string a1_3,.slice A1_4 l1_4.length c1_4]] w fun e w' => e = .returned (.tuple #[.agg #[.int .i64 r1,.int .i64 r2,.bool r3,.int .u64 r4],.int .i64 r5])∧zax w0 w' g s0_0 s0_1 s0_2 s0_3 s0_4 s0_5 r6 r7 r8∧Below w0.heap.size w0 w'∧zaf w w' g none
abbrev zbj.C (k : Nat) : Prop:=∀ (g : Nat) (s0_0 : List (S50)) (s0_1 : List (S87)) (s0_2 : List (S114)) (s0_3 : List (S158)) (s0_4 : List (S158)) (s0_5 : List (List Int)) (s0_6 : Int) (s0_7 : Int) (s0_8 : Int) (A1 : Option Addr) (c1 : Nat) (l1 : List (S117)) (r1 : List (S155)) (r2 : Int) (r3 : Int) (r4 : Int) (r5 : Int) (w0 w : World) (hI : zax w0 w g s0_0 s0_1 s0_2 s0_3 s0_4 s0_5 s0_6 s0_7 s0_8) (hB : Below w0.heap.size w0 w) (hr1 : ∀ W_,zaf w W_ g none→Kd.C k117 W_ A1 l1.length l1) (hc1 : l1.length≤c1) (h : zbj.f k s0_0 s0_1 s0_2 s0_3 s0_4 s0_5 s0_6 s0_7 s0_8 l1 = some (r1,r2,r3,r4,r5)),
  Calls Tryz.prog 91 #[.pointer (some ⟨g,0,none⟩),.slice A1 l1.length c1] w fun e w' => ∃ v0_ : Value,e = .returned (.tuple #[v0_,.int .i64 r2])∧Kd.R k155 155 w' w.heap.size (fun _ => True) v0_ r1∧zax w0 w' g s0_0 s0_1 s0_2 s0_3 s0_4 s0_5 r3 r4 r5∧Below w0.heap.size w0 w'∧zaf w w' g none
end Go.Proofs.YtkgdhdjkpnalmaaGreatDoor.P
end
