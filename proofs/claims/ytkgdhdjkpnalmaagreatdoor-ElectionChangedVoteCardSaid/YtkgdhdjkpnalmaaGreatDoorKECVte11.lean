/- What is proved here: a part of the proof of ElectionChangedVote: Px8. No conditions beside those that each theorem states. -/
import Derived.Test.YtkgdhdjkpnalmaaGreatDoorKECVte4
import Derived.Test.YtkgdhdjkpnalmaaGreatDoorKECVte9
import Derived.Test.YtkgdhdjkpnalmaaGreatDoorKECVte10
set_option linter.unusedVariables false
set_option linter.unusedSimpArgs false
section
namespace Go.Proofs.YtkgdhdjkpnalmaaGreatDoor.P
open Go.RowKit Go.Proofs.YtkgdhdjkpnalmaaGreatDoorW.PrintWords Go.Proofs.YtkgdhdjkpnalmaaGreatDoorW.PrintLast Go.Proofs.YtkgdhdjkpnalmaaGreatDoorW.PrintMore
attribute [local go_sem] zcd zca zci zcj zb1 zb2 zcc zcb
mutual
def zam.j0 : Nat→ByteArray→Bool→List (S92)→Int→Bool→Option (Int × Int × Int × ByteArray × (List (S117)) × Int × Bool)
 | 0,_,_,_,_,_ => none
 | k + 1,x4,x45,x1000,x1001,x1002 => if x45 = true then (none) else (some (2,0,0,x4,([] : List (S117)),x1001,x1002))
def zam.f : Nat→List (S92)→Int→Bool→Option (Int × Int × Int × ByteArray × (List (S117)) × Int × Bool)
 | 0,_,_,_ => none
 | k + 1,s0_0,s0_1,s0_2 => if s0_2 = true then (none) else ((zbb.f s0_0 s0_1 s0_2 2).bind fun bt115 => (if bt115.1 = true then ((zau.f s0_0 bt115.2.1 bt115.2.2 2).bind fun bt118 => (some (1,0,bt118.2.2.1,(⟨#[]⟩ : ByteArray),([] : List (S117)),bt118.2.2.2.2.1,bt118.2.2.2.2.2))) else ((zaa.f s0_0 bt115.2.1 bt115.2.2 (⟨#[40]⟩ : ByteArray)).bind fun bt124 => (if bt124.1 = true then ((zak.f s0_0 bt124.2.1 bt124.2.2 (⟨#[40]⟩ : ByteArray)).bind fun bt127 => ((zah.f k s0_0 bt127.1 bt127.2).bind fun bt129 => ((zak.f s0_0 bt129.2.2.2.2.2.1 bt129.2.2.2.2.2.2 (⟨#[41]⟩ : ByteArray)).bind fun bt139 => (some (bt129.1,bt129.2.1,bt129.2.2.1,bt129.2.2.2.1,bt129.2.2.2.2.1,bt139.1,bt139.2))))) else ((zaa.f s0_0 bt124.2.1 bt124.2.2 (⟨#[33]⟩ : ByteArray)).bind fun bt141 => (if bt141.1 = true then (none) else ((zau.f s0_0 bt141.2.1 bt141.2.2 1).bind fun bt144 => (if bt144.2.2.2.2.2 = true then (zam.j0 k bt144.2.1 false s0_0 bt144.2.2.2.2.1 bt144.2.2.2.2.2) else ((zaa.f s0_0 bt144.2.2.2.2.1 bt144.2.2.2.2.2 (⟨#[91]⟩ : ByteArray)).bind fun bt150 => (zam.j0 k bt144.2.1 bt150.1 s0_0 bt150.2.1 bt150.2.2))))))))))
def zai.l0 : Nat→Int→List (S92)→Int→Bool→Int→Int→Int→ByteArray→List (S117)→Option (Int × Int × Int × ByteArray × (List (S117)) × Int × Bool)
 | 0,_,_,_,_,_,_,_,_,_ => none
 | k + 1,x1,x1000,x1001,x1002,x173000,x173001,x173002,x173003,x173004 => if x1002 = true then (zai.j1 k x1 false x1000 x1001 x1002 x173000 x173001 x173002 x173003 x173004) else ((zbb.f x1000 x1001 x1002 4).bind fun bt173 => (if bt173.1 = true then (if 0≤bt173.2.1 then (if bt173.2.1 < (x1000.length : Int) then ((zbq.f k ((zcz x1000 bt173.2.1).f1)).bind fun t177 => (zai.j1 k x1 (t177 == x1) x1000 bt173.2.1 bt173.2.2 x173000 x173001 x173002 x173003 x173004)) else (none)) else (none)) else (zai.j1 k x1 false x1000 bt173.2.1 bt173.2.2 x173000 x173001 x173002 x173003 x173004)))
def zai.j1 : Nat→Int→Bool→List (S92)→Int→Bool→Int→Int→Int→ByteArray→List (S117)→Option (Int × Int × Int × ByteArray × (List (S117)) × Int × Bool)
 | 0,_,_,_,_,_,_,_,_,_,_ => none
 | k + 1,x1,x40,x1000,x1001,x1002,x173000,x173001,x173002,x173003,x173004 => if x40 = true then ((zau.f x1000 x1001 x1002 4).bind fun bt178 => ((zai.f k x1000 bt178.2.2.2.2.1 bt178.2.2.2.2.2 (wrap64 (x1 + 1))).bind fun bt184 => ((zdq.f bt178.2.1).bind fun t194 => (zai.l0 k x1 x1000 bt184.2.2.2.2.2.1 bt184.2.2.2.2.2.2 4 t194 0 (⟨#[]⟩ : ByteArray) (([(⟨x173000,x173001,x173002,x173003,x173004⟩ : S117),(⟨bt184.1,bt184.2.1,bt184.2.2.1,bt184.2.2.2.1,bt184.2.2.2.2.1⟩ : S117)] : List (S117))))))) else (some (x173000,x173001,x173002,x173003,x173004,x1001,x1002))
def zai.f : Nat→List (S92)→Int→Bool→Int→Option (Int × Int × Int × ByteArray × (List (S117)) × Int × Bool)
 | 0,_,_,_,_ => none
 | k + 1,s0_0,s0_1,s0_2,a1 => if a1 = 7 then ((zam.f k s0_0 s0_1 s0_2).bind fun bt154 => (some (bt154.1,bt154.2.1,bt154.2.2.1,bt154.2.2.2.1,bt154.2.2.2.2.1,bt154.2.2.2.2.2.1,bt154.2.2.2.2.2.2))) else ((zai.f k s0_0 s0_1 s0_2 (wrap64 (a1 + 1))).bind fun bt163 => (zai.l0 k a1 s0_0 bt163.2.2.2.2.2.1 bt163.2.2.2.2.2.2 bt163.1 bt163.2.1 bt163.2.2.1 bt163.2.2.2.1 bt163.2.2.2.2.1))
def zah.j0 : Nat→Bool→List (S92)→Int→Bool→Int→Int→Int→ByteArray→List (S117)→Option (Int × Int × Int × ByteArray × (List (S117)) × Int × Bool)
 | 0,_,_,_,_,_,_,_,_,_ => none
 | k + 1,x16,x1000,x1001,x1002,x209000,x209001,x209002,x209003,x209004 => if x16 = true then (some (x209000,x209001,x209002,x209003,x209004,x1001,x1002)) else ((zak.f x1000 x1001 x1002 (⟨#[63]⟩ : ByteArray)).bind fun bt212 => ((zah.f k x1000 bt212.1 bt212.2).bind fun bt214 => ((zak.f x1000 bt214.2.2.2.2.2.1 bt214.2.2.2.2.2.2 (⟨#[58]⟩ : ByteArray)).bind fun bt224 => ((zah.f k x1000 bt224.1 bt224.2).bind fun bt226 => (some (6,0,0,(⟨#[]⟩ : ByteArray),(([(⟨x209000,x209001,x209002,x209003,x209004⟩ : S117),(⟨bt214.1,bt214.2.1,bt214.2.2.1,bt214.2.2.2.1,bt214.2.2.2.2.1⟩ : S117),(⟨bt226.1,bt226.2.1,bt226.2.2.1,bt226.2.2.2.1,bt226.2.2.2.2.1⟩ : S117)] : List (S117))),bt226.2.2.2.2.2.1,bt226.2.2.2.2.2.2))))))
def zah.f : Nat→List (S92)→Int→Bool→Option (Int × Int × Int × ByteArray × (List (S117)) × Int × Bool)
 | 0,_,_,_ => none
 | k + 1,s0_0,s0_1,s0_2 => (zai.f k s0_0 s0_1 s0_2 1).bind fun bt199 => (if bt199.2.2.2.2.2.2 = true then (zah.j0 k true s0_0 bt199.2.2.2.2.2.1 bt199.2.2.2.2.2.2 bt199.1 bt199.2.1 bt199.2.2.1 bt199.2.2.2.1 bt199.2.2.2.2.1) else ((zaa.f s0_0 bt199.2.2.2.2.2.1 bt199.2.2.2.2.2.2 (⟨#[63]⟩ : ByteArray)).bind fun bt209 => (zah.j0 k (!bt209.1) s0_0 bt209.2.1 bt209.2.2 bt199.1 bt199.2.1 bt199.2.2.1 bt199.2.2.2.1 bt199.2.2.2.2.1)))
end
mutual
theorem zam.mono_l : ∀ k,(∀ y0 y1 y2,LeO (zam.f k y0 y1 y2) (zam.f (k + 1) y0 y1 y2))∧(∀ y0 y1 y2 y3 y4,LeO (zam.j0 k y0 y1 y2 y3 y4) (zam.j0 (k + 1) y0 y1 y2 y3 y4))
 | 0 => ⟨fun _ _ _ r h => by simp [zam.f] at h,fun _ _ _ _ _ r h => by simp [zam.j0] at h⟩
 | k + 1 => by
  have ihm74:=(zah.mono_l k).1;obtain ⟨ih0,ih1⟩:=zam.mono_l k;refine ⟨?_,?_⟩
  ·intro y0 y1 y2
   unfold zam.f
   exact yq147
  ·intro y0 y1 y2 y3 y4
   unfold zam.j0
   exact yq147
theorem zai.mono_l : ∀ k,(∀ y0 y1 y2 y3,LeO (zai.f k y0 y1 y2 y3) (zai.f (k + 1) y0 y1 y2 y3))∧(∀ y0 y1 y2 y3 y4 y5 y6 y7 y8,LeO (zai.l0 k y0 y1 y2 y3 y4 y5 y6 y7 y8) (zai.l0 (k + 1) y0 y1 y2 y3 y4 y5 y6 y7 y8))∧(∀ y0 y1 y2 y3 y4 y5 y6 y7 y8 y9,LeO (zai.j1 k y0 y1 y2 y3 y4 y5 y6 y7 y8 y9) (zai.j1 (k + 1) y0 y1 y2 y3 y4 y5 y6 y7 y8 y9))
 | 0 => ⟨fun _ _ _ _ r h => by simp [zai.f] at h,fun _ _ _ _ _ _ _ _ _ r h => by simp [zai.l0] at h,fun _ _ _ _ _ _ _ _ _ _ r h => by simp [zai.j1] at h⟩
 | k + 1 => by
  have ihm101:=(zam.mono_l k).1;obtain ⟨ih0,ih1,ih2⟩:=zai.mono_l k;refine ⟨?_,?_,?_⟩
  ·intro y0 y1 y2 y3
   unfold zai.f
   exact yq138
  ·intro y0 y1 y2 y3 y4 y5 y6 y7 y8
   unfold zai.l0
   exact (by repeat' first | with_reducible apply ih0 | with_reducible apply ih1 | with_reducible apply ih2 | with_reducible apply ihm101 | apply ihm101 | with_reducible apply zbq.mono | with_reducible apply LeO.refl | with_reducible apply LeO.none | (with_reducible refine LeO.ite ?_ ?_) | (with_reducible refine LeO.bind ?_ (fun _ => ?_)))
  ·intro y0 y1 y2 y3 y4 y5 y6 y7 y8 y9
   unfold zai.j1
   exact yq138
theorem zah.mono_l : ∀ k,(∀ y0 y1 y2,LeO (zah.f k y0 y1 y2) (zah.f (k + 1) y0 y1 y2))∧(∀ y0 y1 y2 y3 y4 y5 y6 y7 y8,LeO (zah.j0 k y0 y1 y2 y3 y4 y5 y6 y7 y8) (zah.j0 (k + 1) y0 y1 y2 y3 y4 y5 y6 y7 y8))
 | 0 => ⟨fun _ _ _ r h => by simp [zah.f] at h,fun _ _ _ _ _ _ _ _ _ r h => by simp [zah.j0] at h⟩
 | k + 1 => by
  have ihm85:=(zai.mono_l k).1;obtain ⟨ih0,ih1⟩:=zah.mono_l k;refine ⟨?_,?_⟩
  ·intro y0 y1 y2
   unfold zah.f
   exact yq146
  ·intro y0 y1 y2 y3 y4 y5 y6 y7 y8
   unfold zah.j0
   exact yq146
end
theorem zah.mono : ∀ a0 a1 a2 k,LeO (zah.f k a0 a1 a2) (zah.f (k + 1) a0 a1 a2):=by
 intro a0 a1 a2 k;obtain ⟨ih0,ih1⟩:=zah.mono_l k;exact ih0 a0 a1 a2
abbrev zam.C (k : Nat) : Prop:=∀ (g : Nat) (s0_0 : List (S92)) (s0_1 : Int) (s0_2 : Bool) (r1 : Int) (r2 : Int) (r3 : Int) (r4 : ByteArray) (r5 : List (S117)) (r6 : Int) (r7 : Bool) (w0 w : World) (hI : zay w0 w g s0_0 s0_1 s0_2) (hB : Below w0.heap.size w0 w) (h : zam.f k s0_0 s0_1 s0_2 = some (r1,r2,r3,r4,r5,r6,r7)),
  Calls Tryz.prog 101 #[.pointer (some ⟨g,0,none⟩)] w fun e w' => ∃ v4_ : Value,e = .returned (.agg #[.int .i64 r1,.int .i64 r2,.int .u64 r3,.string r4,v4_])∧Kd.N k117 117 w' w.heap.size (fun k_ => (w.heap.size≤k_)) v4_ r5∧zay w0 w' g s0_0 r6 r7∧Below w0.heap.size w0 w'∧zaf w w' g none
abbrev zai.C (k : Nat) : Prop:=∀ (g : Nat) (s0_0 : List (S92)) (s0_1 : Int) (s0_2 : Bool) (a1 : Int) (r1 : Int) (r2 : Int) (r3 : Int) (r4 : ByteArray) (r5 : List (S117)) (r6 : Int) (r7 : Bool) (w0 w : World) (hI : zay w0 w g s0_0 s0_1 s0_2) (hB : Below w0.heap.size w0 w) (h : zai.f k s0_0 s0_1 s0_2 a1 = some (r1,r2,r3,r4,r5,r6,r7)),
  Calls Tryz.prog 85 #[.pointer (some ⟨g,0,none⟩),.int .i64 a1] w fun e w' => ∃ v4_ : Value,e = .returned (.agg #[.int .i64 r1,.int .i64 r2,.int .u64 r3,.string r4,v4_])∧Kd.N k117 117 w' w.heap.size (fun k_ => (w.heap.size≤k_)) v4_ r5∧zay w0 w' g s0_0 r6 r7∧Below w0.heap.size w0 w'∧zaf w w' g none
abbrev zah.C (k : Nat) : Prop:=∀ (g : Nat) (s0_0 : List (S92)) (s0_1 : Int) (s0_2 : Bool) (r1 : Int) (r2 : Int) (r3 : Int) (r4 : ByteArray) (r5 : List (S117)) (r6 : Int) (r7 : Bool) (w0 w : World) (hI : zay w0 w g s0_0 s0_1 s0_2) (hB : Below w0.heap.size w0 w) (h : zah.f k s0_0 s0_1 s0_2 = some (r1,r2,r3,r4,r5,r6,r7)),
  Calls Tryz.prog 74 #[.pointer (some ⟨g,0,none⟩)] w fun e w' => ∃ v4_ : Value,e = .returned (.agg #[.int .i64 r1,.int .i64 r2,.int .u64 r3,.string r4,v4_])∧Kd.N k117 117 w' w.heap.size (fun k_ => (w.heap.size≤k_)) v4_ r5∧zay w0 w' g s0_0 r6 r7∧Below w0.heap.size w0 w'∧zaf w w' g none
end Go.Proofs.YtkgdhdjkpnalmaaGreatDoor.P
end
