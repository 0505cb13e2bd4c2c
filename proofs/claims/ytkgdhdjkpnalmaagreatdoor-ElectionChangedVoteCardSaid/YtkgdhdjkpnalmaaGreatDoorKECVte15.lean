/- What is proved here: a part of the proof of ElectionChangedVote: Px12. No conditions beside those that each theorem states. -/
import Derived.Test.YtkgdhdjkpnalmaaGreatDoorKECVte4
import Derived.Test.YtkgdhdjkpnalmaaGreatDoorKECVte9
import Derived.Test.YtkgdhdjkpnalmaaGreatDoorKECVte10
import Derived.Test.YtkgdhdjkpnalmaaGreatDoorKECVte11
import Derived.Test.YtkgdhdjkpnalmaaGreatDoorKECVte12
import Derived.Test.YtkgdhdjkpnalmaaGreatDoorKECVte13
import Derived.Test.YtkgdhdjkpnalmaaGreatDoorKECVte14
set_option linter.unusedVariables false
set_option linter.unusedSimpArgs false
section
namespace Go.Proofs.YtkgdhdjkpnalmaaGreatDoor.P
open Go.RowKit Go.Proofs.YtkgdhdjkpnalmaaGreatDoorW.PrintWords Go.Proofs.YtkgdhdjkpnalmaaGreatDoorW.PrintLast Go.Proofs.YtkgdhdjkpnalmaaGreatDoorW.PrintMore
attribute [local go_sem] zcd zca zci zcj zb1 zb2 zcc zcb
theorem zam.group (k : Nat) : zam.C k∧zai.C k∧zah.C k:=by
 induction k using Nat.strongRecOn with
 | _ k ih =>
 exact ⟨zam.step k (fun m h => (ih m h).1) (fun m h => (ih m h).2.1) (fun m h => (ih m h).2.2),zai.step k (fun m h => (ih m h).1) (fun m h => (ih m h).2.1) (fun m h => (ih m h).2.2),zah.step k (fun m h => (ih m h).1) (fun m h => (ih m h).2.1) (fun m h => (ih m h).2.2)⟩
theorem zah.calls (k : Nat) : ∀ (g : Nat) (s0_0 : List (S92)) (s0_1 : Int) (s0_2 : Bool) (r1 : Int) (r2 : Int) (r3 : Int) (r4 : ByteArray) (r5 : List (S117)) (r6 : Int) (r7 : Bool) (w0 w : World) (hI : zay w0 w g s0_0 s0_1 s0_2) (hB : Below w0.heap.size w0 w) (h : zah.f k s0_0 s0_1 s0_2 = some (r1,r2,r3,r4,r5,r6,r7)),
  Calls Tryz.prog 74 #[.pointer (some ⟨g,0,none⟩)] w fun e w' => ∃ v4_ : Value,e = .returned (.agg #[.int .i64 r1,.int .i64 r2,.int .u64 r3,.string r4,v4_])∧Kd.N k117 117 w' w.heap.size (fun k_ => (w.heap.size≤k_)) v4_ r5∧zay w0 w' g s0_0 r6 r7∧Below w0.heap.size w0 w'∧zaf w w' g none:=(zam.group k).2.2
mutual
def zab.l0 : Nat→List (S114)→List (S92)→Int→Bool→Option ((List (S114)) × Int × Bool)
 | 0,_,_,_,_ => none
 | k + 1,x3,x1000,x1001,x1002 => if x1002 = true then (some (x3,x1001,x1002)) else ((zbb.f x1000 x1001 x1002 1).bind fun bt239 => (if bt239.1 = true then ((zan.f k x1000 bt239.2.1 bt239.2.2).bind fun bt242 => (if x3.length < 1466015503701 then (zab.l0 k (x3 ++ [(⟨bt242.1,bt242.2.1,bt242.2.2.1,bt242.2.2.2.1,bt242.2.2.2.2.1⟩ : S114)]) x1000 bt242.2.2.2.2.2.1 bt242.2.2.2.2.2.2) else (none))) else ((zaa.f x1000 bt239.2.1 bt239.2.2 (⟨#[111,117,116]⟩ : ByteArray)).bind fun bt258 => (if bt258.1 = true then ((zan.f k x1000 bt258.2.1 bt258.2.2).bind fun bt261 => (if x3.length < 1466015503701 then (zab.l0 k (x3 ++ [(⟨bt261.1,bt261.2.1,bt261.2.2.1,bt261.2.2.2.1,bt261.2.2.2.2.1⟩ : S114)]) x1000 bt261.2.2.2.2.2.1 bt261.2.2.2.2.2.2) else (none))) else ((zaa.f x1000 bt258.2.1 bt258.2.2 (⟨#[105,102]⟩ : ByteArray)).bind fun bt277 => (if bt277.1 = true then ((zan.f k x1000 bt277.2.1 bt277.2.2).bind fun bt280 => (if x3.length < 1466015503701 then (zab.l0 k (x3 ++ [(⟨bt280.1,bt280.2.1,bt280.2.2.1,bt280.2.2.2.1,bt280.2.2.2.2.1⟩ : S114)]) x1000 bt280.2.2.2.2.2.1 bt280.2.2.2.2.2.2) else (none))) else ((zaa.f x1000 bt277.2.1 bt277.2.2 (⟨#[102,111,114]⟩ : ByteArray)).bind fun bt296 => (if bt296.1 = true then ((zan.f k x1000 bt296.2.1 bt296.2.2).bind fun bt299 => (if x3.length < 1466015503701 then (zab.l0 k (x3 ++ [(⟨bt299.1,bt299.2.1,bt299.2.2.1,bt299.2.2.2.1,bt299.2.2.2.2.1⟩ : S114)]) x1000 bt299.2.2.2.2.2.1 bt299.2.2.2.2.2.2) else (none))) else (some (x3,bt296.2.1,bt296.2.2))))))))))
def zab.f : Nat→List (S92)→Int→Bool→Option ((List (S114)) × Int × Bool)
 | 0,_,_,_ => none
 | k + 1,s0_0,s0_1,s0_2 => zab.l0 k ([] : List (S114)) s0_0 s0_1 s0_2
def zb4.f : Nat→List (S92)→Int→Bool→Option ((List (S114)) × Int × Bool)
 | 0,_,_,_ => none
 | k + 1,s0_0,s0_1,s0_2 => none
def zan.f : Nat→List (S92)→Int→Bool→Option (Int × ByteArray × (List (S117)) × (List (S114)) × (List (S114)) × Int × Bool)
 | 0,_,_,_ => none
 | k + 1,s0_0,s0_1,s0_2 => (zaa.f s0_0 s0_1 s0_2 (⟨#[111,117,116]⟩ : ByteArray)).bind fun bt316 => (if bt316.1 = true then ((zak.f s0_0 bt316.2.1 bt316.2.2 (⟨#[111,117,116]⟩ : ByteArray)).bind fun bt319 => ((zah.f k s0_0 bt319.1 bt319.2).bind fun bt321 => ((zak.f s0_0 bt321.2.2.2.2.2.1 bt321.2.2.2.2.2.2 (⟨#[59]⟩ : ByteArray)).bind fun bt331 => (some (5,(⟨#[]⟩ : ByteArray),(([(⟨bt321.1,bt321.2.1,bt321.2.2.1,bt321.2.2.2.1,bt321.2.2.2.2.1⟩ : S117)] : List (S117))),([] : List (S114)),([] : List (S114)),bt331.1,bt331.2))))) else ((zaa.f s0_0 bt316.2.1 bt316.2.2 (⟨#[105,102]⟩ : ByteArray)).bind fun bt336 => (if bt336.1 = true then (none) else ((zaa.f s0_0 bt336.2.1 bt336.2.2 (⟨#[102,111,114]⟩ : ByteArray)).bind fun bt339 => (if bt339.1 = true then (none) else (none))))))
end
mutual
theorem zab.mono_l : ∀ k,(∀ y0 y1 y2,LeO (zab.f k y0 y1 y2) (zab.f (k + 1) y0 y1 y2))∧(∀ y0 y1 y2 y3,LeO (zab.l0 k y0 y1 y2 y3) (zab.l0 (k + 1) y0 y1 y2 y3))
 | 0 => ⟨fun _ _ _ r h => by simp [zab.f] at h,fun _ _ _ _ r h => by simp [zab.l0] at h⟩
 | k + 1 => by
  have ihm63:=zan.mono_l k;obtain ⟨ih0,ih1⟩:=zab.mono_l k;refine ⟨?_,?_⟩
  ·intro y0 y1 y2
   unfold zab.f
   exact yq149
  ·intro y0 y1 y2 y3
   unfold zab.l0
   exact yq149
theorem zb4.mono_l : ∀ k,(∀ y0 y1 y2,LeO (zb4.f k y0 y1 y2) (zb4.f (k + 1) y0 y1 y2))
 | 0 => fun _ _ _ r h => by simp [zb4.f] at h
 | k + 1 => by
  have ih0:=zb4.mono_l k
  ·intro y0 y1 y2
   unfold zb4.f
   exact yq11
theorem zan.mono_l : ∀ k,(∀ y0 y1 y2,LeO (zan.f k y0 y1 y2) (zan.f (k + 1) y0 y1 y2))
 | 0 => fun _ _ _ r h => by simp [zan.f] at h
 | k + 1 => by
  have ih0:=zan.mono_l k
  ·intro y0 y1 y2
   unfold zan.f
   exact (by repeat' first | with_reducible apply ih0 | with_reducible apply zah.mono | with_reducible apply LeO.refl | with_reducible apply LeO.none | (with_reducible refine LeO.ite ?_ ?_) | (with_reducible refine LeO.bind ?_ (fun _ => ?_)))
end
theorem zab.mono : ∀ a0 a1 a2 k,LeO (zab.f k a0 a1 a2) (zab.f (k + 1) a0 a1 a2):=by
 intro a0 a1 a2 k;obtain ⟨ih0,ih1⟩:=zab.mono_l k;exact ih0 a0 a1 a2
abbrev zab.C (k : Nat) : Prop:=∀ (g : Nat) (s0_0 : List (S92)) (s0_1 : Int) (s0_2 : Bool) (r1 : List (S114)) (r2 : Int) (r3 : Bool) (w0 w : World) (hI : zay w0 w g s0_0 s0_1 s0_2) (hB : Below w0.heap.size w0 w) (h : zab.f k s0_0 s0_1 s0_2 = some (r1,r2,r3)),
  Calls Tryz.prog 43 #[.pointer (some ⟨g,0,none⟩)] w fun e w' => ∃ v0_ : Value,e = .returned (v0_)∧Kd.N k114 114 w' w.heap.size (fun k_ => (w.heap.size≤k_)) v0_ r1∧zay w0 w' g s0_0 r2 r3∧Below w0.heap.size w0 w'∧zaf w w' g none
abbrev zb4.C (k : Nat) : Prop:=∀ (g : Nat) (s0_0 : List (S92)) (s0_1 : Int) (s0_2 : Bool) (r1 : List (S114)) (r2 : Int) (r3 : Bool) (w0 w : World) (hI : zay w0 w g s0_0 s0_1 s0_2) (hB : Below w0.heap.size w0 w) (h : zb4.f k s0_0 s0_1 s0_2 = some (r1,r2,r3)),
  Calls Tryz.prog 75 #[.pointer (some ⟨g,0,none⟩)] w fun e w' => ∃ v0_ : Value,e = .returned (v0_)∧Kd.R k114 114 w' w.heap.size (fun _ => True) v0_ r1∧zay w0 w' g s0_0 r2 r3∧Below w0.heap.size w0 w'∧zaf w w' g none
abbrev zan.C (k : Nat) : Prop:=∀ (g : Nat) (s0_0 : List (S92)) (s0_1 : Int) (s0_2 : Bool) (r1 : Int) (r2 : ByteArray) (r3 : List (S117)) (r4 : List (S114)) (r5 : List (S114)) (r6 : Int) (r7 : Bool) (w0 w : World) (hI : zay w0 w g s0_0 s0_1 s0_2) (hB : Below w0.heap.size w0 w) (h : zan.f k s0_0 s0_1 s0_2 = some (r1,r2,r3,r4,r5,r6,r7)),
  Calls Tryz.prog 63 #[.pointer (some ⟨g,0,none⟩)] w fun e w' => ∃ v2_ v3_ v4_ : Value,e = .returned (.agg #[.int .i64 r1,.string r2,v2_,v3_,v4_])∧Kd.N k117 117 w' w.heap.size (fun k_ => (w.heap.size≤k_)∧some k_≠(v3_ : Value).ownBlock∧some k_≠(v4_ : Value).ownBlock) v2_ r3∧Kd.N k114 114 w' w.heap.size (fun k_ => (w.heap.size≤k_)∧some k_≠(v2_ : Value).ownBlock∧some k_≠(v4_ : Value).ownBlock) v3_ r4∧Kd.N k114 114 w' w.heap.size (fun k_ => (w.heap.size≤k_)∧some k_≠(v2_ : Value).ownBlock∧some k_≠(v3_ : Value).ownBlock) v4_ r5∧zay w0 w' g s0_0 r6 r7∧Below w0.heap.size w0 w'∧zaf w w' g none
end Go.Proofs.YtkgdhdjkpnalmaaGreatDoor.P
end
