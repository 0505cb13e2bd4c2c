/- What is proved here: a part of the proof of ElectionChangedVote: Px0, Px63, Px42. No conditions beside those that each theorem states. -/
import Derived.Test.YtkgdhdjkpnalmaaGreatDoorProg
import Derived.Below
import Derived.Deep.Draws
import Derived.Deep.AppendLies
import Derived.Maps.AppendAt
import Derived.OwnWalk
import Derived.Laws.BytesArg
import Derived.Laws.MakeOwn
import Derived.Laws.OwnMore
import Derived.Deep.OwnRows
import Derived.Tactics
import Derived.Lib.ConvBytes
import Derived.Laws.Slices
import Derived.WalkKit
import Derived.KernelRfl
import Derived.RowKit3
import Derived.Deep.LoopGhost
import Derived.Deep.QuietTactic
import Derived.BigQuiet
import Derived.WideLaws
import Derived.Deep.DeepCutAuto
import Derived.Deep.CutBlock
import Derived.Deep.RegionHeld3
import Derived.Laws.Rows
import Derived.Lib.AppendStr
import Derived.ArgAppend
import Derived.Laws.IdiomCopy
import Derived.OrdersHeld
import Derived.Laws.BitsLemmas
import Derived.RowKit
import Derived.Test.YtkgdhdjkpnalmaaGreatDoorKECVte0
import Derived.Test.YtkgdhdjkpnalmaaGreatDoorKECVte2
import Derived.Test.YtkgdhdjkpnalmaaGreatDoorKECVte3
set_option linter.unusedVariables false
set_option linter.unusedSimpArgs false
section
namespace Go.Proofs.YtkgdhdjkpnalmaaGreatDoor.P
open Go.RowKit Go.Proofs.YtkgdhdjkpnalmaaGreatDoorW.PrintWords Go.Proofs.YtkgdhdjkpnalmaaGreatDoorW.PrintLast Go.Proofs.YtkgdhdjkpnalmaaGreatDoorW.PrintMore
attribute [local go_sem] zcd zca zci zcj zb1 zb2 zcc zcb
def errW : Option Int→Value
 | none => .nilIface
 | some c => .iface 0 (.int .i64 c)
theorem zdp : errW none = .nilIface:=rfl
theorem zdo (c : Int) : errW (some c) = .iface 0 (.int .i64 c):=rfl
theorem info3 : (Tryz.prog.info? 3).map (fun i => (i.zero,i.size,i.bytes)) = some (some (.int .i64 0),1,8):=by kernel_rfl
theorem info9 : (Tryz.prog.info? 9).map (fun i => (i.zero,i.size,i.bytes)) = some (some (.string ⟨#[]⟩),1,16):=by kernel_rfl
theorem info37 : (Tryz.prog.info? 37).map (fun i => (i.zero,i.size,i.bytes)) = some (some (.int .u64 0),1,8):=by kernel_rfl
theorem info50 : (Tryz.prog.info? 50).map (fun i => (i.zero,i.size,i.bytes)) = some (some (.agg #[(.string ⟨#[]⟩),(.int .i64 0),(.int .i64 0),(.int .i64 0)]),4,40):=by kernel_rfl
theorem info92 : (Tryz.prog.info? 92).map (fun i => (i.zero,i.size,i.bytes)) = some (some (.agg #[(.int .i64 0),(.string ⟨#[]⟩),(.int .u64 0),(.int .i64 0)]),4,40):=by kernel_rfl
theorem info114 : (Tryz.prog.info? 114).map (fun i => (i.zero,i.size,i.bytes)) = some (some (.agg #[(.int .i64 0),(.string ⟨#[]⟩),(.slice none 0 0),(.slice none 0 0),(.slice none 0 0)]),5,96):=by kernel_rfl
theorem info155 : (Tryz.prog.info? 155).map (fun i => (i.zero,i.size,i.bytes)) = some (some (.agg #[(.int .i64 0),(.int .i64 0),(.bool false),(.int .u64 0)]),4,32):=by kernel_rfl
structure S92 where
 f0 : Int
 f1 : ByteArray
 f2 : Int
 f3 : Int
def z92 : S92:=⟨(0 : Int),(⟨#[]⟩ : ByteArray),(0 : Int),(0 : Int)⟩
def k92 : Kd S92:=Kd.iso (Kd.pair (Kd.int .i64) (Kd.pair Kd.string (Kd.pair (Kd.int .u64) (Kd.int .i64)))) (fun x : S92 => (x.f0,x.f1,x.f2,x.f3))
theorem k92_open {w : World} {x : S92} {cs : List Value} (h : k92.K w x cs) : cs = [.int .i64 x.f0,.string x.f1,.int .u64 x.f2,.int .i64 x.f3]:=by
 obtain ⟨_,_,rfl,rfl,⟨_,_,rfl,rfl,⟨_,_,rfl,rfl,rfl⟩⟩⟩:=h;exact rfl
theorem k92_mkM (w : World) (base : Nat) (ok : Nat→Prop) (x : S92)  : k92.M w base ok x [.int .i64 x.f0,.string x.f1,.int .u64 x.f2,.int .i64 x.f3]:=⟨[.int .i64 x.f0],[.string x.f1,.int .u64 x.f2,.int .i64 x.f3],rfl,rfl,⟨[.string x.f1],[.int .u64 x.f2,.int .i64 x.f3],rfl,rfl,⟨[.int .u64 x.f2],[.int .i64 x.f3],rfl,rfl,rfl⟩⟩⟩
def zcz (xs : List S92) (i : Int) : S92:=xs.getD i.toNat z92
theorem at_T92 {w : World} {A : Option Addr} {n : Nat} {xs : List S92} (h : Kd.C k92 w A n xs) (i : Int) (h0 : 0≤i) (h1 : i < n) : ∃ ad ,A = some ad∧w.cell? (ad.add (i.toNat * 4)) = some (.int .i64 (zcz xs i).f0)∧w.cell? ⟨(ad.add (i.toNat * 4)).block,(ad.add (i.toNat * 4)).off + 1,none⟩ = some (.string (zcz xs i).f1)∧w.cell? ⟨(ad.add (i.toNat * 4)).block,(ad.add (i.toNat * 4)).off + 2,none⟩ = some (.int .u64 (zcz xs i).f2)∧w.cell? ⟨(ad.add (i.toNat * 4)).block,(ad.add (i.toNat * 4)).off + 3,none⟩ = some (.int .i64 (zcz xs i).f3):=by
 obtain ⟨ad,c,e,_,hK,hc0⟩:=Kd.C_get h z92 i h0 h1;have hc : ∀ j u,c[j]? = some u→w.cell? (ad.add (i.toNat * 4 + j)) = some u:=hc0;obtain rfl:=k92_open hK;exact ⟨ad,e,hc 0 _ rfl,yq176,yq175,yq174⟩
structure S117 where
 f0 : Int
 f1 : Int
 f2 : Int
 f3 : ByteArray
 f4 : (List S117)
def z117 : S117:=⟨(0 : Int),(0 : Int),(0 : Int),(⟨#[]⟩ : ByteArray),([] : List S117)⟩
def F117 (d : Kd S117) : Kd S117:=Kd.iso (Kd.pair (Kd.int .i64) (Kd.pair (Kd.int .i64) (Kd.pair (Kd.int .u64) (Kd.pair Kd.string (Kd.slice 117 d))))) (fun x : S117 => (x.f0,x.f1,x.f2,x.f3,x.f4))
theorem mono117 : Kd.Mono F117:=Kd.mono_iso _ (Kd.mono_pair (Kd.mono_const _) (Kd.mono_pair (Kd.mono_const _) (Kd.mono_pair (Kd.mono_const _) (Kd.mono_pair (Kd.mono_const _) (Kd.mono_slice 117 Kd.mono_id)))))
theorem sub117 : Kd.Sub F117 [117]:=Kd.sub_iso _ (Kd.sub_pair (Kd.sub_const _ (by decide)) (Kd.sub_pair (Kd.sub_const _ (by decide)) (Kd.sub_pair (Kd.sub_const _ (by decide)) (Kd.sub_pair (Kd.sub_const _ (by decide)) (Kd.sub_slice 117 (by decide) Kd.sub_id)))))
theorem sz117 : ∀ n,(Kd.upto F117 5 [117] n).sz = 5:=Kd.upto_sz (fun _ => rfl)
def k117 : Kd S117:=Kd.fix F117 5 [117] sz117 (Kd.upto_E sub117)
theorem k117_open {w : World} {x : S117} {cs : List Value} (h : k117.K w x cs) : ∃ A4 c4,cs = [.int .i64 x.f0,.int .i64 x.f1,.int .u64 x.f2,.string x.f3,.slice A4 x.f4.length c4]∧x.f4.length≤c4∧k117.C w A4 x.f4.length x.f4:=by
 obtain ⟨n,h⟩:=h
 cases n with
 | zero => exact h.elim
 | succ n =>
  obtain ⟨_,_,rfl,rfl,⟨_,_,rfl,rfl,⟨_,_,rfl,rfl,⟨_,_,rfl,rfl,⟨A4,c4,rfl,l4,g4⟩⟩⟩⟩⟩:=h;exact ⟨A4,c4,rfl,l4,Kd.fix_C g4⟩
theorem k117_mk (w : World) (x : S117) {A4 : Option Addr} {c4 : Nat} (l4 : x.f4.length≤c4) (g4 : k117.C w A4 x.f4.length x.f4) : k117.K w x [.int .i64 x.f0,.int .i64 x.f1,.int .u64 x.f2,.string x.f3,.slice A4 x.f4.length c4]:=by
 obtain ⟨n4,q4⟩:=Kd.fix_C_back mono117 g4;have r4:=Kd.upto_C_le mono117 sz117 (show n4≤n4 by omega) q4;exact ⟨n4 + 1,⟨[.int .i64 x.f0],[.int .i64 x.f1,.int .u64 x.f2,.string x.f3,.slice A4 x.f4.length c4],rfl,rfl,⟨[.int .i64 x.f1],[.int .u64 x.f2,.string x.f3,.slice A4 x.f4.length c4],rfl,rfl,⟨[.int .u64 x.f2],[.string x.f3,.slice A4 x.f4.length c4],rfl,rfl,⟨[.string x.f3],[.slice A4 x.f4.length c4],rfl,rfl,⟨A4,c4,rfl,l4,r4⟩⟩⟩⟩⟩⟩
theorem k117_mkF (W : World) (ok : Nat→Prop) (x : S117) {A4 : Option Addr} {c4 : Nat} (l4 : x.f4.length≤c4) (g4 : Kd.F k117 W ok A4 x.f4.length x.f4) : Kd.FK k117 W ok x [.int .i64 x.f0,.int .i64 x.f1,.int .u64 x.f2,.string x.f3,.slice A4 x.f4.length c4]:=fun W2 hW => k117_mk W2 x l4 (g4 W2 hW)
def zad (xs : List S117) (i : Int) : S117:=xs.getD i.toNat z117
theorem zea {w : World} {A : Option Addr} {n : Nat} {xs : List S117} (h : Kd.C k117 w A n xs) (i : Int) (h0 : 0≤i) (h1 : i < n) : ∃ ad A4 c4,A = some ad∧w.cell? (ad.add (i.toNat * 5)) = some (.int .i64 (zad xs i).f0)∧w.cell? ⟨(ad.add (i.toNat * 5)).block,(ad.add (i.toNat * 5)).off + 1,none⟩ = some (.int .i64 (zad xs i).f1)∧w.cell? ⟨(ad.add (i.toNat * 5)).block,(ad.add (i.toNat * 5)).off + 2,none⟩ = some (.int .u64 (zad xs i).f2)∧w.cell? ⟨(ad.add (i.toNat * 5)).block,(ad.add (i.toNat * 5)).off + 3,none⟩ = some (.string (zad xs i).f3)∧w.cell? ⟨(ad.add (i.toNat * 5)).block,(ad.add (i.toNat * 5)).off + 4,none⟩ = some (.slice A4 (zad xs i).f4.length c4)∧(zad xs i).f4.length≤c4∧k117.C w A4 (zad xs i).f4.length (zad xs i).f4:=by
 obtain ⟨ad,c,e,_,hK,hc0⟩:=Kd.C_get h z117 i h0 h1;have hc : ∀ j u,c[j]? = some u→w.cell? (ad.add (i.toNat * 5 + j)) = some u:=hc0;obtain ⟨A4,c4,rfl,l4,g4⟩:=k117_open hK;exact ⟨ad,A4,c4,e,hc 0 _ rfl,yq176,yq175,yq174,by rw [← add_field _ _ 4 (by omega)];exact hc 4 _ rfl,l4,g4⟩
structure S114 where
 f0 : Int
 f1 : ByteArray
 f2 : (List S117)
 f3 : (List S114)
 f4 : (List S114)
def z114 : S114:=⟨(0 : Int),(⟨#[]⟩ : ByteArray),([] : List S117),([] : List S114),([] : List S114)⟩
def F114 (d : Kd S114) : Kd S114:=Kd.iso (Kd.pair (Kd.int .i64) (Kd.pair Kd.string (Kd.pair (Kd.slice 117 k117) (Kd.pair (Kd.slice 114 d) (Kd.slice 114 d))))) (fun x : S114 => (x.f0,x.f1,x.f2,x.f3,x.f4))
theorem mono114 : Kd.Mono F114:=Kd.mono_iso _ (Kd.mono_pair (Kd.mono_const _) (Kd.mono_pair (Kd.mono_const _) (Kd.mono_pair (Kd.mono_const _) (Kd.mono_pair (Kd.mono_slice 114 Kd.mono_id) (Kd.mono_slice 114 Kd.mono_id)))))
theorem sub114 : Kd.Sub F114 [114,117]:=Kd.sub_iso _ (Kd.sub_pair (Kd.sub_const _ (by decide)) (Kd.sub_pair (Kd.sub_const _ (by decide)) (Kd.sub_pair (Kd.sub_const _ (by decide)) (Kd.sub_pair (Kd.sub_slice 114 (by decide) Kd.sub_id) (Kd.sub_slice 114 (by decide) Kd.sub_id)))))
theorem sz114 : ∀ n,(Kd.upto F114 5 [114,117] n).sz = 5:=Kd.upto_sz (fun _ => rfl)
def k114 : Kd S114:=Kd.fix F114 5 [114,117] sz114 (Kd.upto_E sub114)
theorem k114_open {w : World} {x : S114} {cs : List Value} (h : k114.K w x cs) : ∃ A2 c2 A3 c3 A4 c4,cs = [.int .i64 x.f0,.string x.f1,.slice A2 x.f2.length c2,.slice A3 x.f3.length c3,.slice A4 x.f4.length c4]∧x.f2.length≤c2∧k117.C w A2 x.f2.length x.f2∧x.f3.length≤c3∧k114.C w A3 x.f3.length x.f3∧x.f4.length≤c4∧k114.C w A4 x.f4.length x.f4:=by
 obtain ⟨n,h⟩:=h
 cases n with
 | zero => exact h.elim
 | succ n =>
  obtain ⟨_,_,rfl,rfl,⟨_,_,rfl,rfl,⟨_,_,rfl,⟨A2,c2,rfl,l2,g2⟩,⟨_,_,rfl,⟨A3,c3,rfl,l3,g3⟩,⟨A4,c4,rfl,l4,g4⟩⟩⟩⟩⟩:=h;exact ⟨A2,c2,A3,c3,A4,c4,rfl,l2,g2,l3,Kd.fix_C g3,l4,Kd.fix_C g4⟩
theorem k114_mk (w : World) (x : S114) {A2 : Option Addr} {c2 : Nat} (l2 : x.f2.length≤c2) (g2 : k117.C w A2 x.f2.length x.f2) {A3 : Option Addr} {c3 : Nat} (l3 : x.f3.length≤c3) (g3 : k114.C w A3 x.f3.length x.f3) {A4 : Option Addr} {c4 : Nat} (l4 : x.f4.length≤c4) (g4 : k114.C w A4 x.f4.length x.f4) : k114.K w x [.int .i64 x.f0,.string x.f1,.slice A2 x.f2.length c2,.slice A3 x.f3.length c3,.slice A4 x.f4.length c4]:=by
 obtain ⟨n3,q3⟩:=Kd.fix_C_back mono114 g3;obtain ⟨n4,q4⟩:=Kd.fix_C_back mono114 g4;have r3:=Kd.upto_C_le mono114 sz114 (show n3≤(max n3 n4) by omega) q3;have r4:=Kd.upto_C_le mono114 sz114 (show n4≤(max n3 n4) by omega) q4;exact ⟨(max n3 n4) + 1,⟨[.int .i64 x.f0],[.string x.f1,.slice A2 x.f2.length c2,.slice A3 x.f3.length c3,.slice A4 x.f4.length c4],rfl,rfl,⟨[.string x.f1],[.slice A2 x.f2.length c2,.slice A3 x.f3.length c3,.slice A4 x.f4.length c4],rfl,rfl,⟨[.slice A2 x.f2.length c2],[.slice A3 x.f3.length c3,.slice A4 x.f4.length c4],rfl,⟨A2,c2,rfl,l2,g2⟩,⟨[.slice A3 x.f3.length c3],[.slice A4 x.f4.length c4],rfl,⟨A3,c3,rfl,l3,r3⟩,⟨A4,c4,rfl,l4,r4⟩⟩⟩⟩⟩⟩
theorem k114_mkF (W : World) (ok : Nat→Prop) (x : S114) {A2 : Option Addr} {c2 : Nat} (l2 : x.f2.length≤c2) (g2 : Kd.F k117 W ok A2 x.f2.length x.f2) {A3 : Option Addr} {c3 : Nat} (l3 : x.f3.length≤c3) (g3 : Kd.F k114 W ok A3 x.f3.length x.f3) {A4 : Option Addr} {c4 : Nat} (l4 : x.f4.length≤c4) (g4 : Kd.F k114 W ok A4 x.f4.length x.f4) : Kd.FK k114 W ok x [.int .i64 x.f0,.string x.f1,.slice A2 x.f2.length c2,.slice A3 x.f3.length c3,.slice A4 x.f4.length c4]:=fun W2 hW => k114_mk W2 x l2 (g2 W2 hW) l3 (g3 W2 hW) l4 (g4 W2 hW)
def zbe (xs : List S114) (i : Int) : S114:=xs.getD i.toNat z114
theorem at_T114 {w : World} {A : Option Addr} {n : Nat} {xs : List S114} (h : Kd.C k114 w A n xs) (i : Int) (h0 : 0≤i) (h1 : i < n) : ∃ ad A2 c2 A3 c3 A4 c4,A = some ad∧w.cell? (ad.add (i.toNat * 5)) = some (.int .i64 (zbe xs i).f0)∧w.cell? ⟨(ad.add (i.toNat * 5)).block,(ad.add (i.toNat * 5)).off + 1,none⟩ = some (.string (zbe xs i).f1)∧w.cell? ⟨(ad.add (i.toNat * 5)).block,(ad.add (i.toNat * 5)).off + 2,none⟩ = some (.slice A2 (zbe xs i).f2.length c2)∧w.cell? ⟨(ad.add (i.toNat * 5)).block,(ad.add (i.toNat * 5)).off + 3,none⟩ = some (.slice A3 (zbe xs i).f3.length c3)∧w.cell? ⟨(ad.add (i.toNat * 5)).block,(ad.add (i.toNat * 5)).off + 4,none⟩ = some (.slice A4 (zbe xs i).f4.length c4)∧(zbe xs i).f2.length≤c2∧k117.C w A2 (zbe xs i).f2.length (zbe xs i).f2∧(zbe xs i).f3.length≤c3∧k114.C w A3 (zbe xs i).f3.length (zbe xs i).f3∧(zbe xs i).f4.length≤c4∧k114.C w A4 (zbe xs i).f4.length (zbe xs i).f4:=by
 obtain ⟨ad,c,e,_,hK,hc0⟩:=Kd.C_get h z114 i h0 h1;have hc : ∀ j u,c[j]? = some u→w.cell? (ad.add (i.toNat * 5 + j)) = some u:=hc0;obtain ⟨A2,c2,A3,c3,A4,c4,rfl,l2,g2,l3,g3,l4,g4⟩:=k114_open hK;exact ⟨ad,A2,c2,A3,c3,A4,c4,e,hc 0 _ rfl,yq176,yq175,yq174,by rw [← add_field _ _ 4 (by omega)];exact hc 4 _ rfl,l2,g2,l3,g3,l4,g4⟩
structure S50 where
 f0 : ByteArray
 f1 : Int
 f2 : Int
 f3 : Int
def z50 : S50:=⟨(⟨#[]⟩ : ByteArray),(0 : Int),(0 : Int),(0 : Int)⟩
def k50 : Kd S50:=Kd.iso (Kd.pair Kd.string (Kd.pair (Kd.int .i64) (Kd.pair (Kd.int .i64) (Kd.int .i64)))) (fun x : S50 => (x.f0,x.f1,x.f2,x.f3))
theorem k50_open {w : World} {x : S50} {cs : List Value} (h : k50.K w x cs) : cs = [.string x.f0,.int .i64 x.f1,.int .i64 x.f2,.int .i64 x.f3]:=by
 obtain ⟨_,_,rfl,rfl,⟨_,_,rfl,rfl,⟨_,_,rfl,rfl,rfl⟩⟩⟩:=h;exact rfl
theorem k50_mkM (w : World) (base : Nat) (ok : Nat→Prop) (x : S50)  : k50.M w base ok x [.string x.f0,.int .i64 x.f1,.int .i64 x.f2,.int .i64 x.f3]:=⟨[.string x.f0],[.int .i64 x.f1,.int .i64 x.f2,.int .i64 x.f3],rfl,rfl,⟨[.int .i64 x.f1],[.int .i64 x.f2,.int .i64 x.f3],rfl,rfl,⟨[.int .i64 x.f2],[.int .i64 x.f3],rfl,rfl,rfl⟩⟩⟩
def zaq (xs : List S50) (i : Int) : S50:=xs.getD i.toNat z50
theorem at_T50 {w : World} {A : Option Addr} {n : Nat} {xs : List S50} (h : Kd.C k50 w A n xs) (i : Int) (h0 : 0≤i) (h1 : i < n) : ∃ ad ,A = some ad∧w.cell? (ad.add (i.toNat * 4)) = some (.string (zaq xs i).f0)∧w.cell? ⟨(ad.add (i.toNat * 4)).block,(ad.add (i.toNat * 4)).off + 1,none⟩ = some (.int .i64 (zaq xs i).f1)∧w.cell? ⟨(ad.add (i.toNat * 4)).block,(ad.add (i.toNat * 4)).off + 2,none⟩ = some (.int .i64 (zaq xs i).f2)∧w.cell? ⟨(ad.add (i.toNat * 4)).block,(ad.add (i.toNat * 4)).off + 3,none⟩ = some (.int .i64 (zaq xs i).f3):=by
 obtain ⟨ad,c,e,_,hK,hc0⟩:=Kd.C_get h z50 i h0 h1;have hc : ∀ j u,c[j]? = some u→w.cell? (ad.add (i.toNat * 4 + j)) = some u:=hc0;obtain rfl:=k50_open hK;exact ⟨ad,e,hc 0 _ rfl,yq176,yq175,yq174⟩
structure S87 where
 f0 : ByteArray
 f1 : Int
def k87 : Kd S87:=Kd.iso (Kd.pair Kd.string (Kd.int .i64)) (fun x : S87 => (x.f0,x.f1))
structure S155 where
 f0 : Int
 f1 : Int
 f2 : Bool
 f3 : Int
def z155 : S155:=⟨(0 : Int),(0 : Int),false,(0 : Int)⟩
def k155 : Kd S155:=Kd.iso (Kd.pair (Kd.int .i64) (Kd.pair (Kd.int .i64) (Kd.pair Kd.bool (Kd.int .u64)))) (fun x : S155 => (x.f0,x.f1,x.f2,x.f3))
theorem k155_open {w : World} {x : S155} {cs : List Value} (h : k155.K w x cs) : cs = [.int .i64 x.f0,.int .i64 x.f1,.bool x.f2,.int .u64 x.f3]:=by
 obtain ⟨_,_,rfl,rfl,⟨_,_,rfl,rfl,⟨_,_,rfl,rfl,rfl⟩⟩⟩:=h;exact rfl
theorem k155_mkM (w : World) (base : Nat) (ok : Nat→Prop) (x : S155)  : k155.M w base ok x [.int .i64 x.f0,.int .i64 x.f1,.bool x.f2,.int .u64 x.f3]:=⟨[.int .i64 x.f0],[.int .i64 x.f1,.bool x.f2,.int .u64 x.f3],rfl,rfl,⟨[.int .i64 x.f1],[.bool x.f2,.int .u64 x.f3],rfl,rfl,⟨[.bool x.f2],[.int .u64 x.f3],rfl,rfl,rfl⟩⟩⟩
def zbx (xs : List S155) (i : Int) : S155:=xs.getD i.toNat z155
theorem at_T155 {w : World} {A : Option Addr} {n : Nat} {xs : List S155} (h : Kd.C k155 w A n xs) (i : Int) (h0 : 0≤i) (h1 : i < n) : ∃ ad ,A = some ad∧w.cell? (ad.add (i.toNat * 4)) = some (.int .i64 (zbx xs i).f0)∧w.cell? ⟨(ad.add (i.toNat * 4)).block,(ad.add (i.toNat * 4)).off + 1,none⟩ = some (.int .i64 (zbx xs i).f1)∧w.cell? ⟨(ad.add (i.toNat * 4)).block,(ad.add (i.toNat * 4)).off + 2,none⟩ = some (.bool (zbx xs i).f2)∧w.cell? ⟨(ad.add (i.toNat * 4)).block,(ad.add (i.toNat * 4)).off + 3,none⟩ = some (.int .u64 (zbx xs i).f3):=by
 obtain ⟨ad,c,e,_,hK,hc0⟩:=Kd.C_get h z155 i h0 h1;have hc : ∀ j u,c[j]? = some u→w.cell? (ad.add (i.toNat * 4 + j)) = some u:=hc0;obtain rfl:=k155_open hK;exact ⟨ad,e,hc 0 _ rfl,yq176,yq175,yq174⟩
structure S158 where
 f0 : ByteArray
 f1 : S155
def k158 : Kd S158:=Kd.iso (Kd.pair Kd.string k155) (fun x : S158 => (x.f0,x.f1))
def zdr (xs : List (List Int)) (i : Int) : (List Int):=xs.getD i.toNat ([] : List Int)
theorem at_L14 {w : World} {A : Option Addr} {n : Nat} {xs : List (List Int)} (h : Kd.C (Kd.slice 37 (Kd.int .u64)) w A n xs) (i : Int) (h0 : 0≤i) (h1 : i < n) : ∃ ad A0 c0,A = some ad∧w.cell? (ad.add i.toNat) = some (.slice A0 (zdr xs i).length c0)∧(zdr xs i).length≤c0∧(Kd.int .u64).C w A0 (zdr xs i).length (zdr xs i):=by
 obtain ⟨ad,c,e,_,hK,hc0⟩:=Kd.C_get h ([] : List Int) i h0 h1;have hc : ∀ j u,c[j]? = some u→w.cell? (ad.add (i.toNat * 1 + j)) = some u:=hc0;obtain ⟨A0,c0,rfl,l0,g0⟩:=hK;exact ⟨ad,A0,c0,e,by have hq:=hc 0 _ rfl;rwa [Nat.mul_one,Nat.add_zero] at hq,l0,g0⟩
def zdx.f (a0 : Bool) : Option (Int):=if a0 = true then (some 1) else (some 0)
set_option maxHeartbeats 8000000 in
set_option maxRecDepth 100000 in
theorem zdx.calls (a0 : Bool) (r : Int) (w : World) (h : zdx.f a0 = some r) :
  Calls Tryz.prog 80 #[.bool a0] w fun e w' => e = .returned (.int .u64 r)∧zdl w w':=by
 have H : (if a0 = true then (some 1) else (some 0)) = some r:=h;clear h
 by_cases c2 : a0 = true
 ·subst c2
  have H1 : (some 1) = some r:=yq36
  clear H;have H:=H1;clear H1;obtain rfl:=Option.some.inj H;go_enter Tryz.func80,Tryz.ntmps80;go_wp2;go_ret;exact ⟨yq6,yq17⟩
 ·replace c2:=Bool.eq_false_iff.mpr c2
  subst c2
  have H1 : (some 0) = some r:=yq12
  clear H;have H:=H1;clear H1;obtain rfl:=Option.some.inj H;go_enter Tryz.func80,Tryz.ntmps80;go_wp2;go_ret;exact ⟨yq6,yq17⟩
def zd3.f (a0 : Int) (a1 : Int) (a2 : Int) : Option (Int):=if a0 = 1 then (some (IntKind.u64.wrap (a1 + a2))) else (if a0 = 2 then (none) else (if a0 = 3 then (none) else (if a0 = 4 then (none) else (if a0 = 5 then ((zdx.f (a1 == a2)).bind fun t611 => (some t611)) else (if a0 = 6 then (none) else (none))))))
set_option maxHeartbeats 8000000 in
set_option maxRecDepth 100000 in
theorem zd3.calls (a0 : Int) (a1 : Int) (a2 : Int) (r : Int) (w : World) (h : zd3.f a0 a1 a2 = some r) :
  Calls Tryz.prog 69 #[.int .i64 a0,.int .u64 a1,.int .u64 a2] w fun e w' => e = .returned (.int .u64 r)∧zdl w w':=by
 have H : (if a0 = 1 then (some (IntKind.u64.wrap (a1 + a2))) else (if a0 = 2 then (none) else (if a0 = 3 then (none) else (if a0 = 4 then (none) else (if a0 = 5 then ((zdx.f (a1 == a2)).bind fun t611 => (some t611)) else (if a0 = 6 then (none) else (none))))))) = some r:=h;clear h
 by_cases c4 : a0 = 1
 ·rw [if_pos c4] at H
  have c4b0 : (a0 == 1) = true:=beq_iff_eq.mpr c4;have c4b1 : (a0 != 1) = false:=bne_eq_false_iff_eq.mpr c4;clear c4;obtain rfl:=Option.some.inj H;go_enter Tryz.func69,Tryz.ntmps69;go_wp2;go_ret;exact ⟨yq6,yq17⟩
 ·rw [if_neg c4] at H
  have c4b0 : (a0 == 1) = false:=beq_eq_false_iff_ne.mpr c4;have c4b1 : (a0 != 1) = true:=bne_iff_ne.mpr c4
  by_cases c5 : a0 = 2
  ·rw [if_pos c5] at H
   exact absurd H (by simp)
  ·rw [if_neg c5] at H
   have c5b0 : (a0 == 2) = false:=beq_eq_false_iff_ne.mpr c5;have c5b1 : (a0 != 2) = true:=bne_iff_ne.mpr c5
   by_cases c6 : a0 = 3
   ·rw [if_pos c6] at H
    exact absurd H (by simp)
   ·rw [if_neg c6] at H
    have c6b0 : (a0 == 3) = false:=beq_eq_false_iff_ne.mpr c6;have c6b1 : (a0 != 3) = true:=bne_iff_ne.mpr c6
    by_cases c7 : a0 = 4
    ·rw [if_pos c7] at H
     exact absurd H (by simp)
    ·rw [if_neg c7] at H
     have c7b0 : (a0 == 4) = false:=beq_eq_false_iff_ne.mpr c7;have c7b1 : (a0 != 4) = true:=bne_iff_ne.mpr c7
     by_cases c8 : a0 = 5
     ·rw [if_pos c8] at H
      have c8b0 : (a0 == 5) = true:=beq_iff_eq.mpr c8;have c8b1 : (a0 != 5) = false:=bne_eq_false_iff_eq.mpr c8;clear c8;replace H:=Option.bind_eq_some_iff.mp H;obtain ⟨t611,A90,H⟩:=H;replace H : (some t611) = some r:=H;have A9:=zA0 A90;clear A90;obtain rfl:=Option.some.inj H;go_enter Tryz.func69,Tryz.ntmps69
      go_wp2_with (first | ((with_reducible refine zav (f:=80) rfl ?_);refine zcf (some 37) rfl rfl Tryz.func80 (by kernel_rfl) rfl #[.bool (a1 == a2)] rfl zt ?_;(with_reducible refine (zdx.calls (a1 == a2) t611 _ A9.out).mono ?_);rintro e w' ⟨rfl,⟨nd,rfl⟩⟩;refine ⟨_,rfl,?_⟩))
      go_ret;exact ⟨yq6,yq17⟩
     ·rw [if_neg c8] at H
      have c8b0 : (a0 == 5) = false:=beq_eq_false_iff_ne.mpr c8;have c8b1 : (a0 != 5) = true:=bne_iff_ne.mpr c8
      by_cases c10 : a0 = 6
      ·rw [if_pos c10] at H
       exact absurd H (by simp)
      ·rw [if_neg c10] at H
       exact absurd H (by simp)
def zdw.f (a0_0 : Int) (a0_1 : Int) : Option (Int × Int):=some (wrap64 (4 + (Int.tmod (wrap64 (a0_0)) 10)),wrap64 (2 + (Int.tmod (wrap64 (a0_1)) 7)))
set_option maxHeartbeats 8000000 in
set_option maxRecDepth 100000 in
theorem zdw.calls (a0_0 : Int) (a0_1 : Int) (r1 : Int) (r2 : Int) (w : World) (h : zdw.f a0_0 a0_1 = some (r1,r2)) :
  Calls Tryz.prog 7 #[.agg #[.int .u8 a0_0,.int .u8 a0_1]] w fun e w' => e = .returned (.tuple #[.int .i64 r1,.int .i64 r2])∧Below w.heap.size w w':=by
 have hu22:=Tryz.underlying22;have HB:=zA0 (Below.refl w.heap.size w);have H : (some (wrap64 (4 + (Int.tmod (wrap64 (a0_0)) 10)),wrap64 (2 + (Int.tmod (wrap64 (a0_1)) 7)))) = some (r1,r2):=h;clear h;simp only [Option.some.injEq,Prod.mk.injEq] at H;obtain ⟨rfl,rfl⟩:=H;go_enter Tryz.func7,Tryz.ntmps7
 go_wp2_with (first | ((with_reducible refine zbm (N:=1) rfl ?_);refine zbk ?hg (N:=1) ?hd (cs:=#[.int .u8 a0_0,.int .u8 a0_1]) (t:=22) ?hr ?_;(case hd => rfl);(case hg => rfl);(case hr => first | (go_simp;done) | (go_simp;rfl));intro gb612 hg w2 hbox hb;have n0_:=zA0 (zaj (zs0 HB) hb);have n1_:=zA0 (hbox);have n2_:=zA0 ((yq30 : w.heap.size≤gb612));have n3_:=zA0 ((yq30 : w.heap.size≤gb612));clear HB;revert n0_ n1_ n2_ n3_;intro HB BK612 GW612 GE612;clear hb hbox hg;obtain ⟨hcz3_0,hcz3_1⟩:=zc2 BK612.out;obtain ⟨hfz3_0,hfz3_1⟩:=zf2 BK612.out))
 repeat (go_quiet (first | ((with_reducible refine zbm (N:=1) rfl ?_);refine zbk ?hg (N:=1) ?hd (cs:=#[.int .u8 a0_0,.int .u8 a0_1]) (t:=22) ?hr ?_;(case hd => rfl);(case hg => rfl);(case hr => first | (go_simp;done) | (go_simp;rfl));intro gb612 hg w2 hbox hb;have n0_:=zA0 (zaj (zs0 HB) hb);have n1_:=zA0 (hbox);have n2_:=zA0 ((yq30 : w.heap.size≤gb612));have n3_:=zA0 ((yq30 : w.heap.size≤gb612));clear HB;revert n0_ n1_ n2_ n3_;intro HB BK612 GW612 GE612;clear hb hbox hg;obtain ⟨hcz3_0,hcz3_1⟩:=zc2 BK612.out;obtain ⟨hfz3_0,hfz3_1⟩:=zf2 BK612.out));try go_wp2_with (first | ((with_reducible refine zbm (N:=1) rfl ?_);refine zbk ?hg (N:=1) ?hd (cs:=#[.int .u8 a0_0,.int .u8 a0_1]) (t:=22) ?hr ?_;(case hd => rfl);(case hg => rfl);(case hr => first | (go_simp;done) | (go_simp;rfl));intro gb612 hg w2 hbox hb;have n0_:=zA0 (zaj (zs0 HB) hb);have n1_:=zA0 (hbox);have n2_:=zA0 ((yq30 : w.heap.size≤gb612));have n3_:=zA0 ((yq30 : w.heap.size≤gb612));clear HB;revert n0_ n1_ n2_ n3_;intro HB BK612 GW612 GE612;clear hb hbox hg;obtain ⟨hcz3_0,hcz3_1⟩:=zc2 BK612.out;obtain ⟨hfz3_0,hfz3_1⟩:=zf2 BK612.out)))
 go_ret2
 exact ⟨yq7,by first | exact zs1 HB GE612 | exact zs0 HB⟩
def zbd.l0 : Nat→Int→Int→Option (Int)
 | 0,_,_ => none
 | k + 1,x0,x3 => if x0 > 1 then (zbd.l0 k (IntKind.u64.wrap (Int.tdiv x0 2)) (wrap64 (x3 + 1))) else (some x3)
def zbd.f (k : Nat) (a0 : Int) : Option (Int):=zbd.l0 k a0 1
theorem zbd.mono_l : ∀ k,(∀ y0 y1,LeO (zbd.l0 k y0 y1) (zbd.l0 (k + 1) y0 y1))
 | 0 => fun _ _ r h => by simp [zbd.l0] at h
 | k + 1 => by
  have ih0:=zbd.mono_l k
  ·intro y0 y1
   unfold zbd.l0
   exact yq11
theorem zbd.mono : ∀ a0 k,LeO (zbd.f k a0) (zbd.f (k + 1) a0):=by
 intro a0 k;have ih0:=zbd.mono_l k;unfold zbd.f
 exact yq11
set_option maxHeartbeats 8000000 in
set_option maxRecDepth 100000 in
theorem zbd.calls (k : Nat) (a0 : Int) (r : Int) (w : World) (h : zbd.f k a0 = some r) :
  Calls Tryz.prog 18 #[.int .u64 a0] w fun e w' => e = .returned (.int .i64 r)∧zdl w w':=by
 have H : (zbd.l0 k a0 1) = some r:=h;clear h;have H':=zA0 H;clear H;go_enter Tryz.func18,Tryz.ntmps18;go_wp2
 go_loopg [0,3] k (fun kq v0 v3 w' => ∃ (x0_1 : Int) (x3_1 : Int),v0 = .int .u64 x0_1∧v3 = .int .i64 x3_1∧Aside0 (zbd.l0 kq x0_1 x3_1 = some r)∧Aside0 (kq≤k)∧zdl w w')
 case atStart => exact ⟨(a0),(1),yq6,yq6,H',⟨Nat.le_refl _⟩,yq17⟩
 case round =>
  clear H';obtain ⟨x0_1,x3_1,rfl,rfl,HA,HK1,⟨m1,rfl⟩⟩:=hrel
  cases gk with
  | zero => exact absurd HA.out (by simp [zbd.l0])
  | succ k1 =>
   have H:=HA.out;clear HA;simp only [zbd.l0] at H
   by_cases c2 : x0_1 > 1
   ·rw [if_pos c2] at H
    have c2b0 : decide (1 < x0_1) = true:=decide_eq_true c2;clear c2;have H':=zA0 H;clear H;go_wp2
    go_roundg k1
    case measure => have:=HK1.out;omega
    case rel => exact ⟨(IntKind.u64.wrap (Int.tdiv x0_1 2)),(wrap64 (x3_1 + 1)),yq6,yq6,H',⟨yq95⟩,yq17⟩
   ·rw [if_neg c2] at H
    have c2b0 : decide (1 < x0_1) = false:=decide_eq_false c2;clear c2;obtain rfl:=Option.some.inj H;go_wp2;go_ret;exact ⟨yq6,yq17⟩
def zda.f (k : Nat) (a0 : Int) : Option (Int × Int × Bool × Int):=(zbd.f k a0).bind fun t482 => (some (1,t482,true,a0))
theorem zda.mono : ∀ a0 k,LeO (zda.f k a0) (zda.f (k + 1) a0):=by
 intro a0 k;unfold zda.f
 exact (by repeat' first | with_reducible apply zbd.mono | with_reducible apply LeO.refl | with_reducible apply LeO.none | (with_reducible refine LeO.ite ?_ ?_) | (with_reducible refine LeO.bind ?_ (fun _ => ?_)))
set_option maxHeartbeats 8000000 in
set_option maxRecDepth 100000 in
theorem zda.calls (k : Nat) (a0 : Int) (r1 : Int) (r2 : Int) (r3 : Bool) (r4 : Int) (w : World) (h : zda.f k a0 = some (r1,r2,r3,r4)) :
  Calls Tryz.prog 109 #[.int .u64 a0] w fun e w' => e = .returned (.agg #[.int .i64 r1,.int .i64 r2,.bool r3,.int .u64 r4])∧Below w.heap.size w w':=by
 have hu155:=Tryz.underlying155;have HB:=zA0 (Below.refl w.heap.size w);have H : ((zbd.f k a0).bind fun t482 => (some (1,t482,true,a0))) = some (r1,r2,r3,r4):=h;clear h;replace H:=Option.bind_eq_some_iff.mp H;obtain ⟨t482,A20,H⟩:=H;replace H : (some (1,t482,true,a0)) = some (r1,r2,r3,r4):=H;have A2:=zA0 A20;clear A20;simp only [Option.some.injEq,Prod.mk.injEq] at H;obtain ⟨rfl,rfl,rfl,rfl⟩:=H;go_enter Tryz.func109,Tryz.ntmps109
 go_wp2_with (first | ((with_reducible refine zbm (N:=2) rfl ?_);refine zbk ?hg (N:=2) ?hd (cs:=#[.int .i64 0,.int .i64 0,.bool false,.int .u64 0]) (t:=155) ?hr ?_;(case hd => rfl);(case hg => rfl);(case hr => first | (go_simp;done) | (go_simp;rfl));intro gb481 hg w3 hbox hb;have n0_:=zA0 (zaj (zs0 HB) hb);have n1_:=zA0 (hbox);have n2_:=zA0 ((yq30 : w.heap.size≤gb481));have n3_:=zA0 ((yq30 : w.heap.size≤gb481));clear HB;revert n0_ n1_ n2_ n3_;intro HB BK481 GW481 GE481;clear hb hbox hg) | ((with_reducible refine zav (f:=18) rfl ?_);refine zcf (some 4) rfl rfl Tryz.func18 (by kernel_rfl) rfl #[.int .u64 a0] rfl zt ?_;(with_reducible refine (zbd.calls k a0 t482 _ A2.out).mono ?_);rintro e w' ⟨rfl,⟨nd,rfl⟩⟩;refine ⟨_,rfl,?_⟩;(try (rw [zdm w3];generalize hq_ : World.drewN w3 _ = w3;have n0_ : Aside0 (w3.heap[gb481]? = some (.cells #[.int .i64 0,.int .i64 0,.bool false,.int .u64 0] 155 (0,0))):=⟨by rw [← hq_];exact (zb BK481)⟩;have n1_ : Aside0 (Below w.heap.size w w3):=⟨by rw [← hq_];exact (by first | exact zs1 HB GE481 | exact zs0 HB)⟩;clear BK481 HB hq_;have BK481:=n0_;have HB:=n1_;clear n0_ n1_));obtain ⟨_,_,_,_⟩:=zc4 BK481.out;obtain ⟨_,_,_,_⟩:=zf4 BK481.out))
 refine bodyPost_ret (results_cell_row rfl _ _ gb481 155 #[.int .i64 1,.int .i64 t482,.bool true,.int .u64 a0] (0,0) _ rfl (by refine yb1 ?_;refine zaz (cs:=#[.int .i64 1,.int .i64 t482,.bool true,.int .u64 0]) ?_ 3 _ rfl;refine yb1 ?_;refine zaz (cs:=#[.int .i64 1,.int .i64 t482,.bool false,.int .u64 0]) ?_ 2 _ rfl;refine yb1 ?_;refine zaz (cs:=#[.int .i64 1,.int .i64 0,.bool false,.int .u64 0]) ?_ 1 _ rfl;refine yb1 ?_;refine zaz (cs:=#[.int .i64 0,.int .i64 0,.bool false,.int .u64 0]) ?_ 0 _ rfl;refine yb1 ?_;exact BK481.out) Tryz.underlying155 rfl (by kernel_rfl)) rfl ?_;exact ⟨yq7,by first | exact zs1 HB GE481 | exact zs0 HB⟩
end Go.Proofs.YtkgdhdjkpnalmaaGreatDoor.P
end
