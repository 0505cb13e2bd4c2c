/- What is proved here: a part of the proof of ElectionTally: Px0, Px69, Px70. No conditions beside those that each theorem states. -/
import Derived.Test.YtkgdhdjkpnalmaaGreatDoorProg
import Derived.Below
import Derived.Deep.Draws
import Derived.Deep.AppendLies
import Derived.Maps.AppendAt
import Derived.OwnWalk
import Derived.Laws.BytesArg
import Derived.Laws.MakeOwn
import Derived.Laws.OwnMore
import Derived.Deep.OwnRows
import Derived.Tactics
import Derived.Lib.ConvBytes
import Derived.Laws.Slices
import Derived.WalkKit
import Derived.KernelRfl
import Derived.RowKit3
import Derived.Deep.LoopGhost
import Derived.Deep.QuietTactic
import Derived.BigQuiet
import Derived.WideLaws
import Derived.Deep.DeepCutAuto
import Derived.Deep.CutBlock
import Derived.Deep.RegionHeld3
import Derived.Laws.Rows
import Derived.Lib.AppendStr
import Derived.ArgAppend
import Derived.Laws.IdiomCopy
import Derived.OrdersHeld
import Derived.Laws.BitsLemmas
import Derived.RowKit
import Derived.Test.YtkgdhdjkpnalmaaGreatDoorKETly0
import Derived.Test.YtkgdhdjkpnalmaaGreatDoorKETly1
import Derived.Test.YtkgdhdjkpnalmaaGreatDoorKETly2
set_option linter.unusedVariables false
set_option linter.unusedSimpArgs false
section
namespace Go.Proofs.YtkgdhdjkpnalmaaGreatDoor.P
open Go.RowKit Go.Proofs.YtkgdhdjkpnalmaaGreatDoorW.PrintWords Go.Proofs.YtkgdhdjkpnalmaaGreatDoorW.PrintLast Go.Proofs.YtkgdhdjkpnalmaaGreatDoorW.PrintMore
attribute [local go_sem] zcd zcc zck zcl zb3 zb2 zca zcb
def errW : Option Int → Value
 | none => .nilIface
 | some c => .iface 0 (.int .i64 c)
theorem zdp : errW none = .nilIface := rfl
theorem zdn (c : Int) : errW (some c) = .iface 0 (.int .i64 c) := rfl
theorem info3 : (Tryz.prog.info? 3).map (fun i => (i.zero, i.size, i.bytes)) = some (some (.int .i64 0), 1, 8) := by kernel_rfl
theorem info9 : (Tryz.prog.info? 9).map (fun i => (i.zero, i.size, i.bytes)) = some (some (.string ⟨#[]⟩), 1, 16) := by kernel_rfl
theorem info37 : (Tryz.prog.info? 37).map (fun i => (i.zero, i.size, i.bytes)) = some (some (.int .u64 0), 1, 8) := by kernel_rfl
theorem info50 : (Tryz.prog.info? 50).map (fun i => (i.zero, i.size, i.bytes)) = some (some (.agg #[(.string ⟨#[]⟩), (.int .i64 0), (.int .i64 0), (.int .i64 0)]), 4, 40) := by kernel_rfl
theorem info92 : (Tryz.prog.info? 92).map (fun i => (i.zero, i.size, i.bytes)) = some (some (.agg #[(.int .i64 0), (.string ⟨#[]⟩), (.int .u64 0), (.int .i64 0)]), 4, 40) := by kernel_rfl
theorem info114 : (Tryz.prog.info? 114).map (fun i => (i.zero, i.size, i.bytes)) = some (some (.agg #[(.int .i64 0), (.string ⟨#[]⟩), (.slice none 0 0), (.slice none 0 0), (.slice none 0 0)]), 5, 96) := by kernel_rfl
theorem info155 : (Tryz.prog.info? 155).map (fun i => (i.zero, i.size, i.bytes)) = some (some (.agg #[(.int .i64 0), (.int .i64 0), (.bool false), (.int .u64 0)]), 4, 32) := by kernel_rfl
structure S92 where
 f0 : Int
 f1 : ByteArray
 f2 : Int
 f3 : Int
def z92 : S92 := ⟨(0 : Int), (⟨#[]⟩ : ByteArray), (0 : Int), (0 : Int)⟩
def k92 : Kd S92 := Kd.iso (Kd.pair (Kd.int .i64) (Kd.pair Kd.string (Kd.pair (Kd.int .u64) (Kd.int .i64)))) (fun x : S92 => (x.f0, x.f1, x.f2, x.f3))
theorem k92_open {w : World} {x : S92} {cs : List Value} (h : k92.K w x cs) : cs = [.int .i64 x.f0, .string x.f1, .int .u64 x.f2, .int .i64 x.f3] := by
 obtain ⟨_, _, rfl, rfl, ⟨_, _, rfl, rfl, ⟨_, _, rfl, rfl, rfl⟩⟩⟩ := h; exact rfl
theorem k92_mkM (w : World) (base : Nat) (ok : Nat → Prop) (x : S92)  : k92.M w base ok x [.int .i64 x.f0, .string x.f1, .int .u64 x.f2, .int .i64 x.f3] := ⟨[.int .i64 x.f0], [.string x.f1, .int .u64 x.f2, .int .i64 x.f3], rfl, rfl, ⟨[.string x.f1], [.int .u64 x.f2, .int .i64 x.f3], rfl, rfl, ⟨[.int .u64 x.f2], [.int .i64 x.f3], rfl, rfl, rfl⟩⟩⟩
def zcy (xs : List S92) (i : Int) : S92 := xs.getD i.toNat z92
theorem at_T92 {w : World} {A : Option Addr} {n : Nat} {xs : List S92} (h : Kd.C k92 w A n xs) (i : Int) (h0 : 0 ≤ i) (h1 : i < n) : ∃ ad , A = some ad ∧ w.cell? (ad.add (i.toNat * 4)) = some (.int .i64 (zcy xs i).f0) ∧ w.cell? ⟨(ad.add (i.toNat * 4)).block, (ad.add (i.toNat * 4)).off + 1, none⟩ = some (.string (zcy xs i).f1) ∧ w.cell? ⟨(ad.add (i.toNat * 4)).block, (ad.add (i.toNat * 4)).off + 2, none⟩ = some (.int .u64 (zcy xs i).f2) ∧ w.cell? ⟨(ad.add (i.toNat * 4)).block, (ad.add (i.toNat * 4)).off + 3, none⟩ = some (.int .i64 (zcy xs i).f3) := by
 obtain ⟨ad, c, e, _, hK, hc0⟩ := Kd.C_get h z92 i h0 h1; have hc : ∀ j u, c[j]? = some u → w.cell? (ad.add (i.toNat * 4 + j)) = some u := hc0; obtain rfl := k92_open hK; exact ⟨ad, e, hc 0 _ rfl, yq165, yq164, yq163⟩
structure S117 where
 f0 : Int
 f1 : Int
 f2 : Int
 f3 : ByteArray
 f4 : (List S117)
def z117 : S117 := ⟨(0 : Int), (0 : Int), (0 : Int), (⟨#[]⟩ : ByteArray), ([] : List S117)⟩
def F117 (d : Kd S117) : Kd S117 := Kd.iso (Kd.pair (Kd.int .i64) (Kd.pair (Kd.int .i64) (Kd.pair (Kd.int .u64) (Kd.pair Kd.string (Kd.slice 117 d))))) (fun x : S117 => (x.f0, x.f1, x.f2, x.f3, x.f4))
theorem mono117 : Kd.Mono F117 := Kd.mono_iso _ (Kd.mono_pair (Kd.mono_const _) (Kd.mono_pair (Kd.mono_const _) (Kd.mono_pair (Kd.mono_const _) (Kd.mono_pair (Kd.mono_const _) (Kd.mono_slice 117 Kd.mono_id)))))
theorem sub117 : Kd.Sub F117 [117] := Kd.sub_iso _ (Kd.sub_pair (Kd.sub_const _ (by decide)) (Kd.sub_pair (Kd.sub_const _ (by decide)) (Kd.sub_pair (Kd.sub_const _ (by decide)) (Kd.sub_pair (Kd.sub_const _ (by decide)) (Kd.sub_slice 117 (by decide) Kd.sub_id)))))
theorem sz117 : ∀ n, (Kd.upto F117 5 [117] n).sz = 5 := Kd.upto_sz (fun _ => rfl)
def k117 : Kd S117 := Kd.fix F117 5 [117] sz117 (Kd.upto_E sub117)
theorem k117_open {w : World} {x : S117} {cs : List Value} (h : k117.K w x cs) : ∃ A4 c4, cs = [.int .i64 x.f0, .int .i64 x.f1, .int .u64 x.f2, .string x.f3, .slice A4 x.f4.length c4] ∧ x.f4.length ≤ c4 ∧ k117.C w A4 x.f4.length x.f4 := by
 obtain ⟨n, h⟩ := h
 cases n with
 | zero => exact h.elim
 | succ n =>
  obtain ⟨_, _, rfl, rfl, ⟨_, _, rfl, rfl, ⟨_, _, rfl, rfl, ⟨_, _, rfl, rfl, ⟨A4, c4, rfl, l4, g4⟩⟩⟩⟩⟩ := h; exact ⟨A4, c4, rfl, l4, Kd.fix_C g4⟩
theorem k117_mk (w : World) (x : S117) {A4 : Option Addr} {c4 : Nat} (l4 : x.f4.length ≤ c4) (g4 : k117.C w A4 x.f4.length x.f4) : k117.K w x [.int .i64 x.f0, .int .i64 x.f1, .int .u64 x.f2, .string x.f3, .slice A4 x.f4.length c4] := by
 obtain ⟨n4, q4⟩ := Kd.fix_C_back mono117 g4; have r4 := Kd.upto_C_le mono117 sz117 (show n4 ≤ n4 by omega) q4; exact ⟨n4 + 1, ⟨[.int .i64 x.f0], [.int .i64 x.f1, .int .u64 x.f2, .string x.f3, .slice A4 x.f4.length c4], rfl, rfl, ⟨[.int .i64 x.f1], [.int .u64 x.f2, .string x.f3, .slice A4 x.f4.length c4], rfl, rfl, ⟨[.int .u64 x.f2], [.string x.f3, .slice A4 x.f4.length c4], rfl, rfl, ⟨[.string x.f3], [.slice A4 x.f4.length c4], rfl, rfl, ⟨A4, c4, rfl, l4, r4⟩⟩⟩⟩⟩⟩
theorem k117_mkF (W : World) (ok : Nat → Prop) (x : S117) {A4 : Option Addr} {c4 : Nat} (l4 : x.f4.length ≤ c4) (g4 : Kd.F k117 W ok A4 x.f4.length x.f4) : Kd.FK k117 W ok x [.int .i64 x.f0, .int .i64 x.f1, .int .u64 x.f2, .string x.f3, .slice A4 x.f4.length c4] := fun W2 hW => k117_mk W2 x l4 (g4 W2 hW)
def zad (xs : List S117) (i : Int) : S117 := xs.getD i.toNat z117
theorem zd9 {w : World} {A : Option Addr} {n : Nat} {xs : List S117} (h : Kd.C k117 w A n xs) (i : Int) (h0 : 0 ≤ i) (h1 : i < n) : ∃ ad A4 c4, A = some ad ∧ w.cell? (ad.add (i.toNat * 5)) = some (.int .i64 (zad xs i).f0) ∧ w.cell? ⟨(ad.add (i.toNat * 5)).block, (ad.add (i.toNat * 5)).off + 1, none⟩ = some (.int .i64 (zad xs i).f1) ∧ w.cell? ⟨(ad.add (i.toNat * 5)).block, (ad.add (i.toNat * 5)).off + 2, none⟩ = some (.int .u64 (zad xs i).f2) ∧ w.cell? ⟨(ad.add (i.toNat * 5)).block, (ad.add (i.toNat * 5)).off + 3, none⟩ = some (.string (zad xs i).f3) ∧ w.cell? ⟨(ad.add (i.toNat * 5)).block, (ad.add (i.toNat * 5)).off + 4, none⟩ = some (.slice A4 (zad xs i).f4.length c4) ∧ (zad xs i).f4.length ≤ c4 ∧ k117.C w A4 (zad xs i).f4.length (zad xs i).f4 := by
 obtain ⟨ad, c, e, _, hK, hc0⟩ := Kd.C_get h z117 i h0 h1; have hc : ∀ j u, c[j]? = some u → w.cell? (ad.add (i.toNat * 5 + j)) = some u := hc0; obtain ⟨A4, c4, rfl, l4, g4⟩ := k117_open hK; exact ⟨ad, A4, c4, e, hc 0 _ rfl, yq165, yq164, yq163, by rw [← add_field _ _ 4 (by omega)]; exact hc 4 _ rfl, l4, g4⟩
structure S114 where
 f0 : Int
 f1 : ByteArray
 f2 : (List S117)
 f3 : (List S114)
 f4 : (List S114)
def z114 : S114 := ⟨(0 : Int), (⟨#[]⟩ : ByteArray), ([] : List S117), ([] : List S114), ([] : List S114)⟩
def F114 (d : Kd S114) : Kd S114 := Kd.iso (Kd.pair (Kd.int .i64) (Kd.pair Kd.string (Kd.pair (Kd.slice 117 k117) (Kd.pair (Kd.slice 114 d) (Kd.slice 114 d))))) (fun x : S114 => (x.f0, x.f1, x.f2, x.f3, x.f4))
theorem mono114 : Kd.Mono F114 := Kd.mono_iso _ (Kd.mono_pair (Kd.mono_const _) (Kd.mono_pair (Kd.mono_const _) (Kd.mono_pair (Kd.mono_const _) (Kd.mono_pair (Kd.mono_slice 114 Kd.mono_id) (Kd.mono_slice 114 Kd.mono_id)))))
theorem sub114 : Kd.Sub F114 [114, 117] := Kd.sub_iso _ (Kd.sub_pair (Kd.sub_const _ (by decide)) (Kd.sub_pair (Kd.sub_const _ (by decide)) (Kd.sub_pair (Kd.sub_const _ (by decide)) (Kd.sub_pair (Kd.sub_slice 114 (by decide) Kd.sub_id) (Kd.sub_slice 114 (by decide) Kd.sub_id)))))
theorem sz114 : ∀ n, (Kd.upto F114 5 [114, 117] n).sz = 5 := Kd.upto_sz (fun _ => rfl)
def k114 : Kd S114 := Kd.fix F114 5 [114, 117] sz114 (Kd.upto_E sub114)
theorem k114_open {w : World} {x : S114} {cs : List Value} (h : k114.K w x cs) : ∃ A2 c2 A3 c3 A4 c4, cs = [.int .i64 x.f0, .string x.f1, .slice A2 x.f2.length c2, .slice A3 x.f3.length c3, .slice A4 x.f4.length c4] ∧ x.f2.length ≤ c2 ∧ k117.C w A2 x.f2.length x.f2 ∧ x.f3.length ≤ c3 ∧ k114.C w A3 x.f3.length x.f3 ∧ x.f4.length ≤ c4 ∧ k114.C w A4 x.f4.length x.f4 := by
 obtain ⟨n, h⟩ := h
 cases n with
 | zero => exact h.elim
 | succ n =>
  obtain ⟨_, _, rfl, rfl, ⟨_, _, rfl, rfl, ⟨_, _, rfl, ⟨A2, c2, rfl, l2, g2⟩, ⟨_, _, rfl, ⟨A3, c3, rfl, l3, g3⟩, ⟨A4, c4, rfl, l4, g4⟩⟩⟩⟩⟩ := h; exact ⟨A2, c2, A3, c3, A4, c4, rfl, l2, g2, l3, Kd.fix_C g3, l4, Kd.fix_C g4⟩
theorem k114_mk (w : World) (x : S114) {A2 : Option Addr} {c2 : Nat} (l2 : x.f2.length ≤ c2) (g2 : k117.C w A2 x.f2.length x.f2) {A3 : Option Addr} {c3 : Nat} (l3 : x.f3.length ≤ c3) (g3 : k114.C w A3 x.f3.length x.f3) {A4 : Option Addr} {c4 : Nat} (l4 : x.f4.length ≤ c4) (g4 : k114.C w A4 x.f4.length x.f4) : k114.K w x [.int .i64 x.f0, .string x.f1, .slice A2 x.f2.length c2, .slice A3 x.f3.length c3, .slice A4 x.f4.length c4] := by
 obtain ⟨n3, q3⟩ := Kd.fix_C_back mono114 g3; obtain ⟨n4, q4⟩ := Kd.fix_C_back mono114 g4; have r3 := Kd.upto_C_le mono114 sz114 (show n3 ≤ (max n3 n4) by omega) q3; have r4 := Kd.upto_C_le mono114 sz114 (show n4 ≤ (max n3 n4) by omega) q4; exact ⟨(max n3 n4) + 1, ⟨[.int .i64 x.f0], [.string x.f1, .slice A2 x.f2.length c2, .slice A3 x.f3.length c3, .slice A4 x.f4.length c4], rfl, rfl, ⟨[.string x.f1], [.slice A2 x.f2.length c2, .slice A3 x.f3.length c3, .slice A4 x.f4.length c4], rfl, rfl, ⟨[.slice A2 x.f2.length c2], [.slice A3 x.f3.length c3, .slice A4 x.f4.length c4], rfl, ⟨A2, c2, rfl, l2, g2⟩, ⟨[.slice A3 x.f3.length c3], [.slice A4 x.f4.length c4], rfl, ⟨A3, c3, rfl, l3, r3⟩, ⟨A4, c4, rfl, l4, r4⟩⟩⟩⟩⟩⟩
theorem k114_mkF (W : World) (ok : Nat → Prop) (x : S114) {A2 : Option Addr} {c2 : Nat} (l2 : x.f2.length ≤ c2) (g2 : Kd.F k117 W ok A2 x.f2.length x.f2) {A3 : Option Addr} {c3 : Nat} (l3 : x.f3.length ≤ c3) (g3 : Kd.F k114 W ok A3 x.f3.length x.f3) {A4 : Option Addr} {c4 : Nat} (l4 : x.f4.length ≤ c4) (g4 : Kd.F k114 W ok A4 x.f4.length x.f4) : Kd.FK k114 W ok x [.int .i64 x.f0, .string x.f1, .slice A2 x.f2.length c2, .slice A3 x.f3.length c3, .slice A4 x.f4.length c4] := fun W2 hW => k114_mk W2 x l2 (g2 W2 hW) l3 (g3 W2 hW) l4 (g4 W2 hW)
def zbe (xs : List S114) (i : Int) : S114 := xs.getD i.toNat z114
theorem at_T114 {w : World} {A : Option Addr} {n : Nat} {xs : List S114} (h : Kd.C k114 w A n xs) (i : Int) (h0 : 0 ≤ i) (h1 : i < n) : ∃ ad A2 c2 A3 c3 A4 c4, A = some ad ∧ w.cell? (ad.add (i.toNat * 5)) = some (.int .i64 (zbe xs i).f0) ∧ w.cell? ⟨(ad.add (i.toNat * 5)).block, (ad.add (i.toNat * 5)).off + 1, none⟩ = some (.string (zbe xs i).f1) ∧ w.cell? ⟨(ad.add (i.toNat * 5)).block, (ad.add (i.toNat * 5)).off + 2, none⟩ = some (.slice A2 (zbe xs i).f2.length c2) ∧ w.cell? ⟨(ad.add (i.toNat * 5)).block, (ad.add (i.toNat * 5)).off + 3, none⟩ = some (.slice A3 (zbe xs i).f3.length c3) ∧ w.cell? ⟨(ad.add (i.toNat * 5)).block, (ad.add (i.toNat * 5)).off + 4, none⟩ = some (.slice A4 (zbe xs i).f4.length c4) ∧ (zbe xs i).f2.length ≤ c2 ∧ k117.C w A2 (zbe xs i).f2.length (zbe xs i).f2 ∧ (zbe xs i).f3.length ≤ c3 ∧ k114.C w A3 (zbe xs i).f3.length (zbe xs i).f3 ∧ (zbe xs i).f4.length ≤ c4 ∧ k114.C w A4 (zbe xs i).f4.length (zbe xs i).f4 := by
 obtain ⟨ad, c, e, _, hK, hc0⟩ := Kd.C_get h z114 i h0 h1; have hc : ∀ j u, c[j]? = some u → w.cell? (ad.add (i.toNat * 5 + j)) = some u := hc0; obtain ⟨A2, c2, A3, c3, A4, c4, rfl, l2, g2, l3, g3, l4, g4⟩ := k114_open hK; exact ⟨ad, A2, c2, A3, c3, A4, c4, e, hc 0 _ rfl, yq165, yq164, yq163, by rw [← add_field _ _ 4 (by omega)]; exact hc 4 _ rfl, l2, g2, l3, g3, l4, g4⟩
structure S50 where
 f0 : ByteArray
 f1 : Int
 f2 : Int
 f3 : Int
def z50 : S50 := ⟨(⟨#[]⟩ : ByteArray), (0 : Int), (0 : Int), (0 : Int)⟩
def k50 : Kd S50 := Kd.iso (Kd.pair Kd.string (Kd.pair (Kd.int .i64) (Kd.pair (Kd.int .i64) (Kd.int .i64)))) (fun x : S50 => (x.f0, x.f1, x.f2, x.f3))
theorem k50_open {w : World} {x : S50} {cs : List Value} (h : k50.K w x cs) : cs = [.string x.f0, .int .i64 x.f1, .int .i64 x.f2, .int .i64 x.f3] := by
 obtain ⟨_, _, rfl, rfl, ⟨_, _, rfl, rfl, ⟨_, _, rfl, rfl, rfl⟩⟩⟩ := h; exact rfl
theorem k50_mkM (w : World) (base : Nat) (ok : Nat → Prop) (x : S50)  : k50.M w base ok x [.string x.f0, .int .i64 x.f1, .int .i64 x.f2, .int .i64 x.f3] := ⟨[.string x.f0], [.int .i64 x.f1, .int .i64 x.f2, .int .i64 x.f3], rfl, rfl, ⟨[.int .i64 x.f1], [.int .i64 x.f2, .int .i64 x.f3], rfl, rfl, ⟨[.int .i64 x.f2], [.int .i64 x.f3], rfl, rfl, rfl⟩⟩⟩
def zaq (xs : List S50) (i : Int) : S50 := xs.getD i.toNat z50
theorem at_T50 {w : World} {A : Option Addr} {n : Nat} {xs : List S50} (h : Kd.C k50 w A n xs) (i : Int) (h0 : 0 ≤ i) (h1 : i < n) : ∃ ad , A = some ad ∧ w.cell? (ad.add (i.toNat * 4)) = some (.string (zaq xs i).f0) ∧ w.cell? ⟨(ad.add (i.toNat * 4)).block, (ad.add (i.toNat * 4)).off + 1, none⟩ = some (.int .i64 (zaq xs i).f1) ∧ w.cell? ⟨(ad.add (i.toNat * 4)).block, (ad.add (i.toNat * 4)).off + 2, none⟩ = some (.int .i64 (zaq xs i).f2) ∧ w.cell? ⟨(ad.add (i.toNat * 4)).block, (ad.add (i.toNat * 4)).off + 3, none⟩ = some (.int .i64 (zaq xs i).f3) := by
 obtain ⟨ad, c, e, _, hK, hc0⟩ := Kd.C_get h z50 i h0 h1; have hc : ∀ j u, c[j]? = some u → w.cell? (ad.add (i.toNat * 4 + j)) = some u := hc0; obtain rfl := k50_open hK; exact ⟨ad, e, hc 0 _ rfl, yq165, yq164, yq163⟩
structure S87 where
 f0 : ByteArray
 f1 : Int
def k87 : Kd S87 := Kd.iso (Kd.pair Kd.string (Kd.int .i64)) (fun x : S87 => (x.f0, x.f1))
structure S155 where
 f0 : Int
 f1 : Int
 f2 : Bool
 f3 : Int
def z155 : S155 := ⟨(0 : Int), (0 : Int), false, (0 : Int)⟩
def k155 : Kd S155 := Kd.iso (Kd.pair (Kd.int .i64) (Kd.pair (Kd.int .i64) (Kd.pair Kd.bool (Kd.int .u64)))) (fun x : S155 => (x.f0, x.f1, x.f2, x.f3))
theorem k155_open {w : World} {x : S155} {cs : List Value} (h : k155.K w x cs) : cs = [.int .i64 x.f0, .int .i64 x.f1, .bool x.f2, .int .u64 x.f3] := by
 obtain ⟨_, _, rfl, rfl, ⟨_, _, rfl, rfl, ⟨_, _, rfl, rfl, rfl⟩⟩⟩ := h; exact rfl
theorem k155_mkM (w : World) (base : Nat) (ok : Nat → Prop) (x : S155)  : k155.M w base ok x [.int .i64 x.f0, .int .i64 x.f1, .bool x.f2, .int .u64 x.f3] := ⟨[.int .i64 x.f0], [.int .i64 x.f1, .bool x.f2, .int .u64 x.f3], rfl, rfl, ⟨[.int .i64 x.f1], [.bool x.f2, .int .u64 x.f3], rfl, rfl, ⟨[.bool x.f2], [.int .u64 x.f3], rfl, rfl, rfl⟩⟩⟩
def zbx (xs : List S155) (i : Int) : S155 := xs.getD i.toNat z155
theorem at_T155 {w : World} {A : Option Addr} {n : Nat} {xs : List S155} (h : Kd.C k155 w A n xs) (i : Int) (h0 : 0 ≤ i) (h1 : i < n) : ∃ ad , A = some ad ∧ w.cell? (ad.add (i.toNat * 4)) = some (.int .i64 (zbx xs i).f0) ∧ w.cell? ⟨(ad.add (i.toNat * 4)).block, (ad.add (i.toNat * 4)).off + 1, none⟩ = some (.int .i64 (zbx xs i).f1) ∧ w.cell? ⟨(ad.add (i.toNat * 4)).block, (ad.add (i.toNat * 4)).off + 2, none⟩ = some (.bool (zbx xs i).f2) ∧ w.cell? ⟨(ad.add (i.toNat * 4)).block, (ad.add (i.toNat * 4)).off + 3, none⟩ = some (.int .u64 (zbx xs i).f3) := by
 obtain ⟨ad, c, e, _, hK, hc0⟩ := Kd.C_get h z155 i h0 h1; have hc : ∀ j u, c[j]? = some u → w.cell? (ad.add (i.toNat * 4 + j)) = some u := hc0; obtain rfl := k155_open hK; exact ⟨ad, e, hc 0 _ rfl, yq165, yq164, yq163⟩
structure S158 where
 f0 : ByteArray
 f1 : S155
def k158 : Kd S158 := Kd.iso (Kd.pair Kd.string k155) (fun x : S158 => (x.f0, x.f1))
def zdr (xs : List (List Int)) (i : Int) : (List Int) := xs.getD i.toNat ([] : List Int)
theorem at_L14 {w : World} {A : Option Addr} {n : Nat} {xs : List (List Int)} (h : Kd.C (Kd.slice 37 (Kd.int .u64)) w A n xs) (i : Int) (h0 : 0 ≤ i) (h1 : i < n) : ∃ ad A0 c0, A = some ad ∧ w.cell? (ad.add i.toNat) = some (.slice A0 (zdr xs i).length c0) ∧ (zdr xs i).length ≤ c0 ∧ (Kd.int .u64).C w A0 (zdr xs i).length (zdr xs i) := by
 obtain ⟨ad, c, e, _, hK, hc0⟩ := Kd.C_get h ([] : List Int) i h0 h1; have hc : ∀ j u, c[j]? = some u → w.cell? (ad.add (i.toNat * 1 + j)) = some u := hc0; obtain ⟨A0, c0, rfl, l0, g0⟩ := hK; exact ⟨ad, A0, c0, e, by have hq := hc 0 _ rfl; rwa [Nat.mul_one, Nat.add_zero] at hq, l0, g0⟩
def zao.l0 : Nat → List Int → List Int → Int → Option (Bool)
 | 0, _, _, _ => none
 | k + 1, x0, x1, x5 => if x5 < (x0.length : Int) then (if 0 ≤ x5 then (if x5 < (x1.length : Int) then (if (rd x0 x5) = (rd x1 x5) then (zao.l0 k x0 x1 (wrap64 (x5 + 1))) else (some false)) else (none)) else (none)) else (some true)
def zao.f (k : Nat) (l0 : List Int) (l1 : List Int) : Option (Bool) := if (l0.length : Int) = (l1.length : Int) then (zao.l0 k l0 l1 0) else (some false)
theorem zao.mono_l : ∀ k, (∀ y0 y1 y2, LeO (zao.l0 k y0 y1 y2) (zao.l0 (k + 1) y0 y1 y2))
 | 0 => fun _ _ _ r h => by simp [zao.l0] at h
 | k + 1 => by
  have ih0 := zao.mono_l k
  ·intro y0 y1 y2
   unfold zao.l0
   exact yq11
theorem zao.mono : ∀ a0 a1 k, LeO (zao.f k a0 a1) (zao.f (k + 1) a0 a1) := by
 intro a0 a1 k; have ih0 := zao.mono_l k; unfold zao.f
 exact yq11
set_option maxHeartbeats 8000000 in
set_option maxRecDepth 100000 in
theorem zao.calls (k : Nat) (A0 : Option Addr) (c0 : Nat) (l0 : List Int) (A1 : Option Addr) (c1 : Nat) (l1 : List Int) (r : Bool) (w : World) (hr0 : Kd.C (Kd.int .u64) w A0 l0.length l0) (hc0 : l0.length ≤ c0) (hr1 : Kd.C (Kd.int .u64) w A1 l1.length l1) (hc1 : l1.length ≤ c1) (h : zao.f k l0 l1 = some r) :
  Calls Tryz.prog 15 #[.slice A0 l0.length c0, .slice A1 l1.length c1] w fun e w' => e = .returned (.bool r) ∧ zdl w w' := by
 have HR0 := zA0 hr0; have HC0 := zA0 hc0; clear hr0 hc0; have HR1 := zA0 hr1; have HC1 := zA0 hc1; clear hr1 hc1; have H : (if (l0.length : Int) = (l1.length : Int) then (zao.l0 k l0 l1 0) else (some false)) = some r := h; clear h
 by_cases c3 : (l0.length : Int) = (l1.length : Int)
 ·rw [if_pos c3] at H
  have c3b0 : ((l0.length : Int) == (l1.length : Int)) = true := beq_iff_eq.mpr c3; have c3b1 : ((l0.length : Int) != (l1.length : Int)) = false := bne_eq_false_iff_eq.mpr c3
  have c3b2 : (l0.length == l1.length) = true := by first | simpa using c3 | (simp at c3 ⊢; omega)
  clear c3; have H' := zA0 H; clear H; go_enter Tryz.func15, Tryz.ntmps15; go_wp2
  repeat (go_quiet (fail); try go_wp2)
  go_loopg [5] k (fun kq v5 w' => ∃ (x5_1 : Int), v5 = .int .i64 x5_1 ∧ Aside0 (zao.l0 kq l0 l1 x5_1 = some r) ∧ Aside0 (kq ≤ k) ∧ zdl w w')
  case atStart => exact ⟨(0), yq8, H', ⟨Nat.le_refl _⟩, yq17⟩
  case round =>
   clear H'; obtain ⟨x5_1, rfl, HA, HK1, ⟨m1, rfl⟩⟩ := hrel
   cases gk with
   | zero => exact absurd HA.out (by simp [zao.l0])
   | succ k1 =>
    have H := HA.out; clear HA; simp only [zao.l0] at H
    by_cases c4 : x5_1 < (l0.length : Int)
    ·rw [if_pos c4] at H
     have c4b0 : decide (x5_1 < (l0.length : Int)) = true := decide_eq_true c4; clear c4
     by_cases c5 : 0 ≤ x5_1
     ·rw [if_pos c5] at H
      have c5b0 : decide (0 ≤ x5_1) = true := decide_eq_true c5; clear c5
      by_cases c6 : x5_1 < (l1.length : Int)
      ·rw [if_pos c6] at H
       have c6b0 : decide (x5_1 < (l1.length : Int)) = true := decide_eq_true c6; clear c6
       by_cases c7 : (rd l0 x5_1) = (rd l1 x5_1)
       ·rw [if_pos c7] at H
        have c7b0 : ((rd l0 x5_1) == (rd l1 x5_1)) = true := beq_iff_eq.mpr c7; have c7b1 : ((rd l0 x5_1) != (rd l1 x5_1)) = false := bne_eq_false_iff_eq.mpr c7; clear c7; have H' := zA0 H; clear H; have p632 : 0 ≤ (x5_1 : Int) := of_decide_eq_true yq3; have q632 : x5_1 < (l0.length : Int) := of_decide_eq_true yq3; obtain ⟨ad632, e632, hx632_0⟩ := Kd.at_int HR0.out x5_1 p632 q632; cases e632; replace p632 := eq_true p632; replace q632 := eq_true q632; have p633 : 0 ≤ (x5_1 : Int) := of_decide_eq_true yq3; have q633 : x5_1 < (l1.length : Int) := of_decide_eq_true yq3; obtain ⟨ad633, e633, hx633_0⟩ := Kd.at_int HR1.out x5_1 p633 q633; cases e633; replace p633 := eq_true p633; replace q633 := eq_true q633; go_wp2
        repeat (go_quiet (fail); try go_wp2)
        go_roundg k1
        case measure => have := HK1.out; omega
        case rel => exact ⟨(wrap64 (x5_1 + 1)), yq8, H', ⟨yq93⟩, yq17⟩
       ·rw [if_neg c7] at H
        have c7b0 : ((rd l0 x5_1) == (rd l1 x5_1)) = false := beq_eq_false_iff_ne.mpr c7; have c7b1 : ((rd l0 x5_1) != (rd l1 x5_1)) = true := bne_iff_ne.mpr c7; obtain rfl := Option.some.inj H; have p632 : 0 ≤ (x5_1 : Int) := of_decide_eq_true yq3; have q632 : x5_1 < (l0.length : Int) := of_decide_eq_true yq3; obtain ⟨ad632, e632, hx632_0⟩ := Kd.at_int HR0.out x5_1 p632 q632; cases e632; replace p632 := eq_true p632; replace q632 := eq_true q632; have p633 : 0 ≤ (x5_1 : Int) := of_decide_eq_true yq3; have q633 : x5_1 < (l1.length : Int) := of_decide_eq_true yq3; obtain ⟨ad633, e633, hx633_0⟩ := Kd.at_int HR1.out x5_1 p633 q633; cases e633; replace p633 := eq_true p633; replace q633 := eq_true q633; go_wp2
        repeat (go_quiet (fail); try go_wp2)
        go_ret; exact ⟨yq8, yq17⟩
      ·rw [if_neg c6] at H
       exact absurd H (by simp)
     ·rw [if_neg c5] at H
      exact absurd H (by simp)
    ·rw [if_neg c4] at H
     have c4b0 : decide (x5_1 < (l0.length : Int)) = false := decide_eq_false c4; clear c4; obtain rfl := Option.some.inj H; go_wp2
     repeat (go_quiet (fail); try go_wp2)
     go_ret; exact ⟨yq8, yq17⟩
 ·rw [if_neg c3] at H
  have c3b0 : ((l0.length : Int) == (l1.length : Int)) = false := beq_eq_false_iff_ne.mpr c3; have c3b1 : ((l0.length : Int) != (l1.length : Int)) = true := bne_iff_ne.mpr c3
  have c3b2 : (l0.length == l1.length) = false := by first | simpa using c3 | (simp at c3 ⊢; omega)
  obtain rfl := Option.some.inj H; go_enter Tryz.func15, Tryz.ntmps15; go_wp2
  repeat (go_quiet (fail); try go_wp2)
  go_ret; exact ⟨yq8, yq17⟩
def election_Tally.l0 : Nat → Int → List Int → List Int → Int → Int → Option (List Int)
 | 0, _, _, _, _, _ => none
 | k + 1, x1, x5, x10, x11, x12 => if x12 < x11 then (if 0 ≤ x12 then (if x12 < (x10.length : Int) then (if (rd x10 x12) < (IntKind.u64.wrap (x1)) then (if 0 ≤ (rd x10 x12) then (if (rd x10 x12) < (x5.length : Int) then (election_Tally.l0 k x1 (x5.set ((rd x10 x12) : Int).toNat (IntKind.u64.wrap ((rd x5 (rd x10 x12)) + 1))) x10 x11 (wrap64 (x12 + 1))) else (none)) else (none)) else (election_Tally.l0 k x1 x5 x10 x11 (wrap64 (x12 + 1)))) else (none)) else (none)) else (some x5)
def election_Tally.f (k : Nat) (l0 : List Int) (a1 : Int) : Option (List Int) := if 0 ≤ a1 then (if (a1 : Int).toNat ≤ 35184372088832 then (election_Tally.l0 k a1 (List.replicate (a1 : Int).toNat 0) l0 (l0.length : Int) 0) else (none)) else (none)
theorem election_Tally.mono_l : ∀ k, (∀ y0 y1 y2 y3 y4, LeO (election_Tally.l0 k y0 y1 y2 y3 y4) (election_Tally.l0 (k + 1) y0 y1 y2 y3 y4))
 | 0 => fun _ _ _ _ _ r h => by simp [election_Tally.l0] at h
 | k + 1 => by
  have ih0 := election_Tally.mono_l k
  ·intro y0 y1 y2 y3 y4
   unfold election_Tally.l0
   exact yq11
theorem election_Tally.mono : ∀ a0 a1 k, LeO (election_Tally.f k a0 a1) (election_Tally.f (k + 1) a0 a1) := by
 intro a0 a1 k; have ih0 := election_Tally.mono_l k; unfold election_Tally.f
 exact yq11
set_option maxHeartbeats 8000000 in
set_option maxRecDepth 100000 in
theorem election_Tally.calls (k : Nat) (A0 : Option Addr) (c0 : Nat) (l0 : List Int) (a1 : Int) (r : List Int) (w : World) (hr0 : Kd.C (Kd.int .u64) w A0 l0.length l0) (hc0 : l0.length ≤ c0) (h : election_Tally.f k l0 a1 = some r) :
  Calls Tryz.prog 17 #[.slice A0 l0.length c0, .int .i64 a1] w fun e w' => ∃ v0_ : Value, e = .returned (v0_) ∧ Kd.R (Kd.int .u64) 37 w' w.heap.size (fun _ => True) v0_ r ∧ Below w.heap.size w w' := by
 have HR0 := zA0 hr0; have HC0 := zA0 hc0; clear hr0 hc0; have HB := zA0 (Below.refl w.heap.size w); have H : (if 0 ≤ a1 then (if (a1 : Int).toNat ≤ 35184372088832 then (election_Tally.l0 k a1 (List.replicate (a1 : Int).toNat 0) l0 (l0.length : Int) 0) else (none)) else (none)) = some r := h; clear h
 by_cases c3 : 0 ≤ a1
 ·rw [if_pos c3] at H
  have c3b0 := eq_true c3; have c3b1 : decide (0 ≤ a1) = true := decide_eq_true c3; clear c3
  by_cases c4 : (a1 : Int).toNat ≤ 35184372088832
  ·rw [if_pos c4] at H
   have c4b0 := eq_true c4; have c4b1 : decide ((a1 : Int).toNat ≤ 35184372088832) = true := decide_eq_true c4; clear c4
   obtain ⟨y634, hy634⟩ : ∃ y_ : List Int, y_ = (List.replicate (a1 : Int).toNat 0) := ⟨_, rfl⟩
   replace H : (election_Tally.l0 k a1 y634 l0 (l0.length : Int) 0) = some r := yr hy634 H
   have Ny634 := zA0 hy634; clear hy634; have H' := zA0 H; clear H; go_enter Tryz.func17, Tryz.ntmps17
   go_wp2_with (first | ((with_reducible refine zbl (N := 9) rfl ?_); refine Kd.R_make (Kd.int .u64) _ 37 rfl (N := 9) rfl 23 _ _ rfl a1 rfl rfl Tryz.underlying23 (.int .u64 0) 8 info37 rfl (by decide) (by omega) 0 (ok := fun _ => True) (okp := fun _ => True) rfl (fun _ hk => hk) trivial (of_decide_eq_true yq3) (Nat.le_trans (Nat.mul_le_mul_right _ (of_decide_eq_true yq3 : a1.toNat ≤ 35184372088832)) (by omega)) (Below.refl _ _) (Nat.le_refl _) ?_; intro v635 w5 ho6 hb hg_ hnew_; clear hg_ hnew_; (first | rw [← Ny634.out] at ho6 | (simp only [Int.reduceToNat] at ho6; rw [← Ny634.out] at ho6)); have n0_ := zA0 (Kd.R_lower ho6 (zce (zs0 HB))); have n1_ := zA0 (zak (zs0 HB) hb); clear HB; revert n0_ n1_; intro HO636 HB; clear hb ho6))
   go_loopg [12] k (fun kq v12 w' => ∃ (x5_1 : List Int) (x12_1 : Int), v12 = .int .i64 x12_1 ∧ Aside0 (election_Tally.l0 kq a1 x5_1 l0 (l0.length : Int) x12_1 = some r) ∧ Aside0 (kq ≤ k) ∧ Aside0 (Kd.R (Kd.int .u64) 37 w' w.heap.size (fun _ => True) v635 x5_1) ∧ Aside0 (Below w.heap.size w w'))
   case atStart => exact ⟨(y634), (0), yq8, H', ⟨Nat.le_refl _⟩, ⟨yp1 HO636⟩, ⟨yq38⟩⟩
   case round =>
    clear H'; obtain ⟨x5_1, x12_1, rfl, HA, HK1, HO_5, HB⟩ := hrel
    cases gk with
    | zero => exact absurd HA.out (by simp [election_Tally.l0])
    | succ k1 =>
     have H := HA.out; clear HA; simp only [election_Tally.l0] at H
     by_cases c7 : x12_1 < (l0.length : Int)
     ·rw [if_pos c7] at H
      have c7b0 : decide (x12_1 < (l0.length : Int)) = true := decide_eq_true c7; clear c7
      by_cases c8 : 0 ≤ x12_1
      ·rw [if_pos c8] at H
       have c8b0 : decide (0 ≤ x12_1) = true := decide_eq_true c8; clear c8
       by_cases c9 : x12_1 < (l0.length : Int)
       ·rw [if_pos c9] at H
        have c9b0 : decide (x12_1 < (l0.length : Int)) = true := decide_eq_true c9; clear c9
        by_cases c10 : (rd l0 x12_1) < (IntKind.u64.wrap (a1))
        ·rw [if_pos c10] at H
         have c10b0 : decide ((rd l0 x12_1) < (IntKind.u64.wrap (a1))) = true := decide_eq_true c10; clear c10
         by_cases c11 : 0 ≤ (rd l0 x12_1)
         ·rw [if_pos c11] at H
          have c11b0 : decide (0 ≤ (rd l0 x12_1)) = true := decide_eq_true c11; clear c11
          by_cases c12 : (rd l0 x12_1) < (x5_1.length : Int)
          ·rw [if_pos c12] at H
           have c12b0 : decide ((rd l0 x12_1) < (x5_1.length : Int)) = true := decide_eq_true c12; clear c12
           obtain ⟨y639, hy639⟩ : ∃ y_ : List Int, y_ = (x5_1.set ((rd l0 x12_1) : Int).toNat (IntKind.u64.wrap ((rd x5_1 (rd l0 x12_1)) + 1))) := ⟨_, rfl⟩
           replace H : (election_Tally.l0 k1 a1 y639 l0 (l0.length : Int) (wrap64 (x12_1 + 1))) = some r := yr hy639 H
           have Ny639 := zA0 hy639; clear hy639; have H' := zA0 H; clear H; have p637 : 0 ≤ (x12_1 : Int) := of_decide_eq_true yq3; have q637 : x12_1 < (l0.length : Int) := of_decide_eq_true yq3; obtain ⟨ad637, e637, hx637_0⟩ := Kd.at_int HR0.out x12_1 p637 q637; cases e637; replace hx637_0 := (HB.out.cell (World.block_lt_of_cell? w _ hx637_0)).trans hx637_0; replace p637 := eq_true p637; replace q637 := eq_true q637; obtain ⟨Ao14, co14, eo14⟩ := Kd.R_slice HO_5.out; subst eo14; have p638 : 0 ≤ ((rd l0 x12_1) : Int) := of_decide_eq_true yq3; have q638 : (rd l0 x12_1) < (x5_1.length : Int) := of_decide_eq_true yq3; obtain ⟨ad638, e638, hx638_0⟩ := Kd.at_int (Kd.R_reads' HO_5.out).2.2 (rd l0 x12_1) p638 q638; cases e638; replace p638 := eq_true p638; replace q638 := eq_true q638; have p13 : 0 ≤ ((rd l0 x12_1) : Int) := of_decide_eq_true yq3; have q13 : ((rd l0 x12_1) : Int) < ((x5_1.length : Int) : Int) := of_decide_eq_true yq3; obtain ⟨go13, co13, eo13, gb13, gl13, cl13, HG13⟩ := Kd.R_form HO_5.out (by omega)
           (first | cases eo13 | (injection eo13 with ea_ en_ ec_; (first | subst ea_ | (injection ea_ with ea_; subst ea_)); subst ec_; clear en_))
           have GB13 := zA0 gb13; have GG13 := zA0 HG13; clear gb13 gl13 HG13
           (first | simp only [zd0] at hx638_0 | skip)
           obtain ⟨hx13_0, hf13_0⟩ := Kd.R_celln 0 HO_5.out ((rd l0 x12_1) : Int) p13 q13; replace p13 := eq_true p13; replace q13 := eq_true q13; have HP15 := Kd.R_putg HO_5.out ((rd l0 x12_1) : Int) (IntKind.u64.wrap ((rd x5_1 (rd l0 x12_1)) + 1))
           go_wp2_with (first | ((with_reducible refine gate_store (t := 37) (p := 25) rfl ?_); refine store_event (t := 37) (p := 25) (v := ?vo_w16) (w1 := (wr.setCell ⟨go13, ((rd l0 x12_1) : Int).toNat, none⟩ (.int .u64 (IntKind.u64.wrap ((rd x5_1 (rd l0 x12_1)) + 1))))) ?hg ?ho ?hn ?hr ?_; (case ho => rfl); (case hg => rfl); (case hn => rfl); (case hr => first | (go_simp; done) | (go_simp; rfl)); intro w16 hw; have hg : wr.grownBy w16 (some go13) := (by rw [hw]; exact HP15.2); have hp_ : Kd.R (Kd.int .u64) 37 w16 w.heap.size (fun _ => True) (.slice (some ⟨go13, 0, none⟩) x5_1.length co14) y639 := (by rw [hw, Ny639.out]; exact HP15.1); clear HP15; have n0_ := zA0 (hp_); have n1_ := zA0 ((by rw [hw]; exact zba (HB.out) GB13.out : Below w.heap.size w w16)); clear HO_5 HB; revert n0_ n1_; intro HO_5 HB; clear hg hw hp_))
           go_roundg k1
           case measure => have := HK1.out; omega
           case rel => exact ⟨(y639), (wrap64 (x12_1 + 1)), yq8, H', ⟨yq93⟩, ⟨yp1 HO_5⟩, ⟨yq38⟩⟩
          ·rw [if_neg c12] at H
           exact absurd H (by simp)
         ·rw [if_neg c11] at H
          exact absurd H (by simp)
        ·rw [if_neg c10] at H
         have c10b0 : decide ((rd l0 x12_1) < (IntKind.u64.wrap (a1))) = false := decide_eq_false c10; clear c10; have H' := zA0 H; clear H; have p637 : 0 ≤ (x12_1 : Int) := of_decide_eq_true yq3; have q637 : x12_1 < (l0.length : Int) := of_decide_eq_true yq3; obtain ⟨ad637, e637, hx637_0⟩ := Kd.at_int HR0.out x12_1 p637 q637; cases e637; replace hx637_0 := (HB.out.cell (World.block_lt_of_cell? w _ hx637_0)).trans hx637_0; replace p637 := eq_true p637; replace q637 := eq_true q637; go_wp2
         go_roundg k1
         case measure => have := HK1.out; omega
         case rel => exact ⟨(x5_1), (wrap64 (x12_1 + 1)), yq8, H', ⟨yq93⟩, ⟨yp1 HO_5⟩, ⟨yq38⟩⟩
       ·rw [if_neg c9] at H
        exact absurd H (by simp)
      ·rw [if_neg c8] at H
       exact absurd H (by simp)
     ·rw [if_neg c7] at H
      have c7b0 : decide (x12_1 < (l0.length : Int)) = false := decide_eq_false c7; clear c7; obtain rfl := Option.some.inj H; go_wp2; go_ret; exact ⟨_, yq6, yp1 HO_5, zs0 HB⟩
  ·rw [if_neg c4] at H
   exact absurd H (by simp)
 ·rw [if_neg c3] at H
  exact absurd H (by simp)
end Go.Proofs.YtkgdhdjkpnalmaaGreatDoor.P
end
