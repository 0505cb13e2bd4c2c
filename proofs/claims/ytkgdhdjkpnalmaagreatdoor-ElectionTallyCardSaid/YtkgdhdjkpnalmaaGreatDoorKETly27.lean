/- What is proved here: a part of the proof of ElectionTally: Epp, Shelf, Bld, Dec, Px1. No conditions beside those that each theorem states. -/
import Derived.Test.YtkgdhdjkpnalmaaGreatDoorKETly7
import Derived.Test.YtkgdhdjkpnalmaaGreatDoorKETly16
import Derived.Test.YtkgdhdjkpnalmaaGreatDoorKETly26
import Derived.Shelf.Strings.Builder1
import Derived.Shelf.Strings.BuilderF
import Derived.Shelf.Strings.BuilderK
import Derived.Shelf.Strings.BuilderCap
import Derived.Test.YtkgdhdjkpnalmaaGreatDoorProg
import Derived.WalkKit
import Derived.RangeFuncOwn
import Derived.KernelRfl
import Derived.Test.YtkgdhdjkpnalmaaGreatDoorKETly3
set_option linter.unusedVariables false
set_option linter.unusedSimpArgs false
section
namespace Go.Proofs.YtkgdhdjkpnalmaaGreatDoor.P
open Go.RowKit Go.Proofs.YtkgdhdjkpnalmaaGreatDoorW.PrintWords Go.Proofs.YtkgdhdjkpnalmaaGreatDoorW.PrintLast Go.Proofs.YtkgdhdjkpnalmaaGreatDoorW.PrintMore
def zb8.f (k : Nat) (a0 : ByteArray) : Option ((List S50) × (List S87) × (List S114) × Int × Int) :=
 (zbt.f k a0).bind fun t => (if t.2.2 = 0 then ((zae.f k t.1 0 false).bind fun u => (if u.2.2.2.2 = true then (none) else (if u.2.2.2.1 < (t.1.length : Int) then (none) else ((zbh.f k u.1 u.2.1 u.2.2.1).bind fun v => (if v = true then (some (u.1, u.2.1, u.2.2.1, 0, 0)) else (none)))))) else (none))
theorem zb8.mono : ∀ a0 k, LeO (zb8.f k a0) (zb8.f (k + 1) a0) := by
 intro a0 k; unfold zb8.f
 exact (by repeat' first | with_reducible apply zbt.mono | with_reducible apply zae.mono | with_reducible apply zbh.mono | with_reducible apply LeO.refl | with_reducible apply LeO.none | (with_reducible refine LeO.ite ?_ ?_) | (with_reducible refine LeO.bind ?_ (fun _ => ?_)))
set_option maxHeartbeats 8000000 in
set_option maxRecDepth 100000 in
theorem zb8.calls (k : Nat) (a0 : ByteArray) (r1 : List S50) (r2 : List S87) (r3 : List S114) (r4 r5 : Int) (w : World) (h : zb8.f k a0 = some (r1, r2, r3, r4, r5)) :
  Calls Tryz.prog 9 #[.string a0] w fun e w' => ∃ v0_ v1_ v2_ : Value, e = .returned (.tuple #[.agg #[v0_, v1_, v2_], .int .i64 r4, .int .i64 r5]) ∧ Kd.R k50 50 w' w.heap.size (fun k_ => (w.heap.size ≤ k_)) v0_ r1 ∧ Kd.R k87 87 w' w.heap.size (fun k_ => (w.heap.size ≤ k_)) v1_ r2 ∧ Kd.N k114 114 w' w.heap.size (fun k_ => (w.heap.size ≤ k_) ∧ some k_ ≠ (v0_ : Value).ownBlock ∧ some k_ ≠ (v1_ : Value).ownBlock) v2_ r3 ∧ Below w.heap.size w w' := by
 unfold zb8.f at h; obtain ⟨⟨t1, t2, t3⟩, hl, h⟩ := Option.bind_eq_some_iff.1 h; replace h : (if t3 = 0 then ((zae.f k t1 0 false).bind fun u => (if u.2.2.2.2 = true then (none) else (if u.2.2.2.1 < (t1.length : Int) then (none) else ((zbh.f k u.1 u.2.1 u.2.2.1).bind fun v => (if v = true then (some (u.1, u.2.1, u.2.2.1, 0, 0)) else (none)))))) else (none)) = some (r1, r2, r3, r4, r5) := h
 by_cases c0 : t3 = 0
 rotate_left
 ·rw [if_neg c0] at h; cases h
 rw [if_pos c0] at h; subst c0; obtain ⟨⟨u1, u2, u3, u4, u5⟩, hp, h⟩ := Option.bind_eq_some_iff.1 h; replace h : (if u5 = true then (none) else (if u4 < (t1.length : Int) then (none) else ((zbh.f k u1 u2 u3).bind fun v => (if v = true then (some (u1, u2, u3, (0 : Int), (0 : Int))) else (none))))) = some (r1, r2, r3, r4, r5) := h
 by_cases c1 : u5 = true
 ·rw [if_pos c1] at h; cases h
 rw [if_neg c1] at h
 obtain rfl : u5 = false := by simpa using c1
 by_cases c2 : u4 < (t1.length : Int)
 ·rw [if_pos c2] at h; cases h
 rw [if_neg c2] at h; obtain ⟨v, hv, h⟩ := Option.bind_eq_some_iff.1 h
 by_cases c3 : v = true
 rotate_left
 ·rw [if_neg c3] at h; cases h
 subst c3; rw [if_pos rfl] at h; simp only [Option.some.injEq, Prod.mk.injEq] at h; obtain ⟨rfl, rfl, rfl, rfl, rfl⟩ := h; have d2 : decide (u4 < (t1.length : Int)) = false := decide_eq_false c2; have HL := zA0 hl; have HP := zA0 hp; have HV := zA0 hv; clear hl hp hv c1 c2; go_enter Tryz.func9, Tryz.ntmps9
 go_upto_region 1 with (first | ((with_reducible refine zbl (N := 2) rfl ?_); refine zbk ?hg (N := 2) ?hd (cs := #[.slice none 0 0, .slice none 0 0, .slice none 0 0]) (t := 33) ?hr ?_; (case hd => rfl); (case hg => rfl); (case hr => first | (go_simp; done) | (go_simp; rfl)); intro gb hgb w1 hbox hbb; have hGW : w.heap.size ≤ gb := (by rw [hgb]; exact Nat.le_refl _); clear hgb))
 have hs1 := hbb.size; have hlt1 : gb < w1.heap.size := zcs hbox; have HX1 := zA0 hbox; have HB1 := zA0 hbb; clear hbox hbb
 go_wp2_with fail
 refine (zbt.calls k a0 t1 t2 0 w1 HL.out).mono ?_; rintro e w2 ⟨v0, rfl, ho, b2⟩; obtain ⟨A, c, rfl⟩ := Kd.R_slice ho; have hC := (Kd.R_reads' ho).2.2; have hcap := (Kd.R_reads' ho).2.1; have hs2 := b2.size; have hx2 := (b2.block gb hlt1).trans HX1.out; have HB2 := zA0 (zak HB1.out b2); have hlt2 : gb < w2.heap.size := zcs hx2; have HX2 := zA0 hx2; have HC2 := zA0 hC; clear hx2 b2 ho hC
 go_wp2_with fail
 have hI3 := zay.new w2 w2 A c t1 0 false (Below.refl _ _) HC2.out; have hB3 := zbo (Below.refl w2.heap.size w2) (.cells #[.slice A t1.length c, .int .i64 0, .bool false] 71); have hx3 := (hB3.block gb hlt2).trans HX2.out; generalize w2.alloc (.cells #[.slice A t1.length c, .int .i64 0, .bool false] 71) = w3 at *; have hs3 := hB3.size; refine (zae.calls k w2.heap.size t1 0 false u1 u2 u3 u4 false w2 w3 hI3 hB3 HP.out).mono ?_; rintro e w4 ⟨v0, v1, v2, rfl, o0, o1, o2, hI4, b4, hk4⟩; have hs4 := hk4.1; have hx4 := (b4.block gb hlt2).trans HX2.out; have HB4 := zA0 (zak HB2.out b4); obtain ⟨B0, e0, rfl⟩ := Kd.R_slice o0; obtain ⟨B1, e1, rfl⟩ := Kd.R_slice o1; obtain ⟨B2, e2, rfl⟩ := Kd.N_slice o2; obtain ⟨AS, cS, HG4, hg4, HS4⟩ := hI4; have hlt4 : gb < w4.heap.size := zcs hx4; have hgl4 : w2.heap.size < w4.heap.size := zcs HG4; have HX4 := zA0 hx4; have HGG := zA0 HG4; have O0 := zA0 o0; have O1 := zA0 o1; have O2 := zA0 o2; clear hx4 HG4 o0 o1 o2 HS4 hg4 b4 hk4 hx3 hI3 hB3 HX2 HC2 HX1 HB1
 go_upto_region 6 with (first | ((with_reducible refine zbl (N := 9) rfl ?_); refine zbk ?hg (N := 9) ?hd (cs := #[.slice none 0 0, .slice none 0 0, .slice none 0 0]) (t := 33) ?hr ?_; (case hd => rfl); (case hg => rfl); (case hr => first | (go_simp; done) | (go_simp; rfl)); intro gc hgc w5 hbx5 hbb5; have hG5 : w4.heap.size ≤ gc := (by rw [hgc]; exact Nat.le_refl _); have hn1 : w2.heap.size ≠ gc := (by rw [hgc]; exact Nat.ne_of_lt hgl4); have hn2 : gb ≠ gc := (by rw [hgc]; exact Nat.ne_of_lt hlt4); clear hgc; have hg5 := (hbb5.block _ hgl4).trans HGG.out; have z0 := zcq hg5; have z1 := zco hg5; have z2 := zcn hg5; have y0 : w5.cell? ⟨gc, 0, none⟩ = some (.slice none 0 0) := (zbf hbx5 0).trans rfl; have y1 : w5.cell? ⟨gc, 1, none⟩ = some (.slice none 0 0) := (zbf hbx5 1).trans rfl; have y2 : w5.cell? ⟨gc, 2, none⟩ = some (.slice none 0 0) := (zbf hbx5 2).trans rfl; have f0 := zap hbx5 0; have f1 := zap hbx5 1; have f2 := zap hbx5 2; have hn1' := hn1.symm; have hn2' := hn2.symm))
 have hx6 : (((w5.setCell ⟨gc, 0, none⟩ (.slice B0 u1.length e0)).setCell ⟨gc, 1, none⟩ (.slice B1 u2.length e1)).setCell ⟨gc, 2, none⟩ (.slice B2 u3.length e2)).heap[gc]? = some (.cells #[.slice B0 u1.length e0, .slice B1 u2.length e1, .slice B2 u3.length e2] 33 (0, 0)) := by
  refine zaz (cs := #[.slice B0 u1.length e0, .slice B1 u2.length e1, .slice none 0 0]) ?_ 2 _ rfl; refine zaz (cs := #[.slice B0 u1.length e0, .slice none 0 0, .slice none 0 0]) ?_ 1 _ rfl; refine zaz (cs := #[.slice none 0 0, .slice none 0 0, .slice none 0 0]) ?_ 0 _ rfl; exact hbx5
 have hB46 : Below w4.heap.size w4 (((w5.setCell ⟨gc, 0, none⟩ (.slice B0 u1.length e0)).setCell ⟨gc, 1, none⟩ (.slice B1 u2.length e1)).setCell ⟨gc, 2, none⟩ (.slice B2 u3.length e2)) := zba (zba (zba hbb5 hG5) hG5) hG5; clear z0 z1 z2 y0 y1 y2 f0 f1 f2 hbx5 hbb5 hg5; generalize (((w5.setCell ⟨gc, 0, none⟩ (.slice B0 u1.length e0)).setCell ⟨gc, 1, none⟩ (.slice B1 u2.length e1)).setCell ⟨gc, 2, none⟩ (.slice B2 u3.length e2)) = w6 at *; have hg6 := (hB46.block _ hgl4).trans HGG.out; have hxb6 := (hB46.block gb hlt4).trans HX4.out; have z1 := zco hg6; have z2 := zcn hg6; have y0 : w6.cell? ⟨gc, 0, none⟩ = some (.slice B0 u1.length e0) := (zbf hx6 0).trans rfl; have y1 : w6.cell? ⟨gc, 1, none⟩ = some (.slice B1 u2.length e1) := (zbf hx6 1).trans rfl; have y2 : w6.cell? ⟨gc, 2, none⟩ = some (.slice B2 u3.length e2) := (zbf hx6 2).trans rfl; have HB46 := zA0 hB46; have HX6 := zA0 hx6; have HXB6 := zA0 hxb6; have hltc : gc < w6.heap.size := zcs hx6; have hltb : gb < w6.heap.size := zcs hxb6; have hs6 := hB46.size; clear hg6 hxb6 hx6 hB46
 go_wp2_with fail
 refine (zbh.calls k B0 e0 u1 B1 e1 u2 B2 e2 u3 true w6 (Kd.R_reads' (Kd.R_below O0.out HB46.out)).2.2 (Kd.R_reads' (Kd.R_below O0.out HB46.out)).2.1 (Kd.R_reads' (Kd.R_below O1.out HB46.out)).2.2 (Kd.R_reads' (Kd.R_below O1.out HB46.out)).2.1 (Kd.N_reads' (Kd.N_below O2.out HB46.out)).2.2 (Kd.N_reads' (Kd.N_below O2.out HB46.out)).2.1 HV.out).mono ?_; rintro e w7 ⟨rfl, b7⟩; have hx7 := (b7.block gc hltc).trans HX6.out; have hxb7 := (b7.block gb hltb).trans HXB6.out; have HB47 := zA0 (zak HB46.out b7); have y0' : w7.cell? ⟨gc, 0, none⟩ = some (.slice B0 u1.length e0) := (zbf hx7 0).trans rfl; have y1' : w7.cell? ⟨gc, 1, none⟩ = some (.slice B1 u2.length e1) := (zbf hx7 1).trans rfl; have y2' : w7.cell? ⟨gc, 2, none⟩ = some (.slice B2 u3.length e2) := (zbf hx7 2).trans rfl; have x0 : w7.cell? ⟨gb, 0, none⟩ = some (.slice none 0 0) := (zbf hxb7 0).trans rfl; have x1 : w7.cell? ⟨gb, 1, none⟩ = some (.slice none 0 0) := (zbf hxb7 1).trans rfl; have x2 : w7.cell? ⟨gb, 2, none⟩ = some (.slice none 0 0) := (zbf hxb7 2).trans rfl; have f0 := zap hxb7 0; have f1 := zap hxb7 1; have f2 := zap hxb7 2; have HXB7 := zA0 hxb7; have hu := Tryz.underlying33; clear b7 hx7 hxb7 y0 y1 y2 z1 z2; go_wp2
 refine bodyPost_ret (results_ctt rfl _ _ gb 33 #[.slice B0 u1.length e0, .slice B1 u2.length e1, .slice B2 u3.length e2] (0, 0) _ rfl (by
  refine zaz (cs := #[.slice B0 u1.length e0, .slice B1 u2.length e1, .slice none 0 0]) ?_ 2 _ rfl; refine zaz (cs := #[.slice B0 u1.length e0, .slice none 0 0, .slice none 0 0]) ?_ 1 _ rfl; refine zaz (cs := #[.slice none 0 0, .slice none 0 0, .slice none 0 0]) ?_ 0 _ rfl
  exact HXB7.out) Tryz.underlying33 rfl (by kernel_rfl)) rfl ?_
 have hw3 : w.heap.size ≤ w3.heap.size := Nat.le_trans HB2.out.size hs3
 have hne : ∀ k_, w3.heap.size ≤ k_ → k_ ≠ gb := fun k_ hk he => by omega
 exact ⟨_, _, _, rfl, Kd.R_lower (Kd.R_mono (ok' := fun k_ => w.heap.size ≤ k_) (Kd.R_far (p := ⟨gb, 2, none⟩) (Kd.R_far (p := ⟨gb, 1, none⟩) (Kd.R_far (p := ⟨gb, 0, none⟩) (Kd.R_below O0.out HB47.out) hne (.slice B0 u1.length e0)) hne (.slice B1 u2.length e1)) hne (.slice B2 u3.length e2)) (fun k_ hk => Nat.le_trans hw3 hk)) hw3,
  Kd.R_lower (Kd.R_mono (ok' := fun k_ => w.heap.size ≤ k_) (Kd.R_far (p := ⟨gb, 2, none⟩) (Kd.R_far (p := ⟨gb, 1, none⟩) (Kd.R_far (p := ⟨gb, 0, none⟩) (Kd.R_below O1.out HB47.out) hne (.slice B0 u1.length e0)) hne (.slice B1 u2.length e1)) hne (.slice B2 u3.length e2)) (fun k_ hk => Nat.le_trans hw3 hk)) hw3,
  Kd.N_lower (Kd.N_mono (Kd.N_far (p := ⟨gb, 2, none⟩) (Kd.N_far (p := ⟨gb, 1, none⟩) (Kd.N_far (p := ⟨gb, 0, none⟩) (Kd.N_below O2.out HB47.out) (fun k_ hk => hne k_ hk.1) (.slice B0 u1.length e0)) (fun k_ hk => hne k_ hk.1) (.slice B1 u2.length e1)) (fun k_ hk => hne k_ hk.1) (.slice B2 u3.length e2)) (fun k_ hk => ⟨Nat.le_trans hw3 hk.1, hk.2⟩)) hw3,
  zba (zba (zba (zak HB4.out HB47.out) hGW) hGW) hGW⟩
end Go.Proofs.YtkgdhdjkpnalmaaGreatDoor.P
end
section
/-
  DERIVED: THE SHELF's CONTRACTS AT THIS DUMP, IN PLAIN WORDS (tools/lay-plain.mjs out of 'TryzShelf.lean', which tools/lay-shelf.mjs wrote): THE SAME DECLARATIONS UNDER THE SAME NAMES: 'import', 'namespace', 'open', 'def', 'theorem' AND NOTHING ELSE: no command of the shelf's: FOR A HAND-IN. Each laying: the table of numbers ('.._ren') and one theorem, a field a fact of the dump's own or the kernel's comparison; each contract: ONE APPLICATION.
-/
namespace Go.Proofs
open Go.Shelf
def Tryz.lays169_ren : Go.Shelf.Ren := ⟨fun | 169 => 24 | n => n, fun | 70 => 54 | 9 => 9 | 0 => 0 | 72 => 57 | 37 => 55 | 127 => 90 | 3 => 3 | 5 => 5 | n => n, fun | n => n⟩
theorem Tryz.lays169 : Go.Proofs.Lays.n169 Tryz.prog Tryz.lays169_ren := {
  mixed := by kernel_rfl
  f169 := Tryz.func24.trans (congrArg some (by kernel_rfl))
  t0 := Tryz.underlying0
  a0 := Tryz.isAgg0
  z0 := Tryz.sizeOf0
  v0 := Tryz.zeroValue0
  t3 := Tryz.underlying3
  a3 := Tryz.isAgg3
  z3 := Tryz.sizeOf3
  v3 := Tryz.zeroValue3
  t9 := Tryz.underlying9
  a9 := Tryz.isAgg9
  z9 := Tryz.sizeOf9
  v9 := Tryz.zeroValue9
  t37 := Tryz.underlying55
  a37 := Tryz.isAgg55
  z37 := Tryz.sizeOf55
  v37 := Tryz.zeroValue55
  t70 := Tryz.underlying54
  a70 := Tryz.isAgg54
  z70 := Tryz.sizeOf54
  v70 := Tryz.zeroValue54
  t72 := Tryz.underlying57
  a72 := Tryz.isAgg57
  z72 := Tryz.sizeOf57
  v72 := Tryz.zeroValue57
  t127 := Tryz.underlying90
  a127 := Tryz.isAgg90
  z127 := Tryz.sizeOf90
  v127 := Tryz.zeroValue90 }
theorem Tryz.Builder_Extra_169 : Builder.Extra Tryz.prog Tryz.lays169_ren := {
  sizeBuilder := by kernel_rfl
  liesBuilder := by kernel_rfl
  t5 := Tryz.underlying5
  a5 := Tryz.isAgg5
  z5 := Tryz.sizeOf5
  v5 := Tryz.zeroValue5
  infoByte := by kernel_rfl
  cellsByte := by kernel_rfl
  sizeByte := by kernel_rfl
  neB5 := by decide }
open Go.RowKit in
theorem Tryz.Builder_String_any_k (B b : Nat) (l : List UInt8) (w : World) (h : Lib.IsBuilderF 57 5 B b (Lib.byteCells l) w) (hBw : B ≤ w.heap.size) :
    Calls Tryz.prog 24 #[.pointer (some ⟨b, 0, none⟩)] w fun e w' => e = .returned (.string ⟨l.toArray⟩) ∧ (Lib.IsBuilderF 57 5 B b (Lib.byteCells l) w' ∧ Below B w w' ∧ Lib.OthersKept 5 (some b) w w') := Any.Builder_String_any_k Tryz.lays169 Tryz.Builder_Extra_169 B b l w h hBw
end Go.Proofs
end
section
namespace Go.Proofs.YtkgdhdjkpnalmaaGreatDoor.Bld
open Go.RowKit
theorem infoByte : (Tryz.prog.info? 5).map (fun i => (i.zero, i.size, i.bytes)) = some (some (.int .u8 0), 1, 1) := by kernel_rfl
theorem sizeBuilder : (Tryz.prog.info? 57).map (fun i => i.size) = some 2 := by kernel_rfl
theorem liesBuilder : liesAt Tryz.prog Tryz.prog.depth 57 (2 / Tryz.prog.cellsOf 57) 0 57 1 = true := by kernel_rfl
set_option maxHeartbeats 1000000 in
set_option maxRecDepth 100000 in
theorem check_used (b : Nat) (w : World) (h0 : w.cell? ⟨b, 0, none⟩ = some (.pointer (some ⟨b, 0, none⟩))) :
    Calls Tryz.prog 37 #[.pointer (some ⟨b, 0, none⟩)] w fun e w' => e = .returned (.tuple #[]) ∧ w' = w := by
  obtain ⟨j, hj, _⟩ := Option.map_eq_some_iff.1 sizeBuilder
  go_enter Tryz.func37, Tryz.ntmps37
  go_wp2
  rw [Lib.run_neq_ptr_same w _ Tryz.underlying54 hj]
  go_wp2
  go_end0
  exact ⟨rfl, rfl⟩
set_option maxHeartbeats 1000000 in
set_option maxRecDepth 100000 in
theorem check_fresh (b : Nat) (w : World) (h0 : w.cell? ⟨b, 0, none⟩ = some (.pointer none)) (hsh : w.shape? b = some (57, 2)) (hfz : w.frozen? ⟨b, 0, none⟩ = false) :
    Calls Tryz.prog 37 #[.pointer (some ⟨b, 0, none⟩)] w fun e w' => e = .returned (.tuple #[]) ∧ w' = w.setCell ⟨b, 0, none⟩ (.pointer (some ⟨b, 0, none⟩)) := by
  obtain ⟨j, hj, hjs⟩ := Option.map_eq_some_iff.1 sizeBuilder
  go_enter Tryz.func37, Tryz.ntmps37
  go_wp2
  rw [Lib.run_to_unsafe w ⟨b, 0, none⟩ Tryz.underlying54 Tryz.underlying118 hj (by rw [hjs]; decide) hsh (Nat.zero_lt_succ 1)]
  simp only [Result.andThen]
  rw [Oper.upon_value]
  go_wp2
  rw [run_callFunc_extern Tryz.func55 (by kernel_rfl) (by kernel_rfl) (by kernel_rfl) (e := Extern.AbiNoEscape.same) (by kernel_rfl)]
  rw [Lib.run_noEscape]
  simp only [Result.andThen]
  rw [Oper.upon_value]
  go_wp2
  rw [Lib.run_from_unsafe w ⟨b, 0, none⟩ Tryz.underlying118 Tryz.underlying54 hj hsh liesBuilder]
  simp only [Result.andThen]
  rw [Oper.upon_value]
  go_wp2
  go_end0
  exact ⟨rfl, rfl⟩
abbrev Is (B b : Nat) (bs : List Value) (w : World) : Prop := Lib.IsBuilderF 57 5 B b bs w
abbrev Oth (b : Nat) (w w' : World) : Prop := Lib.OthersKept 5 (some b) w w'
theorem check (B b : Nat) (bs : List Value) (w : World) (h : Is B b bs w) :
    Calls Tryz.prog 37 #[.pointer (some ⟨b, 0, none⟩)] w fun e w' => e = .returned (.tuple #[]) ∧ (Lib.BuilderAtF 57 5 B b (.pointer (some ⟨b, 0, none⟩)) bs w' ∧ Below B w w' ∧ Oth b w w') := by
  rcases h with h | h
  · refine (check_fresh b w h.cell0 h.shape h.frozen0).mono ?_
    rintro e w' ⟨rfl, rfl⟩
    exact ⟨rfl, h.used _, (Below.refl B w).setCell (p := ⟨b, 0, none⟩) h.1 _, (Lib.OthersKept.refl _ _ w).setCell ⟨b, 0, none⟩ rfl _⟩
  · refine (check_used b w h.cell0).mono ?_
    rintro e w' ⟨rfl, rfl⟩
    exact ⟨rfl, h, Below.refl B _, Lib.OthersKept.refl _ _ _⟩
set_option maxHeartbeats 2000000 in
set_option maxRecDepth 100000 in
theorem writeString (B b : Nat) (bs : List Value) (s : ByteArray) (w : World) (h : Is B b bs w) (hlen : bs.length + s.size ≤ 140737488355328) (hBw : B ≤ w.heap.size) :
    Calls Tryz.prog 21 #[.pointer (some ⟨b, 0, none⟩), .string s] w fun e w' => e = .returned (.tuple #[.int .i64 s.size, .nilIface]) ∧ (Is B b (bs ++ Lib.strCells s) w' ∧ Below B w w' ∧ Oth b w w') := by
  obtain ⟨i0, hi, hz0, hz1, hz2⟩ := info_parts infoByte
  go_enter Tryz.func21, Tryz.ntmps21
  go_wp2_with (go_at_call 37; refine (check B b bs _ h).mono ?_)
  rintro e w1 ⟨rfl, h1, hb1, hk1⟩
  obtain ⟨hB, v, hbk, hown, hne⟩ := h1
  have c0 : w1.cell? ⟨b, 0, none⟩ = some (.pointer (some ⟨b, 0, none⟩)) := by rw [Lib.cell_of_heap hbk]; rfl
  have c1 : w1.cell? ⟨b, 1, none⟩ = some v := by rw [Lib.cell_of_heap hbk]; rfl
  go_wp2_with (at_builtin; refine Lib.wpList_append_own_stringF _ rfl _ _ 55 9 rfl B 5 i0 Tryz.underlying55 Tryz.underlying9 hi hz0 hz1 hz2 _ _ _ rfl hown s rfl ?c3 ?c4 ?c5 ?_)
  case c3 => unfold maxLen; omega
  case c4 => omega
  case c5 => have := hb1.size; omega
  intro v' w2 hown' hgrow _
  have hlt : b < w1.heap.size := by
    rcases Nat.lt_or_ge b w1.heap.size with h' | h'
    · exact h'
    · simp [Array.getElem?_eq_none h'] at hbk
  have hb2 : w2.heap[b]? = some (.cells #[.pointer (some ⟨b, 0, none⟩), v] 57 (0, 0)) := by
    rw [hgrow.block b hlt (fun e => hne e.symm)]
    exact hbk
  have d0 : w2.cell? ⟨b, 0, none⟩ = some (.pointer (some ⟨b, 0, none⟩)) := by rw [Lib.cell_of_heap hb2]; rfl
  have d1 : w2.cell? ⟨b, 1, none⟩ = some v := by rw [Lib.cell_of_heap hb2]; rfl
  have f1 : w2.frozen? ⟨b, 1, none⟩ = false := Lib.frozen_of_heap hb2 1
  obtain ⟨ao, n', cap, rfl⟩ : ∃ ao n' cap, v' = .slice ao n' cap := by
    rcases hown'.2 with ⟨hv, _⟩ | ⟨g, cap, cur, fz, hv, _⟩
    · exact ⟨_, _, _, hv⟩
    · exact ⟨_, _, _, hv⟩
  go_wp2
  go_ret2
  refine ⟨rfl, ?_, ?_, (hk1.grown hgrow (Lib.ownsRowF_kind hown)).setCell ⟨b, 1, none⟩ rfl _⟩
  · exact Or.inr (Lib.BuilderAtF.put (T := 57) (e := 5) hB hb2 (bs' := bs ++ Lib.strCells s) (by simpa [Lib.strCells_length] using hown') (by decide))
  · exact (hb1.grown hgrow (by have := hb1.size; omega) (fun k hk => (hown.lt k hk).1)).setCell (p := ⟨b, 1, none⟩) hB _
theorem string (B b : Nat) (l : List UInt8) (w : World) (h : Is B b (Lib.byteCells l) w) (hBw : B ≤ w.heap.size) :
    Calls Tryz.prog 24 #[.pointer (some ⟨b, 0, none⟩)] w fun e w' => e = .returned (.string ⟨l.toArray⟩) ∧ (Is B b (Lib.byteCells l) w' ∧ Below B w w' ∧ Oth b w w') := Tryz.Builder_String_any_k B b l w h hBw
theorem fresh (w : World) : Is w.heap.size w.heap.size [] (w.alloc (.cells #[.pointer none, .slice none 0 0] 57)) := Lib.IsBuilderF.of (Lib.fresh_isBuilder _ _ w)
theorem Is.grown {B b : Nat} {bs : List Value} {w w' : World} {row : Option Nat} (h : Is B b bs w) (hg : w.grownBy w' row) (hr : ∀ r, row = some r → ∃ o : Obj, w.heap[r]? = some o ∧ o.isCells = false) : Is B b bs w' := by
  have one : ∀ p, Lib.BuilderAtF 57 5 B b p bs w → Lib.BuilderAtF 57 5 B b p bs w' := by
    rintro p ⟨hB, v, hb, hown, hne⟩
    have hbr : some b ≠ row := fun e => by
      obtain ⟨o, ho, hc⟩ := hr b e.symm
      rw [hb] at ho; cases ho; simp [Obj.isCells] at hc
    refine ⟨hB, v, (hg.block b (Array.getElem?_eq_some_iff.1 hb).1 hbr).trans hb, hown.kept hg ?_, hne⟩
    rcases hown.2 with ⟨rfl, _⟩ | ⟨g, cap, cur, fz, rfl, _, hgg, _⟩
    · exact .inl rfl
    · refine .inr fun e => ?_
      obtain ⟨o, ho, hc⟩ := hr g (by simpa [Value.ownBlock] using e.symm)
      rw [hgg] at ho; cases ho; simp [Obj.isCells] at hc
  exact h.elim (fun x => .inl (one _ x)) (fun x => .inr (one _ x))
theorem Is.below {B b : Nat} {bs : List Value} {w w' : World} (h : Is B b bs w) (hb : Below w.heap.size w w') : Is B b bs w' :=
  Is.grown (row := none) h ⟨hb.os, hb.tape, hb.output, hb.size, fun k hk _ => hb.block k hk⟩ (fun r e => by cases e)
end Go.Proofs.YtkgdhdjkpnalmaaGreatDoor.Bld
end
section
namespace Go.Proofs.YtkgdhdjkpnalmaaGreatDoor.P
open Go.RowKit Go.Proofs.YtkgdhdjkpnalmaaGreatDoorW.PrintWords Go.Proofs.YtkgdhdjkpnalmaaGreatDoorW.PrintLast Go.Proofs.YtkgdhdjkpnalmaaGreatDoorW.PrintMore
def decB (i : Nat) : List UInt8 := if i < 10 then [UInt8.ofNat (48 + i)] else [UInt8.ofNat (48 + i / 10), UInt8.ofNat (48 + i % 10)]
theorem decB_le (i : Nat) : (decB i).length ≤ 2 := by unfold decB; split <;> simp
theorem upto14 {i : Nat} (h : i < 14) : i = 0 ∨ i = 1 ∨ i = 2 ∨ i = 3 ∨ i = 4 ∨ i = 5 ∨ i = 6 ∨ i = 7 ∨ i = 8 ∨ i = 9 ∨ i = 10 ∨ i = 11 ∨ i = 12 ∨ i = 13 := by omega
set_option maxHeartbeats 4000000 in
set_option maxRecDepth 100000 in
theorem small_at (i : Nat) (h : i < 14) (w : World) : Calls Tryz.prog 70 #[.int .i64 (i : Int)] w fun e w' => e = .returned (.string ⟨(decB i).toArray⟩) ∧ w' = w := by
  rcases upto14 h with rfl | rfl | rfl | rfl | rfl | rfl | rfl | rfl | rfl | rfl | rfl | rfl | rfl | rfl
  all_goals
    go_enter Tryz.func70, Tryz.ntmps70
    go_wp2
    go_ret
    exact ⟨by rfl, rfl⟩
theorem cast64 (i : Nat) (h : i < 14) : IntKind.i64.wrap (i : Int) = (i : Int) := (zc9 _).trans (by unfold wrap64; omega)
set_option maxHeartbeats 4000000 in
set_option maxRecDepth 100000 in
theorem fmt_in (i : Nat) (h : i < 14) (w : World) : Calls Tryz.prog 54 #[.int .u64 (i : Int), .int .i64 10] w fun e w' => e = .returned (.string ⟨(decB i).toArray⟩) ∧ w' = w := by
  have h1 := cast64 i h
  have SM := Aside0.mk (small_at i h)
  go_enter Tryz.func54, Tryz.ntmps54
  go_wp2_with (go_at_call 70; (try rw [h1]); refine (SM.out _).mono ?_; rintro e w2 ⟨rfl, rfl⟩)
  go_ret
  exact ⟨rfl, rfl⟩
set_option maxHeartbeats 4000000 in
set_option maxRecDepth 100000 in
theorem fmt_out (i : Nat) (h : i < 14) (w : World) : Calls Tryz.prog 35 #[.int .u64 (i : Int), .int .i64 10] w fun e w' => e = .returned (.string ⟨(decB i).toArray⟩) ∧ w' = w := by
  have SM := Aside0.mk (fmt_in i h)
  go_enter Tryz.func35, Tryz.ntmps35
  go_wp2_with (go_at_call 54; refine (SM.out _).mono ?_; rintro e w2 ⟨rfl, rfl⟩)
  go_ret
  exact ⟨rfl, rfl⟩
set_option maxHeartbeats 4000000 in
set_option maxRecDepth 100000 in
theorem dec_at (i : Nat) (h : i < 14) (w : World) : Calls Tryz.prog 19 #[.int .u64 (i : Int)] w fun e w' => e = .returned (.string ⟨(decB i).toArray⟩) ∧ w' = w := by
  have SM := Aside0.mk (fmt_out i h)
  go_enter Tryz.func19, Tryz.ntmps19
  go_wp2_with (go_at_call 35; refine (SM.out _).mono ?_; rintro e w2 ⟨rfl, rfl⟩)
  go_ret
  exact ⟨rfl, rfl⟩
def zdi.f (a0 : Int) : Option ByteArray := if 0 ≤ a0 ∧ a0 < 14 then some ⟨(decB a0.toNat).toArray⟩ else none
theorem zdi.calls (a0 : Int) (r : ByteArray) (w : World) (h : zdi.f a0 = some r) :
    Calls Tryz.prog 19 #[.int .u64 a0] w fun e w' => e = .returned (.string r) ∧ Below w.heap.size w w' := by
  unfold zdi.f at h
  split at h
  · next hb =>
    obtain rfl := Option.some.inj h
    obtain ⟨n, rfl⟩ : ∃ n : Nat, a0 = (n : Int) := ⟨a0.toNat, by omega⟩
    refine (dec_at n (by omega) w).mono ?_
    rintro e w' ⟨rfl, rfl⟩
    exact ⟨by rw [Int.toNat_natCast], Below.refl _ _⟩
  · cases h
def widB (c : Nat) : Nat := if c ≤ 1 then 1 else if c ≤ 3 then 2 else 3
set_option maxHeartbeats 4000000 in
set_option maxRecDepth 100000 in
theorem len_at (c : Nat) (h : c < 8) (w : World) : Calls Tryz.prog 36 #[.int .u64 (c : Int)] w fun e w' => e = .returned (.int .i64 (if c = 0 then 0 else (widB c : Int))) ∧ w' = w := by
  have hc : c = 0 ∨ c = 1 ∨ c = 2 ∨ c = 3 ∨ c = 4 ∨ c = 5 ∨ c = 6 ∨ c = 7 := by omega
  rcases hc with rfl | rfl | rfl | rfl | rfl | rfl | rfl | rfl
  all_goals
    go_enter Tryz.func36, Tryz.ntmps36
    go_wp2
    go_ret
    exact ⟨by kernel_rfl, rfl⟩
set_option maxHeartbeats 4000000 in
set_option maxRecDepth 100000 in
theorem wid_at (c : Nat) (h1 : 1 ≤ c) (h : c < 8) (w : World) : Calls Tryz.prog 20 #[.int .u64 (c : Int)] w fun e w' => e = .returned (.int .i64 (widB c : Int)) ∧ w' = w := by
  have SM := Aside0.mk (len_at c h)
  have hp : 1 ≤ widB c := by
    unfold widB
    split
    · omega
    · split <;> omega
  go_enter Tryz.func20, Tryz.ntmps20
  go_wp2_with (go_at_call 36; refine (SM.out _).mono ?_; rw [if_neg (by omega)]; rintro e w2 ⟨rfl, rfl⟩)
  go_ret
  exact ⟨by first | (simp; done) | (simp; omega), rfl⟩
end Go.Proofs.YtkgdhdjkpnalmaaGreatDoor.P
end
section
namespace Go.Proofs.YtkgdhdjkpnalmaaGreatDoor.P
open Go.RowKit Go.Proofs.YtkgdhdjkpnalmaaGreatDoorW.PrintWords Go.Proofs.YtkgdhdjkpnalmaaGreatDoorW.PrintLast Go.Proofs.YtkgdhdjkpnalmaaGreatDoorW.PrintMore
attribute [local go_sem] zcd zcc zck zcl zb3 zb2 zca zcb
def election_name.f (a0 : Int) : Option (ByteArray) := (zdi.f (IntKind.u64.wrap (a0))).bind fun t101 => (if 1 + t101.size ≤ 9223372036854775807 then (some ((⟨#[118]⟩ : ByteArray) ++ t101)) else (none))
set_option maxHeartbeats 8000000 in
set_option maxRecDepth 100000 in
theorem election_name.calls (a0 : Int) (r : ByteArray) (w : World) (h : election_name.f a0 = some r) :
  Calls Tryz.prog 22 #[.int .i64 a0] w fun e w' => e = .returned (.string r) ∧ Below w.heap.size w w' := by
 have HB := zA0 (Below.refl w.heap.size w); have H : ((zdi.f (IntKind.u64.wrap (a0))).bind fun t101 => (if 1 + t101.size ≤ 9223372036854775807 then (some ((⟨#[118]⟩ : ByteArray) ++ t101)) else (none))) = some r := h; clear h; replace H := Option.bind_eq_some_iff.mp H; obtain ⟨t101, A20, H⟩ := H; replace H : (if 1 + t101.size ≤ 9223372036854775807 then (some ((⟨#[118]⟩ : ByteArray) ++ t101)) else (none)) = some r := H; have A2 := zA0 A20; clear A20
 by_cases c3 : 1 + t101.size ≤ 9223372036854775807
 ·rw [if_pos c3] at H
  have c3b0 := eq_true c3; have c3b1 : decide (1 + t101.size ≤ 9223372036854775807) = true := decide_eq_true c3; (try have c3b2 : (9223372036854775807 < 1 + t101.size) = False := eq_false (Nat.not_lt.2 c3)); obtain rfl := Option.some.inj H; go_enter Tryz.func22, Tryz.ntmps22
  go_wp2_with (first | ((with_reducible refine zax (f := 19) rfl ?_); refine zcg (some 5) rfl rfl Tryz.func19 (by kernel_rfl) rfl #[.int .u64 (IntKind.u64.wrap (a0))] rfl zt ?_; (with_reducible refine (zdi.calls (IntKind.u64.wrap (a0)) t101 _ A2.out).mono ?_); rintro e w4 ⟨rfl, hb⟩; refine ⟨_, rfl, ?_⟩; have n0_ := zA0 (zak (zs0 HB) hb); clear HB; revert n0_; intro HB; clear hb))
  go_ret; exact ⟨yq6, zs0 HB⟩
 ·rw [if_neg c3] at H
  exact absurd H (by simp)
end Go.Proofs.YtkgdhdjkpnalmaaGreatDoor.P
end
