/- What is proved here: a part of the proof of CircuitAppendMul: Bld, Cli. No conditions beside those that each theorem states. -/
import Derived.Shelf.Strings.BuilderK
import Derived.WalkKit
import Derived.RangeFuncOwn
import Derived.KernelRfl
import Derived.Test.YtmnleabeipmhmaaDoorKCAMul7
import Derived.Test.YtmnleabeipmhmaaDoorProg
import Derived.Test.YtmnleabeipmhmaaDoorKCAMul26
import Derived.Deep.DeepCutAuto
import Derived.Deep.CutRange
section
set_option linter.unusedVariables false
set_option linter.unusedSimpArgs false
namespace Go.Proofs.YtmnleabeipmhmaaDoor.Bld
open Go.RowKit
theorem infoByte : (Tryd.prog.info? 5).map (fun i => (i.zero, i.size, i.bytes)) = some (some (.int .u8 0), 1, 1) := by kernel_rfl
theorem sizeBuilder : (Tryd.prog.info? 56).map (fun i => i.size) = some 2 := by kernel_rfl
theorem liesBuilder : liesAt Tryd.prog Tryd.prog.depth 56 (2 / Tryd.prog.cellsOf 56) 0 56 1 = true := by kernel_rfl
set_option maxHeartbeats 1000000 in
set_option maxRecDepth 100000 in
theorem check_used (b : Nat) (w : World) (h0 : w.cell? ⟨b, 0, none⟩ = some (.pointer (some ⟨b, 0, none⟩))) :
    Calls Tryd.prog 54 #[.pointer (some ⟨b, 0, none⟩)] w fun e w' => e = .returned (.tuple #[]) ∧ w' = w := by
  obtain ⟨j, hj, _⟩ := Option.map_eq_some_iff.1 sizeBuilder
  go_enter Tryd.func54, Tryd.ntmps54
  go_wp2
  rw [Lib.run_neq_ptr_same w _ Tryd.underlying53 hj]
  go_wp2
  go_end0
  exact ⟨rfl, rfl⟩
set_option maxHeartbeats 1000000 in
set_option maxRecDepth 100000 in
theorem check_fresh (b : Nat) (w : World) (h0 : w.cell? ⟨b, 0, none⟩ = some (.pointer none)) (hsh : w.shape? b = some (56, 2)) (hfz : w.frozen? ⟨b, 0, none⟩ = false) :
    Calls Tryd.prog 54 #[.pointer (some ⟨b, 0, none⟩)] w fun e w' => e = .returned (.tuple #[]) ∧ w' = w.setCell ⟨b, 0, none⟩ (.pointer (some ⟨b, 0, none⟩)) := by
  obtain ⟨j, hj, hjs⟩ := Option.map_eq_some_iff.1 sizeBuilder
  go_enter Tryd.func54, Tryd.ntmps54
  go_wp2
  rw [Lib.run_to_unsafe w ⟨b, 0, none⟩ Tryd.underlying53 Tryd.underlying101 hj (by rw [hjs]; decide) hsh (Nat.zero_lt_succ 1)]
  simp only [Result.andThen]
  rw [Oper.upon_value]
  go_wp2
  rw [run_callFunc_extern Tryd.func67 (by kernel_rfl) (by kernel_rfl) (by kernel_rfl) (e := Extern.AbiNoEscape.same) (by kernel_rfl)]
  rw [Lib.run_noEscape]
  simp only [Result.andThen]
  rw [Oper.upon_value]
  go_wp2
  rw [Lib.run_from_unsafe w ⟨b, 0, none⟩ Tryd.underlying101 Tryd.underlying53 hj hsh liesBuilder]
  simp only [Result.andThen]
  rw [Oper.upon_value]
  go_wp2
  go_end0
  exact ⟨rfl, rfl⟩
abbrev Is (B b : Nat) (bs : List Value) (w : World) : Prop := Lib.IsBuilderF 56 5 B b bs w
abbrev Oth (b : Nat) (w w' : World) : Prop := Lib.OthersKept 5 (some b) w w'
theorem check (B b : Nat) (bs : List Value) (w : World) (h : Is B b bs w) :
    Calls Tryd.prog 54 #[.pointer (some ⟨b, 0, none⟩)] w fun e w' => e = .returned (.tuple #[]) ∧ (Lib.BuilderAtF 56 5 B b (.pointer (some ⟨b, 0, none⟩)) bs w' ∧ Below B w w' ∧ Oth b w w') := by
  rcases h with h | h
  · refine (check_fresh b w h.cell0 h.shape h.frozen0).mono ?_
    rintro e w' ⟨rfl, rfl⟩
    exact ⟨rfl, h.used _, (Below.refl B w).setCell (p := ⟨b, 0, none⟩) h.1 _, (Lib.OthersKept.refl _ _ w).setCell ⟨b, 0, none⟩ rfl _⟩
  · refine (check_used b w h.cell0).mono ?_
    rintro e w' ⟨rfl, rfl⟩
    exact ⟨rfl, h, Below.refl B _, Lib.OthersKept.refl _ _ _⟩
set_option maxHeartbeats 2000000 in
set_option maxRecDepth 100000 in
theorem writeString (B b : Nat) (bs : List Value) (s : ByteArray) (w : World) (h : Is B b bs w) (hlen : bs.length + s.size ≤ 140737488355328) (hBw : B ≤ w.heap.size) :
    Calls Tryd.prog 33 #[.pointer (some ⟨b, 0, none⟩), .string s] w fun e w' => e = .returned (.tuple #[.int .i64 s.size, .nilIface]) ∧ (Is B b (bs ++ Lib.strCells s) w' ∧ Below B w w' ∧ Oth b w w') := by
  obtain ⟨i0, hi, hz0, hz1, hz2⟩ := info_parts infoByte
  go_enter Tryd.func33, Tryd.ntmps33
  go_wp2_with (go_at_call 54; refine (check B b bs _ h).mono ?_)
  rintro e w1 ⟨rfl, h1, hb1, hk1⟩
  obtain ⟨hB, v, hbk, hown, hne⟩ := h1
  have c0 : w1.cell? ⟨b, 0, none⟩ = some (.pointer (some ⟨b, 0, none⟩)) := by rw [Lib.cell_of_heap hbk]; rfl
  have c1 : w1.cell? ⟨b, 1, none⟩ = some v := by rw [Lib.cell_of_heap hbk]; rfl
  go_wp2_with (at_builtin; refine Lib.wpList_append_own_stringF _ rfl _ _ 54 9 rfl B 5 i0 Tryd.underlying54 Tryd.underlying9 hi hz0 hz1 hz2 _ _ _ rfl hown s rfl ?c3 ?c4 ?c5 ?_)
  case c3 => unfold maxLen; omega
  case c4 => omega
  case c5 => have := hb1.size; omega
  intro v' w2 hown' hgrow _
  have hlt : b < w1.heap.size := by
    rcases Nat.lt_or_ge b w1.heap.size with h' | h'
    · exact h'
    · simp [Array.getElem?_eq_none h'] at hbk
  have hb2 : w2.heap[b]? = some (.cells #[.pointer (some ⟨b, 0, none⟩), v] 56 (0, 0)) := by
    rw [hgrow.block b hlt (fun e => hne e.symm)]
    exact hbk
  have d0 : w2.cell? ⟨b, 0, none⟩ = some (.pointer (some ⟨b, 0, none⟩)) := by rw [Lib.cell_of_heap hb2]; rfl
  have d1 : w2.cell? ⟨b, 1, none⟩ = some v := by rw [Lib.cell_of_heap hb2]; rfl
  have f1 : w2.frozen? ⟨b, 1, none⟩ = false := Lib.frozen_of_heap hb2 1
  obtain ⟨ao, n', cap, rfl⟩ : ∃ ao n' cap, v' = .slice ao n' cap := by
    rcases hown'.2 with ⟨hv, _⟩ | ⟨g, cap, cur, fz, hv, _⟩
    · exact ⟨_, _, _, hv⟩
    · exact ⟨_, _, _, hv⟩
  go_wp2
  go_ret2
  refine ⟨rfl, ?_, ?_, (hk1.grown hgrow (Lib.ownsRowF_kind hown)).setCell ⟨b, 1, none⟩ rfl _⟩
  · exact Or.inr (Lib.BuilderAtF.put (T := 56) (e := 5) hB hb2 (bs' := bs ++ Lib.strCells s) (by simpa [Lib.strCells_length] using hown') (by decide))
  · exact (hb1.grown hgrow (by have := hb1.size; omega) (fun k hk => (hown.lt k hk).1)).setCell (p := ⟨b, 1, none⟩) hB _
theorem string (B b : Nat) (l : List UInt8) (w : World) (h : Is B b (Lib.byteCells l) w) (hBw : B ≤ w.heap.size) :
    Calls Tryd.prog 36 #[.pointer (some ⟨b, 0, none⟩)] w fun e w' => e = .returned (.string ⟨l.toArray⟩) ∧ (Is B b (Lib.byteCells l) w' ∧ Below B w w' ∧ Oth b w w') := Tryd.Builder_String_any_k B b l w h hBw
theorem fresh (w : World) : Is w.heap.size w.heap.size [] (w.alloc (.cells #[.pointer none, .slice none 0 0] 56)) := Lib.IsBuilderF.of (Lib.fresh_isBuilder _ _ w)
theorem Is.grown {B b : Nat} {bs : List Value} {w w' : World} {row : Option Nat} (h : Is B b bs w) (hg : w.grownBy w' row) (hr : ∀ r, row = some r → ∃ o : Obj, w.heap[r]? = some o ∧ o.isCells = false) : Is B b bs w' := by
  have one : ∀ p, Lib.BuilderAtF 56 5 B b p bs w → Lib.BuilderAtF 56 5 B b p bs w' := by
    rintro p ⟨hB, v, hb, hown, hne⟩
    have hbr : some b ≠ row := fun e => by
      obtain ⟨o, ho, hc⟩ := hr b e.symm
      rw [hb] at ho; cases ho; simp [Obj.isCells] at hc
    refine ⟨hB, v, (hg.block b (Array.getElem?_eq_some_iff.1 hb).1 hbr).trans hb, hown.kept hg ?_, hne⟩
    rcases hown.2 with ⟨rfl, _⟩ | ⟨g, cap, cur, fz, rfl, _, hgg, _⟩
    · exact .inl rfl
    · refine .inr fun e => ?_
      obtain ⟨o, ho, hc⟩ := hr g (by simpa [Value.ownBlock] using e.symm)
      rw [hgg] at ho; cases ho; simp [Obj.isCells] at hc
  exact h.elim (fun x => .inl (one _ x)) (fun x => .inr (one _ x))
theorem Is.below {B b : Nat} {bs : List Value} {w w' : World} (h : Is B b bs w) (hb : Below w.heap.size w w') : Is B b bs w' :=
  Is.grown (row := none) h ⟨hb.os, hb.tape, hb.output, hb.size, fun k hk _ => hb.block k hk⟩ (fun r e => by cases e)
theorem Is.le {B b : Nat} {bs : List Value} {w : World} (h : Is B b bs w) : B ≤ b ∧ b < w.heap.size := by
  rcases h with h | h
  · exact ⟨h.1, h.lt⟩
  · exact ⟨h.1, h.lt⟩
end Go.Proofs.YtmnleabeipmhmaaDoor.Bld
end
section
set_option linter.unusedVariables false
set_option linter.unusedSimpArgs false
namespace Go.Proofs.YtmnleabeipmhmaaDoor.P
open Go.RowKit Go.Proofs.YtmnleabeipmhmaaDoorW.PrintWords Go.Proofs.YtmnleabeipmhmaaDoorW.PrintLast Go.Proofs.YtmnleabeipmhmaaDoorW.PrintMore
def numT (x : Int) : List UInt8 := 32 :: Lib.decDigits x.toNat
def lineT (word : List UInt8) (l : List Int) : List UInt8 := word ++ l.flatMap numT
def U64 (l : List Int) : Prop := ∀ x ∈ l, 0 ≤ x ∧ x < 18446744073709551616
theorem dec_le (u : Nat) (hu : u < 18446744073709551616) : (Lib.decDigits u).length ≤ 20 := by
  rw [Lib.decDigits_length]
  by_cases h : 1 ≤ u
  · have := Lib.numDigits_eq u h hu; split at this <;> omega
  · have : u = 0 := by omega
    subst this
    rw [Lib.nDigits]
    simp
theorem numT_le (x : Int) (h : 0 ≤ x ∧ x < 18446744073709551616) : (numT x).length ≤ 21 := by
  have := dec_le x.toNat (by omega)
  simp only [numT, List.length_cons]; omega
theorem nums_le : ∀ (l : List Int), U64 l → (l.flatMap numT).length ≤ 21 * l.length
  | [], _ => by simp
  | x :: r, h => by
    have h1 := numT_le x (h x (List.mem_cons_self ..))
    have h2 := nums_le r (fun y hy => h y (List.mem_cons_of_mem _ hy))
    simp only [List.flatMap_cons, List.length_append, List.length_cons]; omega
theorem lineT_le (word : List UInt8) (l : List Int) (h : U64 l) : (lineT word l).length ≤ word.length + 21 * l.length := by
  have := nums_le l h
  simp only [lineT, List.length_append]; omega
theorem lineT_snoc (word : List UInt8) (l : List Int) (x : Int) : lineT word (l ++ [x]) = lineT word l ++ numT x := by simp [lineT]
set_option maxHeartbeats 4000000 in
set_option maxRecDepth 100000 in
theorem line_calls (word : ByteArray) (A : Option Addr) (c : Nat) (l : List Int) (w : World) (hLd : Ld w) (hr : Kd.C (Kd.int .u64) w A l.length l) (hu : U64 l) (hsz : word.size + 21 * l.length ≤ 1000000000) :
    Calls Tryd.prog 34 #[.string word, .slice A l.length c] w fun r w' => r = .returned (.string ⟨(lineT word.data.toList l).toArray⟩) ∧ Below w.heap.size w w' := by
  have hI0 := Bld.fresh w
  have hB0 := zao (Below.refl w.heap.size w) (.cells #[.pointer none, .slice none 0 0] 56)
  have HR := Lib.hid hr
  have HLD := Lib.hid hLd
  have HU := Lib.hid hu
  have hws : word.data.toList.length = word.size := Array.length_toList
  clear hr hLd hu
  go_enter Tryd.func34, Tryd.ntmps34
  go_upto_region 2 with (fail)
  generalize w.alloc (.cells #[.pointer none, .slice none 0 0] 56) = w1 at *
  have HI := Lib.hid hI0
  have HB := Lib.hid hB0
  clear hI0 hB0
  go_upto_region 3 with (go_at_call 33; refine (Bld.writeString w.heap.size w.heap.size [] word w1 HI.out (by simp; omega) HB.out.size).mono ?_; rintro e w2 ⟨rfl, g1, g2, g3⟩)
  have HI2 : Hid (Bld.Is w.heap.size w.heap.size (Lib.byteCells (lineT word.data.toList (l.take 0))) w2) := Lib.hid (by
    refine cast (congrArg (fun l => Bld.Is _ _ l w2) ?_) g1
    rw [Lib.strCells_eq]; simp [lineT])
  have HB2 := Lib.hid (HB.out.trans g2)
  clear g1 g2 g3 HI HB w1
  go_wp2_with fail
  go_loopw [7, 12] (fun _ v12 wr => ∃ i : Nat, v12 = .int .i64 i ∧ i ≤ l.length ∧ Bld.Is w.heap.size w.heap.size (Lib.byteCells (lineT word.data.toList (l.take i))) wr ∧ Below w.heap.size w wr) (fun _ v12 _ => ((l.length : Int) - intOf v12).toNat)
  case atStart => exact ⟨0, rfl, Nat.zero_le _, HI2.out, HB2.out⟩
  case round =>
    clear HI2 HB2
    obtain ⟨i, rfl, hi, hI, hB⟩ := hrel
    by_cases hlt : i < l.length
    · have hx := HU.out l[i] (List.getElem_mem hlt)
      have hnx : lineT word.data.toList (l.take (i + 1)) = lineT word.data.toList (l.take i) ++ numT l[i] := by rw [List.take_succ_eq_append_getElem hlt, lineT_snoc]
      have hll := lineT_le word.data.toList (l.take i) (fun y hy => HU.out y (List.mem_of_mem_take hy))
      rw [List.length_take] at hll
      obtain ⟨ad, rfl, hcell⟩ := Kd.at_int (Kd.C_below HR.out hB) (i : Int) (by omega) (by omega)
      rw [show rd l (i : Int) = l[i] by simp [rd, hlt], Int.toNat_natCast] at hcell
      generalize l[i] = x at hcell hx hnx
      have hf : zb9.f x = some ⟨(Lib.decDigits x.toNat).toArray⟩ := by
        unfold zb9.f
        rw [gate_eq, if_pos (by simp; omega)]
      have hd := dec_le x.toNat (by omega)
      have hnT : numT x = [32] ++ Lib.decDigits x.toNat := rfl
      generalize hT : lineT word.data.toList (l.take i) = T at *
      generalize Lib.decDigits x.toNat = d at *
      have HC := fun w h => zb9.calls x _ w h hf
      have HCH := Lib.hid HC
      have HNX := Lib.hid hnx
      have HNT := Lib.hid hnT
      have HI := Lib.hid hI
      have HB := Lib.hid hB
      have hsd : ((⟨d.toArray⟩ : ByteArray)).size = d.length := by simp [ByteArray.size]
      have x1 : ¬ 9223372036854775807 < 1 + d.length := by omega
      clear HC hf hnx hnT hI hB
      go_wp2_with (first
        | (go_at_call 55
           refine (HCH.out wr (HLD.out.below HB.out)).mono ?_
           rintro e w2 ⟨rfl, hb2⟩
           have HI2 := Lib.hid (HI.out.below hb2)
           have HB2 := Lib.hid (HB.out.trans (hb2.mono HB.out.size))
           clear hb2 HI HB)
        | (go_at_call 33
           refine (Bld.writeString w.heap.size w.heap.size _ _ w2 HI2.out ?hl HB2.out.size).mono ?_
           (case hl => rw [Lib.byteCells_length]; simp [ByteArray.size]; omega)
           rintro e w3 ⟨rfl, g1, g2, g3⟩))
      refine ⟨⟨i + 1, rfl, by omega, ?_, HB2.out.trans g2⟩, by simp only [intOf]; omega⟩
      refine cast (congrArg (fun l => Bld.Is _ _ l w3) ?_) g1
      rw [Lib.strCells_eq, HNX.out, HNT.out]
      simp [Lib.byteCells]
    · have hil : i = l.length := by omega
      subst hil
      rw [List.take_length] at hI
      go_wp2_with (go_at_call 36; refine (Bld.string w.heap.size w.heap.size _ wr hI hB.size).mono ?_; rintro e w7 ⟨rfl, k1, k2, k3⟩)
      go_ret
      exact ⟨rfl, hB.trans k2⟩
end Go.Proofs.YtmnleabeipmhmaaDoor.P
end
