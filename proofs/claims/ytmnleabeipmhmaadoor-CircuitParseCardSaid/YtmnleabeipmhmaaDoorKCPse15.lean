/- What is proved here: a part of the proof of CircuitParse: Cli. No conditions beside those that each theorem states. -/
import Derived.Test.YtmnleabeipmhmaaDoorKCPse14
import Derived.Deep.DeepCutAuto
import Derived.Deep.CutRange
section
set_option linter.unusedVariables false
set_option linter.unusedSimpArgs false
namespace Go.Proofs.YtmnleabeipmhmaaDoor.P
open Go.RowKit Go.Proofs.YtmnleabeipmhmaaDoorW.PrintWords Go.Proofs.YtmnleabeipmhmaaDoorW.PrintLast Go.Proofs.YtmnleabeipmhmaaDoorW.PrintMore
def numT (x : Int) : List UInt8 := 32 :: Lib.decDigits x.toNat
def lineT (word : List UInt8) (l : List Int) : List UInt8 := word ++ l.flatMap numT
def U64 (l : List Int) : Prop := ∀ x ∈ l, 0 ≤ x ∧ x < 18446744073709551616
theorem dec_le (u : Nat) (hu : u < 18446744073709551616) : (Lib.decDigits u).length ≤ 20 := by
  rw [Lib.decDigits_length]
  by_cases h : 1 ≤ u
  · have := Lib.numDigits_eq u h hu; split at this <;> omega
  · have : u = 0 := by omega
    subst this
    rw [Lib.nDigits]
    simp
theorem numT_le (x : Int) (h : 0 ≤ x ∧ x < 18446744073709551616) : (numT x).length ≤ 21 := by
  have := dec_le x.toNat (by omega)
  simp only [numT, List.length_cons]; omega
theorem nums_le : ∀ (l : List Int), U64 l → (l.flatMap numT).length ≤ 21 * l.length
  | [], _ => by simp
  | x :: r, h => by
    have h1 := numT_le x (h x (List.mem_cons_self ..))
    have h2 := nums_le r (fun y hy => h y (List.mem_cons_of_mem _ hy))
    simp only [List.flatMap_cons, List.length_append, List.length_cons]; omega
theorem lineT_le (word : List UInt8) (l : List Int) (h : U64 l) : (lineT word l).length ≤ word.length + 21 * l.length := by
  have := nums_le l h
  simp only [lineT, List.length_append]; omega
theorem lineT_snoc (word : List UInt8) (l : List Int) (x : Int) : lineT word (l ++ [x]) = lineT word l ++ numT x := by simp [lineT]
set_option maxHeartbeats 4000000 in
set_option maxRecDepth 100000 in
theorem line_calls (word : ByteArray) (A : Option Addr) (c : Nat) (l : List Int) (w : World) (hLd : Ld w) (hr : Kd.C (Kd.int .u64) w A l.length l) (hu : U64 l) (hsz : word.size + 21 * l.length ≤ 1000000000) :
    Calls Tryd.prog 34 #[.string word, .slice A l.length c] w fun r w' => r = .returned (.string ⟨(lineT word.data.toList l).toArray⟩) ∧ Below w.heap.size w w' := by
  have hI0 := Bld.fresh w
  have hB0 := zan (Below.refl w.heap.size w) (.cells #[.pointer none, .slice none 0 0] 56)
  have HR := Lib.hid hr
  have HLD := Lib.hid hLd
  have HU := Lib.hid hu
  have hws : word.data.toList.length = word.size := Array.length_toList
  clear hr hLd hu
  go_enter Tryd.func34, Tryd.ntmps34
  go_upto_region 2 with (fail)
  generalize w.alloc (.cells #[.pointer none, .slice none 0 0] 56) = w1 at *
  have HI := Lib.hid hI0
  have HB := Lib.hid hB0
  clear hI0 hB0
  go_upto_region 3 with (go_at_call 33; refine (Bld.writeString w.heap.size w.heap.size [] word w1 HI.out (by simp; omega) HB.out.size).mono ?_; rintro e w2 ⟨rfl, g1, g2, g3⟩)
  have HI2 : Hid (Bld.Is w.heap.size w.heap.size (Lib.byteCells (lineT word.data.toList (l.take 0))) w2) := Lib.hid (by
    refine cast (congrArg (fun l => Bld.Is _ _ l w2) ?_) g1
    rw [Lib.strCells_eq]; simp [lineT])
  have HB2 := Lib.hid (HB.out.trans g2)
  clear g1 g2 g3 HI HB w1
  go_wp2_with fail
  go_loopw [7, 12] (fun _ v12 wr => ∃ i : Nat, v12 = .int .i64 i ∧ i ≤ l.length ∧ Bld.Is w.heap.size w.heap.size (Lib.byteCells (lineT word.data.toList (l.take i))) wr ∧ Below w.heap.size w wr) (fun _ v12 _ => ((l.length : Int) - intOf v12).toNat)
  case atStart => exact ⟨0, rfl, Nat.zero_le _, HI2.out, HB2.out⟩
  case round =>
    clear HI2 HB2
    obtain ⟨i, rfl, hi, hI, hB⟩ := hrel
    by_cases hlt : i < l.length
    · have hx := HU.out l[i] (List.getElem_mem hlt)
      have hnx : lineT word.data.toList (l.take (i + 1)) = lineT word.data.toList (l.take i) ++ numT l[i] := by rw [List.take_succ_eq_append_getElem hlt, lineT_snoc]
      have hll := lineT_le word.data.toList (l.take i) (fun y hy => HU.out y (List.mem_of_mem_take hy))
      rw [List.length_take] at hll
      obtain ⟨ad, rfl, hcell⟩ := Kd.at_int (Kd.C_below HR.out hB) (i : Int) (by omega) (by omega)
      rw [show rd l (i : Int) = l[i] by simp [rd, hlt], Int.toNat_natCast] at hcell
      generalize l[i] = x at hcell hx hnx
      have hf : zcn.f x = some ⟨(Lib.decDigits x.toNat).toArray⟩ := by
        unfold zcn.f
        rw [gate_eq, if_pos (by simp; omega)]
      have hd := dec_le x.toNat (by omega)
      have hnT : numT x = [32] ++ Lib.decDigits x.toNat := rfl
      generalize hT : lineT word.data.toList (l.take i) = T at *
      generalize Lib.decDigits x.toNat = d at *
      have HC := fun w h => zcn.calls x _ w h hf
      have HCH := Lib.hid HC
      have HNX := Lib.hid hnx
      have HNT := Lib.hid hnT
      have HI := Lib.hid hI
      have HB := Lib.hid hB
      have hsd : ((⟨d.toArray⟩ : ByteArray)).size = d.length := by simp [ByteArray.size]
      have x1 : ¬ 9223372036854775807 < 1 + d.length := by omega
      clear HC hf hnx hnT hI hB
      go_wp2_with (first
        | (go_at_call 55
           refine (HCH.out wr (HLD.out.below HB.out)).mono ?_
           rintro e w2 ⟨rfl, hb2⟩
           have HI2 := Lib.hid (HI.out.below hb2)
           have HB2 := Lib.hid (HB.out.trans (hb2.mono HB.out.size))
           clear hb2 HI HB)
        | (go_at_call 33
           refine (Bld.writeString w.heap.size w.heap.size _ _ w2 HI2.out ?hl HB2.out.size).mono ?_
           (case hl => rw [Lib.byteCells_length]; simp [ByteArray.size]; omega)
           rintro e w3 ⟨rfl, g1, g2, g3⟩))
      refine ⟨⟨i + 1, rfl, by omega, ?_, HB2.out.trans g2⟩, by simp only [intOf]; omega⟩
      refine cast (congrArg (fun l => Bld.Is _ _ l w3) ?_) g1
      rw [Lib.strCells_eq, HNX.out, HNT.out]
      simp [Lib.byteCells]
    · have hil : i = l.length := by omega
      subst hil
      rw [List.take_length] at hI
      go_wp2_with (go_at_call 36; refine (Bld.string w.heap.size w.heap.size _ wr hI hB.size).mono ?_; rintro e w7 ⟨rfl, k1, k2, k3⟩)
      go_ret
      exact ⟨rfl, hB.trans k2⟩
end Go.Proofs.YtmnleabeipmhmaaDoor.P
end
