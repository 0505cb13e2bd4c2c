/- What is proved here: a part of the proof of CircuitAppendMul: Cfo. No conditions beside those that each theorem states. -/
import Derived.Test.YtmnleabeipmhmaaDoorKCAMul24
import Derived.Test.YtmnleabeipmhmaaDoorKCAMul27
import Derived.Test.YtmnleabeipmhmaaDoorKCAMul29
import Derived.Deep.RegionHeld3
import Derived.BigQuiet
section
set_option linter.unusedVariables false
set_option linter.unusedSimpArgs false
namespace Go.Proofs.YtmnleabeipmhmaaDoor.P
open Go.RowKit Go.Proofs.YtmnleabeipmhmaaDoorW.PrintWords Go.Proofs.YtmnleabeipmhmaaDoorW.PrintLast Go.Proofs.YtmnleabeipmhmaaDoorW.PrintMore
def gateT (g : S43) : List UInt8 := lineT (ofF g.f0 g.f4).1.word (zcy (ofF g.f0 g.f4).1 g.f1 g.f2 g.f3 g.f4) ++ [10]
def headT (P : Int) : List UInt8 := lineT [112, 114, 105, 109, 101] [P] ++ [10]
def gatesT (l : List S43) : List UInt8 := l.flatMap gateT
def outsT (l : List Int) : List UInt8 := lineT [111, 117, 116] (l.map IntKind.u64.wrap) ++ [10]
def formatT (P : Int) (l0 : List S43) (l1 : List Int) : List UInt8 := headT P ++ gatesT l0 ++ outsT l1
def inU (x : Int) : Bool := decide (0 ≤ x) && decide (x < 18446744073709551616)
theorem form_word (a e : Int) : (ofF a e).1.word.length ≤ 5 := by
  unfold ofF
  split
  · next f hf =>
    have hm := List.mem_of_find?_eq_some hf
    revert hm; revert f
    simp only [forms]
    intro f _ hm
    simp only [List.mem_cons, List.not_mem_nil, or_false] at hm
    rcases hm with rfl | rfl | rfl | rfl | rfl | rfl | rfl <;> decide
  · decide
theorem nums_U (f : Form) (b c d e : Int) (he : 0 ≤ e ∧ e < 18446744073709551616) : U64 (zcy f b c d e) := by
  intro x hx
  unfold zcy at hx
  simp only [List.mem_append] at hx
  rcases hx with hx | hx | hx | hx <;> split at hx <;> simp only [List.mem_cons, List.not_mem_nil, or_false] at hx <;> first | (subst hx; first | exact he | exact wrap_u64 _)
theorem gateT_le (g : S43) (he : 0 ≤ g.f4 ∧ g.f4 < 18446744073709551616) : (gateT g).length ≤ 100 := by
  have h1 := lineT_le (ofF g.f0 g.f4).1.word _ (nums_U (ofF g.f0 g.f4).1 g.f1 g.f2 g.f3 g.f4 he)
  have h2 := form_word g.f0 g.f4
  have h3 := nums_length (ofF g.f0 g.f4).1 g.f1 g.f2 g.f3 g.f4
  simp only [gateT, List.length_append, List.length_cons, List.length_nil]; omega
theorem gatesT_le : ∀ (l : List S43), (∀ g ∈ l, 0 ≤ g.f4 ∧ g.f4 < 18446744073709551616) → (gatesT l).length ≤ 100 * l.length
  | [], _ => by simp [gatesT]
  | g :: r, h => by
    have h1 := gateT_le g (h g (List.mem_cons_self ..))
    have h2 := gatesT_le r (fun y hy => h y (List.mem_cons_of_mem _ hy))
    have h3 : gatesT (g :: r) = gateT g ++ gatesT r := by simp [gatesT]
    rw [h3]
    simp only [List.length_append, List.length_cons]; omega
theorem gatesT_snoc (l : List S43) (g : S43) : gatesT (l ++ [g]) = gatesT l ++ gateT g := by simp [gatesT]
theorem headT_le (P : Int) (hP : 0 ≤ P ∧ P < 18446744073709551616) : (headT P).length ≤ 27 := by
  have := lineT_le [112, 114, 105, 109, 101] [P] (fun x hx => by simp at hx; subst hx; exact hP)
  simp only [List.length_cons, List.length_nil] at this
  simp only [headT, List.length_append, List.length_cons, List.length_nil]; omega
def zca.f (P : Int) (l0 : List S43) (l1 : List Int) : Option (ByteArray × Int) :=
  if validF P l0 l1 = true then (if (inU P && l0.all (fun g => inU g.f4)) = true then some (⟨(formatT P l0 l1).toArray⟩, 0) else none) else some (⟨#[]⟩, 1)
set_option maxHeartbeats 8000000 in
set_option maxRecDepth 100000 in
theorem format_bad (P : Int) (A0 : Option Addr) (c0 : Nat) (l0 : List S43) (A1 : Option Addr) (c1 : Nat) (l1 : List Int) (w : World) (hLd : Ld w)
    (hr0 : Kd.C k43 w A0 l0.length l0) (hc0 : l0.length ≤ c0) (hr1 : Kd.C (Kd.int .i64) w A1 l1.length l1) (hc1 : l1.length ≤ c1) (hv : validF P l0 l1 = false) :
    Calls Tryd.prog 19 #[.agg #[.int .u64 P, .slice A0 l0.length c0, .slice A1 l1.length c1]] w fun e w' => e = .returned (.tuple #[.string ⟨#[]⟩, .int .i64 1]) ∧ Below w.heap.size w w' := by
  have hx0 := heap_alloc_new w (.cells #[.int .u64 P, .slice A0 l0.length c0, .slice A1 l1.length c1] 26)
  have hb0 := zao (Below.refl w.heap.size w) (.cells #[.int .u64 P, .slice A0 l0.length c0, .slice A1 l1.length c1] 26)
  have HC : Hid (∀ w1, Below w.heap.size w w1 → Calls Tryd.prog 25 #[.agg #[.int .u64 P, .slice A0 l0.length c0, .slice A1 l1.length c1]] w1 fun r w' => r = .returned (.bool false) ∧ Below w1.heap.size w1 w') := Lib.hid (fun w1 hb => by
    have := valid_calls P A0 c0 l0 A1 c1 l1 w1 (hLd.below hb) (Kd.C_below hr0 hb) hc0 (Kd.C_below hr1 hb) hc1
    rw [hv] at this; exact this)
  clear hr0 hr1 hLd hv
  go_enter Tryd.func19, Tryd.ntmps19
  go_upto_region 1 with (fail)
  generalize w.alloc (.cells #[.int .u64 P, .slice A0 l0.length c0, .slice A1 l1.length c1] 26) = w1 at *
  have HX := Lib.hid hx0
  have HB := Lib.hid hb0
  clear hx0 hb0
  go_wp2_with (first
    | (refine wpList_load_row rfl 26 (.tmp 1) rfl w.heap.size rfl 26 #[.int .u64 P, .slice A0 l0.length c0, .slice A1 l1.length c1] (0, 0) _ HX.out Tryd.underlying26 rfl (by kernel_rfl) ?_)
    | (go_at_call 25; refine (HC.out _ HB.out).mono ?_; rintro r w2 ⟨rfl, hb2⟩))
  go_ret2
  exact ⟨rfl, HB.out.trans (hb2.mono HB.out.size)⟩
set_option maxHeartbeats 16000000 in
set_option maxRecDepth 100000 in
theorem format_good (P : Int) (A0 : Option Addr) (c0 : Nat) (l0 : List S43) (A1 : Option Addr) (c1 : Nat) (l1 : List Int) (w : World) (hLd : Ld w)
    (hr0 : Kd.C k43 w A0 l0.length l0) (hc0 : l0.length ≤ c0) (hr1 : Kd.C (Kd.int .i64) w A1 l1.length l1) (hc1 : l1.length ≤ c1) (hv : validF P l0 l1 = true) (hP : 0 ≤ P ∧ P < 18446744073709551616) (hK : ∀ g ∈ l0, 0 ≤ g.f4 ∧ g.f4 < 18446744073709551616) :
    Calls Tryd.prog 19 #[.agg #[.int .u64 P, .slice A0 l0.length c0, .slice A1 l1.length c1]] w fun e w' => e = .returned (.tuple #[.string ⟨(formatT P l0 l1).toArray⟩, .int .i64 0]) ∧ Below w.heap.size w w' := by
  have hn0 : l0.length ≤ 20000 := by simp [validF] at hv; omega
  have hn1 : l1.length ≤ 1000 := by simp [validF] at hv; omega
  have hx0 := heap_alloc_new w (.cells #[.int .u64 P, .slice A0 l0.length c0, .slice A1 l1.length c1] 26)
  have hb0 := zao (Below.refl w.heap.size w) (.cells #[.int .u64 P, .slice A0 l0.length c0, .slice A1 l1.length c1] 26)
  have HC : Hid (∀ w1, Below w.heap.size w w1 → Calls Tryd.prog 25 #[.agg #[.int .u64 P, .slice A0 l0.length c0, .slice A1 l1.length c1]] w1 fun r w' => r = .returned (.bool true) ∧ Below w1.heap.size w1 w') := Lib.hid (fun w1 hb => by
    have := valid_calls P A0 c0 l0 A1 c1 l1 w1 (hLd.below hb) (Kd.C_below hr0 hb) hc0 (Kd.C_below hr1 hb) hc1
    rw [hv] at this; exact this)
  have HR0 := Lib.hid hr0
  have HR1 := Lib.hid hr1
  have HLD := Lib.hid hLd
  have HKK := Lib.hid hK
  have HPP := Lib.hid hP
  clear hr0 hr1 hLd hv hK hP
  go_enter Tryd.func19, Tryd.ntmps19
  go_upto_region 1 with (fail)
  generalize w.alloc (.cells #[.int .u64 P, .slice A0 l0.length c0, .slice A1 l1.length c1] 26) = w1 at *
  have HX := Lib.hid hx0
  have HB := Lib.hid hb0
  clear hx0 hb0
  go_upto_region 4 with (first
    | (refine wpList_load_row rfl 26 (.tmp 1) rfl w.heap.size rfl 26 #[.int .u64 P, .slice A0 l0.length c0, .slice A1 l1.length c1] (0, 0) _ HX.out Tryd.underlying26 rfl (by kernel_rfl) ?_)
    | (go_at_call 25
       refine (HC.out _ HB.out).mono ?_
       rintro r w2 ⟨rfl, hb2⟩
       have hB2 := HB.out.trans (hb2.mono HB.out.size)
       have HX2 := Lib.hid (zbl HX.out hb2)
       have HR02 := Lib.hid (Kd.C_below HR0.out hB2)
       have HR12 := Lib.hid (Kd.C_below HR1.out hB2)
       have HLD2 := Lib.hid (HLD.out.below hB2)
       have HB2 := Lib.hid hB2
       clear HC HX HR0 HR1 HLD HB hb2 hB2))
  clear w1
  have hI3 := Bld.fresh w2
  have hb3 := zao (Below.refl w2.heap.size w2) (.cells #[.pointer none, .slice none 0 0] 56)
  generalize w2.alloc (.cells #[.pointer none, .slice none 0 0] 56) = w3 at *
  have p0 : w3.cell? ⟨w.heap.size, 0, none⟩ = some (.int .u64 P) := zak (zbl HX2.out hb3) 0
  have HI3 := Lib.hid hI3
  have HB3 := Lib.hid hb3
  clear hI3 hb3
  -- the first line
  have hhl := headT_le P HPP.out
  have hT : headT P = lineT [112, 114, 105, 109, 101] [P] ++ [10] := rfl
  have hHL := line_calls ⟨#[112, 114, 105, 109, 101]⟩ (some ⟨w3.heap.size, 0, none⟩) 1 [P] (w3.alloc (.cells #[.int .u64 P] 22)) (HLD2.out.below (HB3.out.trans ((zao (Below.refl _ w3) (.cells #[.int .u64 P] 22)).mono HB3.out.size))) (one_C w3 P) (fun x hx => by simp at hx; subst hx; exact HPP.out) (show (5 + 21 * 1 : Nat) ≤ 1000000000 by decide)
  rw [show (⟨#[112, 114, 105, 109, 101]⟩ : ByteArray).data.toList = [112, 114, 105, 109, 101] from rfl] at hHL
  rw [hT] at hhl
  generalize lineT [112, 114, 105, 109, 101] [P] = d at *
  have hsd : ((⟨d.toArray⟩ : ByteArray)).size = d.length := by simp [ByteArray.size]
  simp only [List.length_append, List.length_cons, List.length_nil] at hhl
  have x1 : ¬ 9223372036854775807 < d.length + 1 := by omega
  have HHL := Lib.hid hHL
  have HT := Lib.hid hT
  clear hHL hT
  go_upto_region 5 with (first
    | (go_at_call 34
       refine HHL.out.mono ?_
       rintro e w4 ⟨rfl, hb4⟩
       have hb34 := (zao (Below.refl w3.heap.size w3) (.cells #[.int .u64 P] 22)).trans (hb4.mono (by rw [zcq]; omega))
       have HI4 := Lib.hid (HI3.out.below hb34)
       have HB4 := Lib.hid (HB3.out.trans (hb34.mono HB3.out.size))
       clear hb4 hb34 HI3 HB3 HHL)
    | (go_at_call 33
       refine (Bld.writeString w2.heap.size w2.heap.size _ _ w4 HI4.out ?hl HB4.out.size).mono ?_
       (case hl => simp [ByteArray.size]; omega)
       rintro e w5 ⟨rfl, g1, g2, g3⟩
       have HB5 := Lib.hid (HB4.out.trans g2)
       have HI5 : Hid (Bld.Is w2.heap.size w2.heap.size (Lib.byteCells (headT P ++ gatesT (l0.take 0))) w5) := Lib.hid (by
         refine cast (congrArg (fun l => Bld.Is _ _ l w5) ?_) g1
         rw [Lib.strCells_eq, HT.out]; simp [gatesT])
       clear g1 g2 g3 HI4 HB4))
  clear p0 hhl x1 hsd HT
  -- the gates
  have p1 : w5.cell? ⟨w.heap.size, 1, none⟩ = some (.slice A0 l0.length c0) := zak (zbl HX2.out HB5.out) 1
  go_wp2_with fail
  clear p1
  go_loopw [6, 7, 8, 24] (fun _ _ _ v24 wr => ∃ i : Nat, v24 = .int .i64 i ∧ i ≤ l0.length ∧ Bld.Is w2.heap.size w2.heap.size (Lib.byteCells (headT P ++ gatesT (l0.take i))) wr ∧ Below w2.heap.size w2 wr) (fun _ _ _ v24 _ => ((l0.length : Int) - intOf v24).toNat)
  case atStart => exact ⟨0, rfl, Nat.zero_le _, HI5.out, HB5.out⟩
  case round =>
    clear HI5 HB5
    obtain ⟨i, rfl, hi, hI, hB⟩ := hrel
    by_cases hlt : i < l0.length
    · obtain ⟨ad, rfl, e0, e1, e2, e3, e4⟩ := at_T43 (Kd.C_below HR02.out hB) (i : Int) (by omega) (by omega)
      have hg : zae l0 (i : Int) = l0[i] := by simp [zae, hlt]
      rw [hg, Int.toNat_natCast] at e0 e1 e2 e3 e4
      have hKi := HKK.out l0[i] (List.getElem_mem hlt)
      have hnx : gatesT (l0.take (i + 1)) = gatesT (l0.take i) ++ gateT l0[i] := by rw [List.take_succ_eq_append_getElem hlt, gatesT_snoc]
      have hle := gatesT_le (l0.take i) (fun g hg => HKK.out g (List.mem_of_mem_take hg))
      rw [List.length_take] at hle
      have hhd := headT_le P HPP.out
      generalize l0[i] = g at *
      have hgt : gateT g = lineT (ofF g.f0 g.f4).1.word (zcy (ofF g.f0 g.f4).1 g.f1 g.f2 g.f3 g.f4) ++ [10] := rfl
      have hgl := gateT_le g hKi
      have hnl := nums_length (ofF g.f0 g.f4).1 g.f1 g.f2 g.f3 g.f4
      have hnu := nums_U (ofF g.f0 g.f4).1 g.f1 g.f2 g.f3 g.f4 hKi
      have hwl := form_word g.f0 g.f4
      rw [hgt] at hgl
      have HC : Hid (∀ w, Ld w → Calls Tryd.prog 32 #[.agg #[.int .i64 g.f0, .int .i64 g.f1, .int .i64 g.f2, .int .i64 g.f3, .int .u64 g.f4]] w fun r w' => ∃ ok, r = .returned (.tuple #[.agg (ofF g.f0 g.f4).1.cells.toArray, .bool ok]) ∧ Below w.heap.size w w') := Lib.hid (fun w h => (of_calls g.f0 g.f1 g.f2 g.f3 g.f4 w h).mono (fun e w' ⟨h1, h2⟩ => ⟨_, h1, h2⟩))
      generalize (ofF g.f0 g.f4).1 = f at *
      have HC2 : Hid (∀ w, Ld w → Calls Tryd.prog 32 #[.agg #[.int .i64 g.f0, .int .i64 g.f1, .int .i64 g.f2, .int .i64 g.f3, .int .u64 g.f4]] w fun r w' => ∃ ok, r = .returned (.tuple #[.agg #[.string ⟨f.word.toArray⟩, .int .i64 f.kind, .bool f.from_, .bool f.k, .bool f.a, .bool f.b, .bool f.bit], .bool ok]) ∧ Below w.heap.size w w') := HC
      have hlc : ∀ A c W, Ld W → Kd.C (Kd.int .u64) W A (zcy f g.f1 g.f2 g.f3 g.f4).length (zcy f g.f1 g.f2 g.f3 g.f4) → Calls Tryd.prog 34 #[.string ⟨f.word.toArray⟩, .slice A (zcy f g.f1 g.f2 g.f3 g.f4).length c] W fun r w' => r = .returned (.string ⟨(lineT f.word (zcy f g.f1 g.f2 g.f3 g.f4)).toArray⟩) ∧ Below W.heap.size W w' :=
        fun A c W h1 h2 => line_calls ⟨f.word.toArray⟩ A c _ W h1 h2 hnu (by simp [ByteArray.size]; omega)
      generalize lineT f.word (zcy f g.f1 g.f2 g.f3 g.f4) = d at *
      have hsd : ((⟨d.toArray⟩ : ByteArray)).size = d.length := by simp [ByteArray.size]
      simp only [List.length_append, List.length_cons, List.length_nil] at hgl
      have x1 : ¬ 9223372036854775807 < d.length + 1 := by omega
      have HLC := Lib.hid hlc
      clear hlc
      have HNX := Lib.hid hnx
      have HGT := Lib.hid hgt
      have HNL := Lib.hid hnl
      have HNU := Lib.hid hnu
      have HI := Lib.hid hI
      have HB := Lib.hid hB
      have HL := Lib.hid (HLD2.out.below hB)
      have HWL := Lib.hid hwl
      have HDL : Hid (d.length ≤ 99) := Lib.hid (by omega)
      have HGL := Lib.hid hgl
      have HLE := Lib.hid hle
      have HHD := Lib.hid hhd
      clear hg hKi hnx hgt hnl hnu hI hB HC hwl hgl hle hhd
      go_upto_region 8 with (
        refine wpList_store_row rfl 43 (.tmp 6) (.tmp 27) rfl wr.heap.size #[.int .i64 g.f0, .int .i64 g.f1, .int .i64 g.f2, .int .i64 g.f3, .int .u64 g.f4] ?e1 ?e2 43 #[.int .i64 0, .int .i64 0, .int .i64 0, .int .i64 0, .int .u64 0] (heap_alloc_new wr _) ?e4 ?e5 ?e6 ?_
        (case e1 => rfl)
        (case e2 => rfl)
        (case e4 => kernel_rfl)
        (case e5 => rfl)
        (case e6 => simp [Value.oneCell'])
        rw [World.setRow_alloc_new]
        have hnw := heap_alloc_new wr (.cells #[.int .i64 g.f0, .int .i64 g.f1, .int .i64 g.f2, .int .i64 g.f3, .int .u64 g.f4] 43)
        have hb2 := zao (Below.refl wr.heap.size wr) (.cells #[.int .i64 g.f0, .int .i64 g.f1, .int .i64 g.f2, .int .i64 g.f3, .int .u64 g.f4] 43)
        have HI6 := Lib.hid (HI.out.below hb2)
        have HB6 := Lib.hid (HB.out.trans (hb2.mono HB.out.size))
        have HL6 := Lib.hid (HL.out.below hb2)
        have HGB : Hid (wr.heap.size ≠ w2.heap.size) := Lib.hid (by have := HI.out.le; omega)
        generalize wr.alloc (.cells #[.int .i64 g.f0, .int .i64 g.f1, .int .i64 g.f2, .int .i64 g.f3, .int .u64 g.f4] 43) = w6 at *
        generalize wr.heap.size = gB at *
        have HG6 := Lib.hid hnw
        clear hnw hb2 HI HB HL)
      clear e0 e1 e2 e3 e4
      go_upto_region 9 with (first
        | (refine wpList_load_row rfl 43 (.tmp 6) rfl gB rfl 43 #[.int .i64 g.f0, .int .i64 g.f1, .int .i64 g.f2, .int .i64 g.f3, .int .u64 g.f4] (0, 0) _ HG6.out Tryd.underlying43 rfl (by kernel_rfl) ?_)
        | (go_at_call 32
           refine (HC2.out _ HL6.out).mono ?_
           rintro r w7 ⟨ok, rfl, hb7⟩
           have HG7 := Lib.hid (zbl HG6.out hb7)
           have HI7 := Lib.hid (HI6.out.below hb7)
           have HB7 := Lib.hid (HB6.out.trans (hb7.mono HB6.out.size))
           clear HG6 HI6 HB6 HL6 hb7)
        | (refine wpList_store_row rfl 50 (.tmp 7) (.tmp 31) rfl w7.heap.size #[.string ⟨f.word.toArray⟩, .int .i64 f.kind, .bool f.from_, .bool f.k, .bool f.a, .bool f.b, .bool f.bit] ?e1 ?e2 50 #[.string ⟨#[]⟩, .int .i64 0, .bool false, .bool false, .bool false, .bool false, .bool false] (heap_alloc_new w7 _) ?e4 ?e5 ?e6 ?_
           (case e1 => rfl)
           (case e2 => rfl)
           (case e4 => kernel_rfl)
           (case e5 => rfl)
           (case e6 => simp [Value.oneCell'])
           rw [World.setRow_alloc_new]
           have hnw := heap_alloc_new w7 (.cells #[.string ⟨f.word.toArray⟩, .int .i64 f.kind, .bool f.from_, .bool f.k, .bool f.a, .bool f.b, .bool f.bit] 50)
           have hb2 := zao (Below.refl w7.heap.size w7) (.cells #[.string ⟨f.word.toArray⟩, .int .i64 f.kind, .bool f.from_, .bool f.k, .bool f.a, .bool f.b, .bool f.bit] 50)
           have HG8 := Lib.hid (zbl HG7.out hb2)
           have HI8 := Lib.hid (HI7.out.below hb2)
           have HB8 := Lib.hid (HB7.out.trans (hb2.mono HB7.out.size))
           have HFB : Hid (w7.heap.size ≠ w2.heap.size) := Lib.hid (by have := HI7.out.le; omega)
           generalize w7.alloc (.cells #[.string ⟨f.word.toArray⟩, .int .i64 f.kind, .bool f.from_, .bool f.k, .bool f.a, .bool f.b, .bool f.bit] 50) = w8 at *
           generalize w7.heap.size = fB at *
           have HF8 := Lib.hid hnw
           clear hnw hb2 HG7 HI7 HB7))
      clear HC2
      have hu1 := Tryd.underlying50
      have hu2 := Tryd.underlying43
      have hS : w8.drew.cell? ⟨fB, 0, none⟩ = some (.string ⟨f.word.toArray⟩) ∧ w8.drew.cell? ⟨fB, 1, none⟩ = some (.int .i64 f.kind) ∧ w8.drew.cell? ⟨fB, 2, none⟩ = some (.bool f.from_) ∧ w8.drew.cell? ⟨fB, 3, none⟩ = some (.bool f.k) ∧ w8.drew.cell? ⟨fB, 4, none⟩ = some (.bool f.a) ∧ w8.drew.cell? ⟨fB, 5, none⟩ = some (.bool f.b) ∧ w8.drew.cell? ⟨fB, 6, none⟩ = some (.bool f.bit) ∧ w8.drew.cell? ⟨gB, 0, none⟩ = some (.int .i64 g.f0) ∧ w8.drew.cell? ⟨gB, 1, none⟩ = some (.int .i64 g.f1) ∧ w8.drew.cell? ⟨gB, 2, none⟩ = some (.int .i64 g.f2) ∧ w8.drew.cell? ⟨gB, 3, none⟩ = some (.int .i64 g.f3) ∧ w8.drew.cell? ⟨gB, 4, none⟩ = some (.int .u64 g.f4) := ⟨zak HF8.out 0, zak HF8.out 1, zak HF8.out 2, zak HF8.out 3, zak HF8.out 4, zak HF8.out 5, zak HF8.out 6, zak HG8.out 0, zak HG8.out 1, zak HG8.out 2, zak HG8.out 3, zak HG8.out 4⟩
      obtain ⟨s0, s1, s2, s3, s4, s5, s6, t0, t1, t2, t3, t4⟩ := hS
      go_region_held3 (fun w' => w'.cell? ⟨fB, 0, none⟩ = some (.string ⟨f.word.toArray⟩) ∧ w'.cell? ⟨fB, 1, none⟩ = some (.int .i64 f.kind) ∧ w'.cell? ⟨fB, 2, none⟩ = some (.bool f.from_) ∧ w'.cell? ⟨fB, 3, none⟩ = some (.bool f.k) ∧ w'.cell? ⟨fB, 4, none⟩ = some (.bool f.a) ∧ w'.cell? ⟨fB, 5, none⟩ = some (.bool f.b) ∧ w'.cell? ⟨fB, 6, none⟩ = some (.bool f.bit) ∧ w'.cell? ⟨gB, 0, none⟩ = some (.int .i64 g.f0) ∧ w'.cell? ⟨gB, 1, none⟩ = some (.int .i64 g.f1) ∧ w'.cell? ⟨gB, 2, none⟩ = some (.int .i64 g.f2) ∧ w'.cell? ⟨gB, 3, none⟩ = some (.int .i64 g.f3) ∧ w'.cell? ⟨gB, 4, none⟩ = some (.int .u64 g.f4)) (first | exact ⟨s0, s1, s2, s3, s4, s5, s6, t0, t1, t2, t3, t4⟩ | assumption)
        (first
        | (go_at_call 35
           refine (numbers_calls f g.f0 g.f1 g.f2 g.f3 g.f4 w8.drew).mono ?_
           rintro e w9 ⟨v, rfl, hR, hb9⟩
           obtain ⟨A, c, rfl⟩ := Kd.R_slice hR
           have hC := (Kd.R_reads' hR).2.2
           have HF9 := Lib.hid (zbl (w := w8.drew) HF8.out hb9)
           have HG9 := Lib.hid (zbl (w := w8.drew) HG8.out hb9)
           have HI9 := Lib.hid (Bld.Is.below (w := w8.drew) HI8.out hb9)
           have HB9 := Lib.hid ((HB8.out.trans ((Below.refl _ w8).drew)).trans (hb9.mono HB8.out.size))
           have HC9 := Lib.hid hC
           have k9 : w9.cell? ⟨fB, 0, none⟩ = some (.string ⟨f.word.toArray⟩) ∧ w9.cell? ⟨fB, 1, none⟩ = some (.int .i64 f.kind) ∧ w9.cell? ⟨fB, 2, none⟩ = some (.bool f.from_) ∧ w9.cell? ⟨fB, 3, none⟩ = some (.bool f.k) ∧ w9.cell? ⟨fB, 4, none⟩ = some (.bool f.a) ∧ w9.cell? ⟨fB, 5, none⟩ = some (.bool f.b) ∧ w9.cell? ⟨fB, 6, none⟩ = some (.bool f.bit) ∧ w9.cell? ⟨gB, 0, none⟩ = some (.int .i64 g.f0) ∧ w9.cell? ⟨gB, 1, none⟩ = some (.int .i64 g.f1) ∧ w9.cell? ⟨gB, 2, none⟩ = some (.int .i64 g.f2) ∧ w9.cell? ⟨gB, 3, none⟩ = some (.int .i64 g.f3) ∧ w9.cell? ⟨gB, 4, none⟩ = some (.int .u64 g.f4) := ⟨zak HF9.out 0, zak HF9.out 1, zak HF9.out 2, zak HF9.out 3, zak HF9.out 4, zak HF9.out 5, zak HF9.out 6, zak HG9.out 0, zak HG9.out 1, zak HG9.out 2, zak HG9.out 3, zak HG9.out 4⟩
           clear hC hR hb9)
        | (go_at_call 34
           refine (HLC.out A c w9 (HLD2.out.below HB9.out) HC9.out).mono ?_
           rintro e w10 ⟨rfl, hb10⟩
           have HF10 := Lib.hid (zbl HF9.out hb10)
           have HG10 := Lib.hid (zbl HG9.out hb10)
           have HI10 := Lib.hid (Bld.Is.below HI9.out hb10)
           have HB10 := Lib.hid (HB9.out.trans (hb10.mono HB9.out.size))
           have k10 : w10.cell? ⟨fB, 0, none⟩ = some (.string ⟨f.word.toArray⟩) ∧ w10.cell? ⟨fB, 1, none⟩ = some (.int .i64 f.kind) ∧ w10.cell? ⟨fB, 2, none⟩ = some (.bool f.from_) ∧ w10.cell? ⟨fB, 3, none⟩ = some (.bool f.k) ∧ w10.cell? ⟨fB, 4, none⟩ = some (.bool f.a) ∧ w10.cell? ⟨fB, 5, none⟩ = some (.bool f.b) ∧ w10.cell? ⟨fB, 6, none⟩ = some (.bool f.bit) ∧ w10.cell? ⟨gB, 0, none⟩ = some (.int .i64 g.f0) ∧ w10.cell? ⟨gB, 1, none⟩ = some (.int .i64 g.f1) ∧ w10.cell? ⟨gB, 2, none⟩ = some (.int .i64 g.f2) ∧ w10.cell? ⟨gB, 3, none⟩ = some (.int .i64 g.f3) ∧ w10.cell? ⟨gB, 4, none⟩ = some (.int .u64 g.f4) := ⟨zak HF10.out 0, zak HF10.out 1, zak HF10.out 2, zak HF10.out 3, zak HF10.out 4, zak HF10.out 5, zak HF10.out 6, zak HG10.out 0, zak HG10.out 1, zak HG10.out 2, zak HG10.out 3, zak HG10.out 4⟩
           clear hb10)
        | (go_at_call 33
           refine (Bld.writeString w2.heap.size w2.heap.size _ _ w10 HI10.out ?hl HB10.out.size).mono ?_
           (case hl => have h1 := HLE.out; have h2 := HHD.out; have h3 := HDL.out; simp [ByteArray.size, Lib.byteCells_length]; omega)
           rintro e w11 ⟨rfl, g1, g2, g3⟩
           have hF11 := g3 _ _ HF10.out (by simpa using HFB.out) (fun c fz e => by simp at e)
           have hG11 := g3 _ _ HG10.out (by simpa using HGB.out) (fun c fz e => by simp at e)
           have k11 : w11.cell? ⟨fB, 0, none⟩ = some (.string ⟨f.word.toArray⟩) ∧ w11.cell? ⟨fB, 1, none⟩ = some (.int .i64 f.kind) ∧ w11.cell? ⟨fB, 2, none⟩ = some (.bool f.from_) ∧ w11.cell? ⟨fB, 3, none⟩ = some (.bool f.k) ∧ w11.cell? ⟨fB, 4, none⟩ = some (.bool f.a) ∧ w11.cell? ⟨fB, 5, none⟩ = some (.bool f.b) ∧ w11.cell? ⟨fB, 6, none⟩ = some (.bool f.bit) ∧ w11.cell? ⟨gB, 0, none⟩ = some (.int .i64 g.f0) ∧ w11.cell? ⟨gB, 1, none⟩ = some (.int .i64 g.f1) ∧ w11.cell? ⟨gB, 2, none⟩ = some (.int .i64 g.f2) ∧ w11.cell? ⟨gB, 3, none⟩ = some (.int .i64 g.f3) ∧ w11.cell? ⟨gB, 4, none⟩ = some (.int .u64 g.f4) := ⟨zak hF11 0, zak hF11 1, zak hF11 2, zak hF11 3, zak hF11 4, zak hF11 5, zak hF11 6, zak hG11 0, zak hG11 1, zak hG11 2, zak hG11 3, zak hG11 4⟩
           have HB11 := Lib.hid (HB10.out.trans g2)
           have HI11 : Hid (Bld.Is w2.heap.size w2.heap.size (Lib.byteCells (headT P ++ gatesT (l0.take (i + 1)))) w11) := Lib.hid (by
             refine cast (congrArg (fun l => Bld.Is _ _ l w11) ?_) g1
             rw [Lib.strCells_eq, HNX.out, HGT.out]; simp [Lib.byteCells])
           clear g1 g2 g3 hF11 hG11))
      all_goals
        clear s0 s1 s2 s3 s4 s5 s6 t0 t1 t2 t3 t4 k9 k10 k11 x1 hsd hu1 hu2
        go_wp2_with fail
        exact ⟨⟨i + 1, rfl, by omega, HI11.out, HB11.out⟩, by simp only [intOf]; omega⟩
    · have hil : i = l0.length := by omega
      rw [hil, List.take_length] at hI
      have hhd := headT_le P HPP.out
      have hgl := gatesT_le l0 HKK.out
      have hml : (l1.map IntKind.u64.wrap).length = l1.length := List.length_map _
      have p2 : wr.cell? ⟨w.heap.size, 2, none⟩ = some (.slice A1 l1.length c1) := zak (zbl HX2.out hB) 2
      have HML := Lib.hid hml
      have HI := Lib.hid hI
      have HB := Lib.hid hB
      have HH := Lib.hid hhd
      have HGL := Lib.hid hgl
      clear hI hB hil hhd hgl hml
      go_wp2_with fail
      clear p2 hlt hi
      generalize wr = wo at *
      go_loopw [9, 11, 45] (fun v9 _ v45 wr => ∃ i : Nat, v45 = .int .i64 i ∧ i ≤ l1.length ∧ Kd.R (Kd.int .u64) 22 wr wo.heap.size (fun _ => True) v9 ((l1.take i).map IntKind.u64.wrap) ∧ Below wo.heap.size wo wr) (fun _ _ v45 _ => ((l1.length : Int) - intOf v45).toNat)
      case atStart => exact ⟨0, rfl, Nat.zero_le _, Kd.R_nil _ _ _ _ _, Below.refl _ _⟩
      case round =>
        obtain ⟨i, rfl, hi, hR, hB2⟩ := hrel
        by_cases hlt : i < l1.length
        · have hBs := HB.out.trans (hB2.mono HB.out.size)
          obtain ⟨ad, rfl, hcell⟩ := Kd.at_int (Kd.C_below HR12.out hBs) (i : Int) (by omega) (by omega)
          rw [show rd l1 (i : Int) = l1[i] by simp [rd, hlt], Int.toNat_natCast] at hcell
          have hnx : (l1.take (i + 1)).map IntKind.u64.wrap = (l1.take i).map IntKind.u64.wrap ++ [IntKind.u64.wrap l1[i]] := by rw [List.take_succ_eq_append_getElem hlt, List.map_append]; rfl
          have hll : ((l1.take i).map IntKind.u64.wrap).length = i := by rw [List.length_map, List.length_take]; omega
          generalize l1[i] = x at *
          generalize (l1.take i).map IntKind.u64.wrap = ys at *
          have HR := Lib.hid hR
          have HB2 := Lib.hid hB2
          have HNX := Lib.hid hnx
          have HLL := Lib.hid hll
          obtain ⟨A9, c9, e9⟩ := Kd.R_slice hR
          subst e9
          clear hR hB2 hBs hnx hll
          go_wp2_with (
            (with_reducible refine zbi (b := .append) (xs := #[.tmp 49, .tmp 52]) rfl ?_)
            at_builtin
            refine Kd.R_append (Kd.int .u64) (w0 := wo) wo.heap.size rfl (.tmp 49) (.tmp 52) 62 22 (.int .u64 0) 8 rfl Tryd.underlying62 info22 rfl (by decide) (by omega) (.slice A9 ys.length c9) ys (IntKind.u64.wrap x) [.int .u64 (IntKind.u64.wrap x)] (fun _ => True) (fun _ => False) rfl rfl ?aP (fun _ hk => hk.elim) ?aF ?aO ?aB ?aS ?aL ?_
            (case aP => exact rfl)
            (case aF => exact (fun _ _ => trivial))
            (case aO => exact HR.out)
            (case aB => exact HB2.out)
            (case aS => exact HB2.out.size)
            (case aL => have := HLL.out; omega)
            intro v1 w9 ho hb hg hat
            have HO := Lib.hid ho
            have HBN := Lib.hid hb
            clear ho hb hg hat)
          exact ⟨⟨i + 1, rfl, by omega, by rw [HNX.out]; exact HO.out, HBN.out⟩, by simp only [intOf]; omega⟩
        · have hil : i = l1.length := by omega
          rw [hil, List.take_length] at hR
          have hT : outsT l1 = lineT [111, 117, 116] (l1.map IntKind.u64.wrap) ++ [10] := rfl
          have hol := lineT_le [111, 117, 116] (l1.map IntKind.u64.wrap) (fun x hx => by simp only [List.mem_map] at hx; obtain ⟨y, _, rfl⟩ := hx; exact wrap_u64 y)
          have hBs := HB.out.trans (hB2.mono HB.out.size)
          have hu2 : U64 (l1.map IntKind.u64.wrap) := fun x hx => by simp only [List.mem_map] at hx; obtain ⟨y, _, rfl⟩ := hx; exact wrap_u64 y
          generalize l1.map IntKind.u64.wrap = zs at *
          obtain ⟨A9, c9, e9⟩ := Kd.R_slice hR
          subst e9
          have hHL := line_calls ⟨#[111, 117, 116]⟩ A9 c9 zs wr (HLD2.out.below hBs) (Kd.R_reads' hR).2.2 hu2 (by rw [HML.out]; show (3 + 21 * l1.length : Nat) ≤ _; omega)
          rw [show (⟨#[111, 117, 116]⟩ : ByteArray).data.toList = [111, 117, 116] from rfl] at hHL
          have HI2 := Lib.hid (HI.out.below hB2)
          generalize lineT [111, 117, 116] zs = d at *
          have hsd : ((⟨d.toArray⟩ : ByteArray)).size = d.length := by simp [ByteArray.size]
          rw [HML.out] at hol
          simp only [List.length_cons, List.length_nil] at hol
          have x1 : ¬ 9223372036854775807 < d.length + 1 := by omega
          have HHL := Lib.hid hHL
          have HT := Lib.hid hT
          have HBs := Lib.hid hBs
          clear hHL hT hBs hR hB2 hil hu2
          go_wp2_with (first
            | (go_at_call 34
               refine HHL.out.mono ?_
               rintro e w4 ⟨rfl, hb4⟩
               have HI4 := Lib.hid (HI2.out.below hb4)
               have HB4 := Lib.hid (HBs.out.trans (hb4.mono HBs.out.size))
               clear hb4 HI2 HHL HBs)
            | (go_at_call 33
               refine (Bld.writeString w2.heap.size w2.heap.size _ _ w4 HI4.out ?hl HB4.out.size).mono ?_
               (case hl => have h1 := HH.out; have h2 := HGL.out; simp [ByteArray.size, Lib.byteCells_length]; omega)
               rintro e w5 ⟨rfl, g1, g2, g3⟩
               have HB5 := Lib.hid (HB4.out.trans g2)
               have HI5 : Hid (Bld.Is w2.heap.size w2.heap.size (Lib.byteCells (formatT P l0 l1)) w5) := Lib.hid (by
                 refine cast (congrArg (fun l => Bld.Is _ _ l w5) ?_) g1
                 rw [Lib.strCells_eq, formatT, HT.out]; simp [Lib.byteCells])
               clear g1 g2 g3 HI4 HB4)
            | (go_at_call 36
               refine (Bld.string w2.heap.size w2.heap.size _ w5 HI5.out HB5.out.size).mono ?_
               rintro e w7 ⟨rfl, k1, k2, k3⟩))
          go_ret2
          exact ⟨rfl, HB2.out.trans ((HB5.out.trans k2).mono HB2.out.size)⟩
theorem zca.calls (P : Int) (A0 : Option Addr) (c0 : Nat) (l0 : List S43) (A1 : Option Addr) (c1 : Nat) (l1 : List Int) (r1 : ByteArray) (r2 : Int) (w : World) (hLd : Ld w)
    (hr0 : Kd.C k43 w A0 l0.length l0) (hc0 : l0.length ≤ c0) (hr1 : Kd.C (Kd.int .i64) w A1 l1.length l1) (hc1 : l1.length ≤ c1) (h : zca.f P l0 l1 = some (r1, r2)) :
    Calls Tryd.prog 19 #[.agg #[.int .u64 P, .slice A0 l0.length c0, .slice A1 l1.length c1]] w fun e w' => e = .returned (.tuple #[.string r1, .int .i64 r2]) ∧ Below w.heap.size w w' := by
  unfold zca.f at h
  split at h
  · next hv =>
    split at h
    · next hu =>
      cases h
      simp only [Bool.and_eq_true, List.all_eq_true, inU, decide_eq_true_eq] at hu
      exact format_good P A0 c0 l0 A1 c1 l1 w hLd hr0 hc0 hr1 hc1 hv hu.1 hu.2
    · cases h
  · next hv =>
    cases h
    exact format_bad P A0 c0 l0 A1 c1 l1 w hLd hr0 hc0 hr1 hc1 (by simpa using hv)
end Go.Proofs.YtmnleabeipmhmaaDoor.P
end
