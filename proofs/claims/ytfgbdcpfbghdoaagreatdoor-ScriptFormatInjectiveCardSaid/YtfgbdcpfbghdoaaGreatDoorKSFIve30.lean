/- What is proved here: a part of the proof of ScriptFormatInjective: Sfo. No conditions beside those that each theorem states. -/
import Derived.Test.YtfgbdcpfbghdoaaGreatDoorKSFIve22
import Derived.Test.YtfgbdcpfbghdoaaGreatDoorKSFIve29
import Derived.Test.YtfgbdcpfbghdoaaGreatDoorKSFIve13
import Derived.Deep.WholeRow
section
set_option linter.unusedVariables false
set_option linter.unusedSimpArgs false
namespace Go.Proofs.YtfgbdcpfbghdoaaGreatDoor.P
open Go.RowKit Go.Proofs.YtfgbdcpfbghdoaaGreatDoorW.PrintWords Go.Proofs.YtfgbdcpfbghdoaaGreatDoorW.PrintLast Go.Proofs.YtfgbdcpfbghdoaaGreatDoorW.PrintMore
def mayC (x : S36) : Bool := mayF x.f0 x.f1
def wordL (w : ByteArray) : List UInt8 := 32 :: pieceL w
def lineC (x : S36) : List UInt8 := x.f0.data.toList ++ x.f1.flatMap wordL ++ [10]
def formatL (l : List S36) : List UInt8 := l.flatMap lineC
def script_Format.f (l0 : List S36) : Option (ByteArray × Int) :=
  if l0.length ≤ 100000 ∧ (l0.all (fun x => decide (x.f0.size ≤ 140737488355328))) = true then (if l0.all mayC = true then some (⟨(formatL l0).toArray⟩, 0) else some (⟨#[]⟩, 1)) else none
theorem cat_size (P : List UInt8) : ((⟨#[32]⟩ : ByteArray) ++ ⟨P.toArray⟩).size = 1 + P.length := by
  rw [ByteArray.size_append]
  simp [ByteArray.size]
theorem pieceL_le (s : ByteArray) : (pieceL s).length ≤ 2 * s.size + 2 := by
  have h1 := escL_length s.data.toList
  have h2 := nSp_le s.data.toList
  have h3 : s.data.toList.length = s.size := by rw [Array.length_toList]; rfl
  rw [h3] at h1 h2
  unfold pieceL
  split
  · omega
  · simp only [List.length_cons, List.length_append, List.length_nil]; omega
theorem words_le (ws : List ByteArray) (h : wordsF ws = true) : (ws.flatMap wordL).length ≤ 24003 * ws.length := by
  induction ws with
  | nil => simp
  | cons x r ih =>
    simp only [wordsF, List.all_cons, Bool.and_eq_true, decide_eq_true_eq] at h
    have h1 := pieceL_le x
    have h2 := ih h.2
    rw [List.flatMap_cons, List.length_append]
    simp only [wordL, List.length_cons] at *
    omega
theorem may_le {x : S36} (h : mayC x = true) : x.f0.size ≤ 12 ∧ x.f1.length ≤ 40 ∧ wordsF x.f1 = true := by
  simp only [mayC, mayF, verbF, Bool.and_eq_true, decide_eq_true_eq] at h
  exact ⟨h.1.2.2, h.2.1, h.2.2⟩
theorem lineC_le {x : S36} (h : mayC x = true) : (lineC x).length ≤ 1000000 := by
  obtain ⟨h1, h2, h3⟩ := may_le h
  have h4 := words_le x.f1 h3
  have h5 : x.f0.data.toList.length = x.f0.size := by rw [Array.length_toList]; rfl
  simp only [lineC, List.length_append, List.length_cons, List.length_nil]
  omega
theorem formatL_le (l : List S36) (h : l.all mayC = true) : (formatL l).length ≤ 1000000 * l.length := by
  induction l with
  | nil => simp [formatL]
  | cons x r ih =>
    rw [List.all_cons, Bool.and_eq_true] at h
    have h1 := lineC_le h.1
    have h2 := ih h.2
    have h3 : formatL (x :: r) = lineC x ++ formatL r := by simp [formatL]
    rw [h3, List.length_append, List.length_cons]
    omega
set_option maxHeartbeats 16000000 in
set_option maxRecDepth 100000 in
theorem format_calls (A0 : Option Addr) (c0 : Nat) (l0 : List S36) (w : World) (hr0 : Kd.C k36 w A0 l0.length l0) (hc0 : l0.length ≤ c0) (hl : l0.length ≤ 100000) (hv : ∀ x ∈ l0, x.f0.size ≤ 140737488355328) :
    Calls Tryz.prog 13 #[.slice A0 l0.length c0] w fun e w' => e = .returned (if l0.all mayC = true then .tuple #[.string ⟨(formatL l0).toArray⟩, .int .i64 0] else .tuple #[.string ⟨#[]⟩, .int .i64 1]) ∧ Below w.heap.size w w' := by
  obtain ⟨R, hR⟩ : ∃ R : Value, (if l0.all mayC = true then .tuple #[.string ⟨(formatL l0).toArray⟩, .int .i64 0] else .tuple #[.string ⟨#[]⟩, .int .i64 1]) = R := ⟨_, rfl⟩
  rw [hR]
  have HRES := Lib.hid hR
  clear hR
  have hI0 := Bld.fresh w
  have hB0 := below_alloc (Below.refl w.heap.size w) (.cells #[.pointer none, .slice none 0 0] 48)
  have HR := Lib.hid hr0
  have HV := Lib.hid hv
  clear hr0 hv
  go_enter Tryz.func13, Tryz.ntmps13
  go_upto_region 2 with (fail)
  generalize w.alloc (.cells #[.pointer none, .slice none 0 0] 48) = w1 at *
  have HI := Lib.hid hI0
  have HB := Lib.hid hB0
  clear hI0 hB0
  go_wp2_with fail
  go_loopw [6, 8, 11, 24] (fun _ _ v11 _ wr => ∃ i : Nat, v11 = .int .i64 (i : Int) ∧ i ≤ l0.length ∧ (l0.take i).all mayC = true ∧ Bld.Is w.heap.size w.heap.size (Lib.byteCells (formatL (l0.take i))) wr ∧ Below w.heap.size w wr) (fun _ _ v11 _ _ => ((l0.length : Int) - intOf v11).toNat)
  case atStart => exact ⟨0, rfl, Nat.zero_le _, rfl, HI.out, HB.out⟩
  case round =>
    clear HI HB w1
    obtain ⟨i, rfl, hi, hall, hI, hB⟩ := hrel
    by_cases hlt : i < l0.length
    · obtain ⟨ad, A1, c1, rfl, e0, e1, hc1, hK⟩ := at_T36 HR.out (i : Int) (by omega) (by omega)
      have hg : rd_T36 l0 (i : Int) = l0[i] := by simp [rd_T36, hlt]
      rw [hg, Int.toNat_natCast] at e0 e1
      rw [hg] at hK hc1
      replace e0 := (hB.cell (World.block_lt_of_cell? w _ e0)).trans e0
      replace e1 := (hB.cell (World.block_lt_of_cell? w _ e1)).trans e1
      have hx := HV.out l0[i] (List.getElem_mem hlt)
      have htk : l0.take (i + 1) = l0.take i ++ [l0[i]] := List.take_succ_eq_append_getElem hlt
      have hle := formatL_le (l0.take i) hall
      rw [List.length_take] at hle
      have hmem : l0.all mayC = true → mayC l0[i] = true := fun h => List.all_eq_true.1 h _ (List.getElem_mem hlt)
      generalize l0[i] = x at *
      have hmay : Hid (∀ W, Below w.heap.size w W → Calls Tryz.prog 19 #[.agg #[.string x.f0, .slice A1 x.f1.length c1]] W fun e w' => e = .returned (.bool (mayC x)) ∧ Below W.heap.size W w') := Lib.hid (fun W hW => script_may.calls 50 x.f0 A1 c1 x.f1 _ W (Kd.C_below hK hW) hc1 (may_ev x.f0 x.f1 hx 50 (by omega)))
      have HI := Lib.hid hI
      have HB := Lib.hid hB
      have HK := Lib.hid hK
      have HALL := Lib.hid hall
      have HTK := Lib.hid htk
      have HMEM := Lib.hid hmem
      have HLE := Lib.hid hle
      clear hI hB hK hall htk hmem hle hg
      go_upto_region 5 with (
        refine wpList_store_row rfl 36 (.tmp 6) (.tmp 14) rfl wr.heap.size #[.string x.f0, .slice A1 x.f1.length c1] ?e1 ?e2 36 #[.string ⟨#[]⟩, .slice none 0 0] (heap_alloc_new wr _) ?e4 ?e5 ?e6 ?_
        (case e1 => rfl)
        (case e2 => rfl)
        (case e4 => kernel_rfl)
        (case e5 => rfl)
        (case e6 => simp [Value.oneCell'])
        rw [World.setRow_alloc_new]
        have hnw := heap_alloc_new wr (.cells #[.string x.f0, .slice A1 x.f1.length c1] 36)
        have hb2 := below_alloc (Below.refl wr.heap.size wr) (.cells #[.string x.f0, .slice A1 x.f1.length c1] 36)
        have HI6 := Lib.hid (HI.out.below hb2)
        have HB6 := Lib.hid (HB.out.trans (hb2.mono HB.out.size))
        have HGB : Hid (wr.heap.size ≠ w.heap.size) := Lib.hid (by have := HI.out.le; omega)
        generalize wr.alloc (.cells #[.string x.f0, .slice A1 x.f1.length c1] 36) = w6 at *
        generalize wr.heap.size = gB at *
        have HG6 := Lib.hid hnw
        clear hnw hb2 HI HB)
      clear e0 e1
      cases hm : mayC x
      · rw [hm] at hmay
        go_wp2_with (first
          | (refine wpList_load_row rfl 36 (.tmp 6) rfl gB rfl 36 #[.string x.f0, .slice A1 x.f1.length c1] (0, 0) _ HG6.out Tryz.underlying36 rfl (by kernel_rfl) ?_)
          | (go_at_call 19; refine (hmay.out _ HB6.out).mono ?_; rintro e w7 ⟨rfl, hb7⟩))
        go_ret2
        exact ⟨by rw [← HRES.out, if_neg (fun h => by rw [HMEM.out h] at hm; cases hm)]; rfl, HB6.out.trans (hb7.mono HB6.out.size)⟩
      · obtain ⟨hm1, hm2, hm3⟩ := may_le hm
        have hwl := words_le x.f1 hm3
        rw [hm] at hmay
        have h5 : x.f0.data.toList.length = x.f0.size := by rw [Array.length_toList]; rfl
        have HIL : Hid (i ≤ 100000) := Lib.hid (by omega)
        go_upto_region 8 with (first
          | (refine wpList_load_row rfl 36 (.tmp 6) rfl gB rfl 36 #[.string x.f0, .slice A1 x.f1.length c1] (0, 0) _ HG6.out Tryz.underlying36 rfl (by kernel_rfl) ?_)
          | (go_at_call 19
             refine (hmay.out _ HB6.out).mono ?_
             rintro e w7 ⟨rfl, hb7⟩
             have hg7 := (hb7.block gB (blk_lt HG6.out)).trans HG6.out
             have HG7 := Lib.hid hg7
             have HI7 := Lib.hid (HI6.out.below hb7)
             have HB7 := Lib.hid (HB6.out.trans (hb7.mono HB6.out.size))
             have n0 : w7.cell? ⟨gB, 0, none⟩ = some (.string x.f0) := (blk_cell hg7 0).trans rfl
             clear hg7 hb7 HG6 HI6 HB6 hmay)
          | (go_at_call 21
             refine (Bld.writeString w.heap.size w.heap.size _ x.f0 w7 HI7.out ?hl HB7.out.size).mono ?_
             (case hl => rw [Lib.byteCells_length]; have := HLE.out; have := HIL.out; omega)
             rintro e w8 ⟨rfl, g1, g2, g3⟩
             have hg8 := g3 gB _ HG7.out (fun e => HGB.out (Option.some.inj e)) (fun c fz e => by cases e)
             have n1 : w8.cell? ⟨gB, 1, none⟩ = some (.slice A1 x.f1.length c1) := (blk_cell hg8 1).trans rfl
             have HI8 : Hid (Bld.Is w.heap.size w.heap.size (Lib.byteCells (formatL (l0.take i) ++ x.f0.data.toList)) w8) := Lib.hid (by
               refine cast (congrArg (fun l => Bld.Is _ _ l w8) ?_) g1
               rw [Lib.strCells_eq]; simp [Lib.byteCells])
             have HB8 := Lib.hid (HB7.out.trans g2)
             clear g1 g2 g3 hg8 HI7 HB7 HG7))
        clear n0
        go_wp2_with fail
        clear n1
        have HWL := Lib.hid hwl
        have HM3 := Lib.hid hm3
        have HH5 := Lib.hid h5
        clear hwl hm3 h5
        go_loopw [8, 24] (fun _ v24 wr => ∃ k : Nat, v24 = .int .i64 (k : Int) ∧ k ≤ x.f1.length ∧ Bld.Is w.heap.size w.heap.size (Lib.byteCells (formatL (l0.take i) ++ x.f0.data.toList ++ (x.f1.take k).flatMap wordL)) wr ∧ Below w.heap.size w wr) (fun _ v24 _ => ((x.f1.length : Int) - intOf v24).toNat)
        case atStart => exact ⟨0, rfl, Nat.zero_le _, cast (congrArg (fun l => Bld.Is _ _ (Lib.byteCells l) w8) (by simp)) HI8.out, HB8.out⟩
        case round =>
          clear HI8 HB8 w8
          obtain ⟨k, rfl, hk, hI9, hB9⟩ := hrel
          have hlk : ((x.f1.take k).flatMap wordL).length ≤ 24003 * 40 := by
            have h1 := words_le (x.f1.take k) (List.all_eq_true.2 (fun y hy => List.all_eq_true.1 HM3.out y (List.mem_of_mem_take hy)))
            rw [List.length_take] at h1
            have : 24003 * min k x.f1.length ≤ 24003 * 40 := Nat.mul_le_mul_left _ (by omega)
            omega
          by_cases hlk2 : k < x.f1.length
          · obtain ⟨ad2, rfl, n2⟩ := Kd.at_string (Kd.C_below HK.out hB9) (k : Int) (by omega) (by omega)
            have htk2 : x.f1.take (k + 1) = x.f1.take k ++ [rdOf ByteArray.empty x.f1 (k : Int)] := by
              rw [List.take_succ_eq_append_getElem hlk2]
              simp [rdOf, List.getD_eq_getElem?_getD, List.getElem?_eq_getElem hlk2]
            have hsz : (rdOf ByteArray.empty x.f1 (k : Int)).size ≤ 12000 := by
              have h1 : rdOf ByteArray.empty x.f1 (k : Int) ∈ x.f1 := by
                have : rdOf ByteArray.empty x.f1 (k : Int) = x.f1[k] := by simp [rdOf, List.getD_eq_getElem?_getD, List.getElem?_eq_getElem hlk2]
                rw [this]; exact List.getElem_mem hlk2
              have := List.all_eq_true.1 HM3.out _ h1
              simpa using this
            rw [Int.toNat_natCast] at n2
            generalize rdOf ByteArray.empty x.f1 (k : Int) = wv at n2 htk2 hsz
            have hpl := pieceL_le wv
            have HP := Lib.hid (piece_calls wv · (by omega))
            have hwo : wordL wv = 32 :: pieceL wv := rfl
            generalize pieceL wv = P at *
            have hes : (⟨P.toArray⟩ : ByteArray).size = P.length := by simp [ByteArray.size]
            have x1 : ¬ 9223372036854775807 < 1 + P.length := by omega
            have HI9 := Lib.hid hI9
            have HB9 := Lib.hid hB9
            have HT2 := Lib.hid htk2
            have HWO := Lib.hid hwo
            have HPL : Hid (P.length ≤ 24002) := Lib.hid (by omega)
            have HROOM : Hid ((formatL (l0.take i) ++ x.f0.data.toList ++ (x.f1.take k).flatMap wordL).length + (1 + P.length) ≤ 140737488355328) := Lib.hid (by
              rw [List.length_append, List.length_append]
              have := HLE.out; have := HIL.out; have := HPL.out; have := HH5.out
              omega)
            clear hI9 hB9 htk2 hwo hpl hsz hlk
            go_wp2_with (first
              | (go_at_call 22; refine (HP.out _).mono ?_; rintro e w10 ⟨rfl, hb10⟩; have HI10 := Lib.hid (HI9.out.below hb10); have HB10 := Lib.hid (HB9.out.trans (hb10.mono HB9.out.size)); clear hb10 HI9 HB9)
              | (go_at_call 21
                 refine (Bld.writeString w.heap.size w.heap.size _ _ w10 HI10.out ?hl HB10.out.size).mono ?_
                 (case hl => rw [Lib.byteCells_length, cat_size]; exact HROOM.out)
                 rintro e w11 ⟨rfl, g1, g2, g3⟩))
            refine ⟨⟨k + 1, rfl, by omega, ?_, HB10.out.trans g2⟩, by simp only [intOf]; omega⟩
            refine cast (congrArg (fun l => Bld.Is _ _ l w11) ?_) g1
            rw [Lib.strCells_eq, HT2.out, List.flatMap_append, List.flatMap_cons, HWO.out]
            simp [Lib.byteCells]
          · obtain rfl : k = x.f1.length := by omega
            rw [List.take_length] at hI9
            have HI9 := Lib.hid hI9
            have HB9 := Lib.hid hB9
            rw [List.take_length] at hlk
            have HROOM : Hid ((formatL (l0.take i) ++ x.f0.data.toList ++ x.f1.flatMap wordL).length + 1 ≤ 140737488355328) := Lib.hid (by
              rw [List.length_append, List.length_append]
              have := HLE.out; have := HIL.out; have := HH5.out
              omega)
            clear hI9 hB9 hlk
            go_wp2_with (
              go_at_call 21
              refine (Bld.writeString w.heap.size w.heap.size _ _ wr HI9.out ?hl HB9.out.size).mono ?_
              (case hl => rw [Lib.byteCells_length]; exact HROOM.out)
              rintro e w11 ⟨rfl, g1, g2, g3⟩)
            refine ⟨⟨i + 1, rfl, by omega, ?_, ?_, HB9.out.trans g2⟩, by simp only [intOf]; omega⟩
            · rw [HTK.out, List.all_append, HALL.out]; simp [hm]
            · refine cast (congrArg (fun l => Bld.Is _ _ l w11) ?_) g1
              rw [Lib.strCells_eq, HTK.out]
              simp [Lib.byteCells, formatL, lineC]
    · obtain rfl : i = l0.length := by omega
      rw [List.take_length] at hall hI
      go_wp2_with (go_at_call 23; refine (Bld.string w.heap.size w.heap.size _ wr hI hB.size).mono ?_; rintro e w7 ⟨rfl, k1, k2, k3⟩)
      go_ret2
      exact ⟨by rw [← HRES.out, if_pos hall]; rfl, hB.trans k2⟩
theorem script_Format.calls (A0 : Option Addr) (c0 : Nat) (l0 : List S36) (r1 : ByteArray) (r2 : Int) (w : World) (hr0 : Kd.C k36 w A0 l0.length l0) (hc0 : l0.length ≤ c0) (h : script_Format.f l0 = some (r1, r2)) :
    Calls Tryz.prog 13 #[.slice A0 l0.length c0] w fun e w' => e = .returned (.tuple #[.string r1, .int .i64 r2]) ∧ Below w.heap.size w w' := by
  unfold script_Format.f at h
  split at h
  · next hg =>
    have hv : ∀ x ∈ l0, x.f0.size ≤ 140737488355328 := fun x hx => by simpa using List.all_eq_true.1 hg.2 x hx
    have := format_calls A0 c0 l0 w hr0 hc0 hg.1 hv
    split at h
    · next hm =>
      obtain ⟨rfl, rfl⟩ := Prod.mk.inj (Option.some.inj h)
      rw [if_pos hm] at this; exact this
    · next hm =>
      obtain ⟨rfl, rfl⟩ := Prod.mk.inj (Option.some.inj h)
      rw [if_neg hm] at this; exact this
  · exact absurd h (by simp)
end Go.Proofs.YtfgbdcpfbghdoaaGreatDoor.P
end
