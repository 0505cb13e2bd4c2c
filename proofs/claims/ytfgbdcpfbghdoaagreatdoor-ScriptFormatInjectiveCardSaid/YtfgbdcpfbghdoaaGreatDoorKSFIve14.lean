/- What is proved here: a part of the proof of ScriptFormatInjective: Sop. No conditions beside those that each theorem states. -/
import Derived.Test.YtfgbdcpfbghdoaaGreatDoorKSFIve11
import Derived.Test.YtfgbdcpfbghdoaaGreatDoorKSFIve13
import Derived.Lib.Hide
import Derived.Lib.Walk
section
set_option linter.unusedVariables false
set_option linter.unusedSimpArgs false
namespace Go.Proofs.YtfgbdcpfbghdoaaGreatDoor.P
open Go.RowKit Go.Proofs.YtfgbdcpfbghdoaaGreatDoorW.PrintWords Go.Proofs.YtfgbdcpfbghdoaaGreatDoorW.PrintLast Go.Proofs.YtfgbdcpfbghdoaaGreatDoorW.PrintMore
def openL : List UInt8 → Option (List UInt8)
  | [] => some []
  | [c] => if c = 94 then none else some [c]
  | c :: d :: r =>
    if c = 94 then (if d = 110 then (openL r).map (10 :: ·) else if d = 113 then (openL r).map (34 :: ·) else if d = 99 then (openL r).map (94 :: ·) else none)
    else (openL (d :: r)).map (c :: ·)
theorem openL_cons (c : UInt8) (r : List UInt8) (h : c ≠ 94) : openL (c :: r) = (openL r).map (c :: ·) := by
  cases r with
  | nil => simp [openL, h]
  | cons d r => rw [openL, if_neg h]
def openF (s : ByteArray) : ByteArray × Bool := match openL s.data.toList with
  | some l => (⟨l.toArray⟩, true)
  | none => (⟨#[]⟩, false)
def script_opened.f (a0 : ByteArray) : Option (ByteArray × Bool) := if a0.size ≤ 70368744177664 then some (openF a0) else none
theorem bt_list (s : ByteArray) (i : Nat) (h : i < s.data.toList.length) : bt s (i : Int) = ((s.data.toList[i]).toNat : Int) := by
  have h' : ((i : Int)).toNat < s.size := by rw [Int.toNat_natCast]; rw [Array.length_toList] at h; exact h
  rw [← bt_at s (i : Int) h']
  simp
  rfl
theorem eq94 (c : UInt8) (n : Nat) (hn : n < 256) : ((c.toNat : Int) = (n : Int)) ↔ c = UInt8.ofNat n := by
  constructor
  · intro h
    have : c.toNat = n := by omega
    rw [← this]; simp
  · rintro rfl
    simp; omega
set_option maxHeartbeats 4000000 in
set_option maxRecDepth 100000 in
theorem opened_calls (a0 : ByteArray) (w : World) (hs : a0.size ≤ 70368744177664) :
    Calls Tryz.prog 34 #[.string a0] w fun e w' => e = .returned (.tuple #[.string (openF a0).1, .bool (openF a0).2]) ∧ Below w.heap.size w w' := by
  obtain ⟨L, hL⟩ : ∃ L, L = a0.data.toList := ⟨_, rfl⟩
  have hlen : L.length = a0.size := by rw [hL, Array.length_toList]; rfl
  have hbt : ∀ (i : Nat) (h : i < L.length), bt a0 (i : Int) = ((L[i]).toNat : Int) := by subst hL; exact bt_list a0
  have hI0 := Bld.fresh w
  have hB0 := below_alloc (Below.refl w.heap.size w) (.cells #[.pointer none, .slice none 0 0] 48)
  go_enter Tryz.func34, Tryz.ntmps34
  go_upto_region 2 with (fail)
  generalize w.alloc (.cells #[.pointer none, .slice none 0 0] 48) = w1 at *
  have HI := Lib.hid hI0
  have HB := Lib.hid hB0
  clear hI0 hB0
  go_wp2_with fail
  go_loopw [5] (fun v5 wr => ∃ (i : Nat) (o : List UInt8), v5 = .int .i64 i ∧ i ≤ a0.size ∧ o.length ≤ i ∧ openL L = (openL (L.drop i)).map (o ++ ·) ∧ Bld.Is w.heap.size w.heap.size (Lib.byteCells o) wr ∧ Below w.heap.size w wr) (fun v5 _ => ((a0.size : Int) - intOf v5).toNat)
  case atStart => exact ⟨0, [], rfl, Nat.zero_le _, Nat.le_refl _, by simp, HI.out, HB.out⟩
  case round =>
    clear HI HB
    obtain ⟨i, o, rfl, hi, ho, hop, hI, hB⟩ := hrel
    by_cases hlt : i < a0.size
    · have hb0 := hbt i (by omega)
      have hd0 : L.drop i = L[i]'(by omega) :: L.drop (i + 1) := List.drop_eq_getElem_cons (by omega)
      rw [hd0] at hop
      generalize hc : L[i]'(by omega) = c at hb0 hop
      have hx0 : ∀ h : i < a0.size, ((a0[i]'h).toNat : Int) = (c.toNat : Int) := fun h => (bt_at a0 (i : Int) h).trans hb0
      clear hb0 hc hd0
      have hw1 : IntKind.i64.wrap ((i : Int) + 1) = (i : Int) + 1 := by simp [IntKind.wrap, IntKind.bits, IntKind.signed]; omega
      by_cases h94 : c = 94
      · subst h94
        replace hx0 : ∀ h : i < a0.size, ((a0[i]'h).toNat : Int) = 94 := hx0
        by_cases hlast : i + 1 = a0.size
        · have hres : openF a0 = (⟨#[]⟩, false) := by
            have : openL L = none := by rw [hop, List.drop_of_length_le (by omega)]; rfl
            unfold openF; rw [← hL, this]
          have hl2 : (i : Int) + 1 = (a0.size : Int) := by omega
          clear hop
          go_wp2
          go_ret2
          exact ⟨by rw [hres]; rfl, hB⟩
        · have hb2 := hbt (i + 1) (by omega)
          have hd1 : L.drop (i + 1) = L[i + 1]'(by omega) :: L.drop (i + 1 + 1) := List.drop_eq_getElem_cons (by omega)
          rw [hd1] at hop
          generalize hdd : L[i + 1]'(by omega) = d at hb2 hop
          have hx1 : ∀ h : i + 1 < a0.size, ((a0[i + 1]'h).toNat : Int) = (d.toNat : Int) := fun h => (bt_at a0 ((i + 1 : Nat) : Int) h).trans hb2
          clear hb2 hdd hd1
          have hl2 : ¬ (i : Int) + 1 = (a0.size : Int) := by omega
          have hl3 : (i : Int) + 1 < (a0.size : Int) := by omega
          have hw2 : IntKind.i64.wrap ((i : Int) + 1 + 1) = (i : Int) + 1 + 1 := by simp [IntKind.wrap, IntKind.bits, IntKind.signed]; omega
          have hop2 : openL L = (if d = 110 then (openL (L.drop (i + 2))).map (10 :: ·) else if d = 113 then (openL (L.drop (i + 2))).map (34 :: ·) else if d = 99 then (openL (L.drop (i + 2))).map (94 :: ·) else none).map (o ++ ·) := by rw [hop]; rfl
          clear hop
          have key : ∀ x : UInt8, openL L = ((openL (L.drop (i + 2))).map (x :: ·)).map (o ++ ·) → openL L = (openL (L.drop (i + 2))).map ((o ++ [x]) ++ ·) := by
            intro x h; rw [h, Option.map_map]; congr 1; funext y; simp
          have HIH := Lib.hid hI
          have HBH := Lib.hid hB
          clear hI hB
          by_cases hn : d = 110
          · subst hn
            replace hx1 : ∀ h : i + 1 < a0.size, ((a0[i + 1]'h).toNat : Int) = 110 := hx1
            have hop3 := Lib.hid (key 10 (by rw [hop2, if_pos rfl]))
            clear hop2 key
            go_wp2_with (go_at_call 50; refine (Bld.writeByte w.heap.size w.heap.size _ _ wr HIH.out ?hl HBH.out.size).mono ?_; (case hl => rw [Lib.byteCells_length]; omega); rintro e w2 ⟨rfl, g1, g2, g3⟩)
            refine ⟨⟨i + 2, o ++ [10], by simp [hw2]; omega, by omega, by simp; omega, hop3.out, ?_, HBH.out.trans g2⟩, by simp only [intOf]; omega⟩
            refine cast (congrArg (fun l => Bld.Is _ _ l w2) ?_) g1
            simp [Lib.byteCells]
          · by_cases hq : d = 113
            · subst hq
              replace hx1 : ∀ h : i + 1 < a0.size, ((a0[i + 1]'h).toNat : Int) = 113 := hx1
              have hop3 := Lib.hid (key 34 (by rw [hop2, if_neg hn, if_pos rfl]))
              clear hop2 key
              go_wp2_with (go_at_call 50; refine (Bld.writeByte w.heap.size w.heap.size _ _ wr HIH.out ?hl HBH.out.size).mono ?_; (case hl => rw [Lib.byteCells_length]; omega); rintro e w2 ⟨rfl, g1, g2, g3⟩)
              refine ⟨⟨i + 2, o ++ [34], by simp [hw2]; omega, by omega, by simp; omega, hop3.out, ?_, HBH.out.trans g2⟩, by simp only [intOf]; omega⟩
              refine cast (congrArg (fun l => Bld.Is _ _ l w2) ?_) g1
              simp [Lib.byteCells]
            · by_cases hcc : d = 99
              · subst hcc
                replace hx1 : ∀ h : i + 1 < a0.size, ((a0[i + 1]'h).toNat : Int) = 99 := hx1
                have hop3 := Lib.hid (key 94 (by rw [hop2, if_neg hn, if_neg hq, if_pos rfl]))
                clear hop2 key
                go_wp2_with (go_at_call 50; refine (Bld.writeByte w.heap.size w.heap.size _ _ wr HIH.out ?hl HBH.out.size).mono ?_; (case hl => rw [Lib.byteCells_length]; omega); rintro e w2 ⟨rfl, g1, g2, g3⟩)
                refine ⟨⟨i + 2, o ++ [94], by simp [hw2]; omega, by omega, by simp; omega, hop3.out, ?_, HBH.out.trans g2⟩, by simp only [intOf]; omega⟩
                refine cast (congrArg (fun l => Bld.Is _ _ l w2) ?_) g1
                simp [Lib.byteCells]
              · have hres : openF a0 = (⟨#[]⟩, false) := by
                  have : openL L = none := by rw [hop2, if_neg hn, if_neg hq, if_neg hcc]; rfl
                  unfold openF; rw [← hL, this]
                have e1 : ¬ (d.toNat : Int) = 110 := fun h => hn ((eq94 d 110 (by omega)).1 h)
                have e2 : ¬ (d.toNat : Int) = 113 := fun h => hq ((eq94 d 113 (by omega)).1 h)
                have e3 : ¬ (d.toNat : Int) = 99 := fun h => hcc ((eq94 d 99 (by omega)).1 h)
                clear hop2 key
                go_wp2
                go_ret2
                exact ⟨by rw [hres]; rfl, HBH.out⟩
      · have e0 : ¬ (c.toNat : Int) = 94 := fun h => h94 ((eq94 c 94 (by omega)).1 h)
        have hop3 : Hid (openL L = (openL (L.drop (i + 1))).map ((o ++ [c]) ++ ·)) := Lib.hid (by
          rw [hop, openL_cons c _ h94, Option.map_map]; congr 1; funext y; simp)
        clear hop
        have HIH := Lib.hid hI
        have HBH := Lib.hid hB
        clear hI hB
        go_wp2_with (go_at_call 50; refine (Bld.writeByte w.heap.size w.heap.size _ _ wr HIH.out ?hl HBH.out.size).mono ?_; (case hl => rw [Lib.byteCells_length]; omega); rintro e w2 ⟨rfl, g1, g2, g3⟩)
        refine ⟨⟨i + 1, o ++ [c], by simp [hw1], by omega, by simp; omega, hop3.out, ?_, HBH.out.trans g2⟩, by simp only [intOf]; omega⟩
        refine cast (congrArg (fun l => Bld.Is _ _ l w2) ?_) g1
        simp [Lib.byteCells]
    · obtain rfl : i = a0.size := by omega
      have hres : openF a0 = (⟨o.toArray⟩, true) := by
        have : openL L = some o := by rw [hop, List.drop_of_length_le (by omega)]; simp [openL]
        unfold openF; rw [← hL, this]
      go_wp2_with (go_at_call 23; refine (Bld.string w.heap.size w.heap.size _ wr hI hB.size).mono ?_; rintro e w7 ⟨rfl, k1, k2, k3⟩)
      go_ret2
      exact ⟨by rw [hres]; rfl, hB.trans k2⟩
theorem script_opened.calls (a0 : ByteArray) (r1 : ByteArray) (r2 : Bool) (w : World) (h : script_opened.f a0 = some (r1, r2)) :
    Calls Tryz.prog 34 #[.string a0] w fun e w' => e = .returned (.tuple #[.string r1, .bool r2]) ∧ Below w.heap.size w w' := by
  unfold script_opened.f at h
  split at h
  · next hc =>
    have h1 := Option.some.inj h
    have := opened_calls a0 w hc
    rw [h1] at this
    exact this
  · exact absurd h (by simp)
end Go.Proofs.YtfgbdcpfbghdoaaGreatDoor.P
end
