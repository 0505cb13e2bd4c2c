/- What is proved here: a part of the proof of ScriptFormatInjective: Stl. No conditions beside those that each theorem states. -/
import Derived.Test.YtfgbdcpfbghdoaaGreatDoorKSFIve12
import Derived.Test.YtfgbdcpfbghdoaaGreatDoorKSFIve11
import Derived.Test.YtfgbdcpfbghdoaaGreatDoorKSFIve15
import Derived.Lib.Strings
import Derived.Lib.Hide
import Derived.Lib.Walk
import Derived.Shelf.Strings.Cut
import Derived.Laws.Strings3
section
set_option linter.unusedVariables false
set_option linter.unusedSimpArgs false
namespace Go.Proofs.YtfgbdcpfbghdoaaGreatDoor.P
open Go.RowKit Go.Proofs.YtfgbdcpfbghdoaaGreatDoorW.PrintWords Go.Proofs.YtfgbdcpfbghdoaaGreatDoorW.PrintLast Go.Proofs.YtfgbdcpfbghdoaaGreatDoorW.PrintMore
def strings_HasPrefix.f (a0 a1 : ByteArray) : Option Bool := some (Lib.hasPrefix a0.data.toList a1.data.toList)
theorem strings_HasPrefix.calls (a0 a1 : ByteArray) (r : Bool) (w : World) (h : strings_HasPrefix.f a0 a1 = some r) :
    Calls Tryz.prog 16 #[.string a0, .string a1] w fun e w' => e = .returned (.bool r) ∧ Below w.heap.size w w' := by
  obtain rfl := Option.some.inj h
  refine (Tryz.strings_HasPrefix a0 a1 w).mono ?_
  rintro e w' ⟨rfl, rfl⟩
  exact ⟨rfl, Below.refl _ _⟩
def strings_TrimLeft.f (a0 a1 : ByteArray) : Option ByteArray :=
  if a1 = ⟨#[32]⟩ then (if a0.toList = [] then some a0 else strings_trimLeftByte.f (a0.size + 2) a0 32) else none
set_option maxHeartbeats 1000000 in
set_option maxRecDepth 100000 in
theorem strings_TrimLeft.calls (a0 a1 : ByteArray) (r : ByteArray) (w : World) (h : strings_TrimLeft.f a0 a1 = some r) :
    Calls Tryz.prog 17 #[.string a0, .string a1] w fun e w' => e = .returned (.string r) ∧ Below w.heap.size w w' := by
  unfold strings_TrimLeft.f at h
  split at h
  · next h1 =>
    subst h1
    split at h
    · next h0 =>
      obtain rfl := Option.some.inj h
      have c0 : (a0.toList == ([] : List UInt8)) = true := beq_iff_eq.mpr h0
      go_enter Tryz.func17, Tryz.ntmps17
      go_wp2
      go_ret
      exact ⟨rfl, Below.refl _ _⟩
    · next h0 =>
      have c0 : (a0.toList == ([] : List UInt8)) = false := beq_eq_false_iff_ne.mpr h0
      have HC := Lib.hid (strings_trimLeftByte.calls _ a0 32 r w h)
      clear h
      go_enter Tryz.func17, Tryz.ntmps17
      go_wp2_with (go_at_call 29; refine HC.out.mono ?_; rintro e w1 ⟨rfl, hd⟩)
      go_ret
      obtain ⟨n, rfl⟩ := hd.out
      exact ⟨rfl, by repeat (first | exact Below.refl _ _ | apply pw_below_drewN | apply below_drew1)⟩
  · exact absurd h (by simp)
def cutAt (a0 : ByteArray) (c : UInt8) : ByteArray × ByteArray × Bool :=
  if Lib.indexByte a0.data.toList c < 0 then (a0, ⟨#[]⟩, false) else (a0.extract 0 (Lib.indexByte a0.data.toList c).toNat, a0.extract ((Lib.indexByte a0.data.toList c).toNat + 1) a0.size, true)
set_option maxHeartbeats 1000000 in
set_option maxRecDepth 100000 in
theorem cutIn_calls (a0 : ByteArray) (c : UInt8) (w : World) (hs : a0.size < 4294967281) :
    Calls Tryz.prog 49 #[.string a0, .string ⟨#[c]⟩] w fun e w' => e = .returned (.tuple #[.string (cutAt a0 c).1, .string (cutAt a0 c).2.1, .bool (cutAt a0 c).2.2]) ∧ Below w.heap.size w w' := by
  have HC : Hid (Calls Tryz.prog 57 #[.string a0, .string ⟨#[c]⟩] w fun e w' => e = .returned (.int .i64 (Lib.indexByte a0.data.toList c)) ∧ w' = w) := Lib.hid (Tryz.stringslite_Index_one a0 c w)
  have hge := Lib.indexByte_ge a0.data.toList c
  unfold cutAt
  by_cases hi : Lib.indexByte a0.data.toList c < 0
  · rw [if_pos hi]
    have he : Lib.indexByte a0.data.toList c = -1 := by omega
    rw [he] at HC
    go_enter Tryz.func49, Tryz.ntmps49
    go_wp2_with (go_at_call 57; refine HC.out.mono ?_; rintro r wx ⟨rfl, hw⟩; rw [hw]; clear hw wx)
    go_ret3
    exact ⟨rfl, Below.refl _ _⟩
  · rw [if_neg hi]
    obtain ⟨n, hn⟩ : ∃ n : Nat, Lib.indexByte a0.data.toList c = n := ⟨(Lib.indexByte a0.data.toList c).toNat, by omega⟩
    have hlt : n < a0.size := by
      have h1 := (Lib.indexByte_some hn).1
      have h2 := (List.getElem?_eq_some_iff.1 h1).1
      rwa [Array.length_toList] at h2
    rw [hn] at HC ⊢
    rw [Int.toNat_natCast]
    have c0 : (0 : Int) ≤ (n : Int) := by omega
    have c1 : (n : Int) ≤ (a0.size : Int) := by omega
    have c2 : IntKind.i64.wrap ((n : Int) + 1) = (n : Int) + 1 := by simp [IntKind.wrap, IntKind.bits, IntKind.signed]; omega
    have c3 : (0 : Int) ≤ (n : Int) + 1 := by omega
    have c4 : (n : Int) + 1 ≤ (a0.size : Int) := by omega
    have c5 : ((n : Int) + 1).toNat = n + 1 := by omega
    go_enter Tryz.func49, Tryz.ntmps49
    go_wp2_with (go_at_call 57; refine HC.out.mono ?_; rintro r wx ⟨rfl, hw⟩; rw [hw]; clear hw wx)
    repeat (go_quiet (fail); try go_wp2)
    go_ret3
    exact ⟨by first | rfl | (simp [c5]), by repeat (first | exact Below.refl _ _ | apply pw_below_drewN | apply below_drew1)⟩
set_option maxHeartbeats 1000000 in
set_option maxRecDepth 100000 in
theorem cut_calls (a0 : ByteArray) (c : UInt8) (w : World) (hs : a0.size < 4294967281) :
    Calls Tryz.prog 33 #[.string a0, .string ⟨#[c]⟩] w fun e w' => e = .returned (.tuple #[.string (cutAt a0 c).1, .string (cutAt a0 c).2.1, .bool (cutAt a0 c).2.2]) ∧ Below w.heap.size w w' := by
  have HC := Lib.hid (cutIn_calls a0 c w hs)
  generalize cutAt a0 c = p at *
  obtain ⟨a, b, d⟩ := p
  go_enter Tryz.func33, Tryz.ntmps33
  go_wp2_with (go_at_call 49; refine HC.out.mono ?_; rintro r wx ⟨rfl, hb⟩)
  go_ret3
  exact ⟨rfl, hb⟩
def strings_Cut.f (a0 a1 : ByteArray) : Option (ByteArray × ByteArray × Bool) := if a1 = ⟨#[34]⟩ ∧ a0.size < 4294967281 then some (cutAt a0 34) else none
theorem strings_Cut.calls (a0 a1 : ByteArray) (r1 r2 : ByteArray) (r3 : Bool) (w : World) (h : strings_Cut.f a0 a1 = some (r1, r2, r3)) :
    Calls Tryz.prog 33 #[.string a0, .string a1] w fun e w' => e = .returned (.tuple #[.string r1, .string r2, .bool r3]) ∧ Below w.heap.size w w' := by
  unfold strings_Cut.f at h
  split at h
  · next hc =>
    have h1 := Option.some.inj h
    have := cut_calls a0 34 w hc.2
    rw [h1] at this
    rw [hc.1]
    exact this
  · exact absurd h (by simp)
end Go.Proofs.YtfgbdcpfbghdoaaGreatDoor.P
end
