/- What is proved here: a part of the proof of ScriptFormatInjective: Sst. No conditions beside those that each theorem states. -/
import Derived.Test.YtfgbdcpfbghdoaaGreatDoorKSFIve12
import Derived.Test.YtfgbdcpfbghdoaaGreatDoorKSFIve11
import Derived.Shelf.Strings.SplitCore
import Derived.Lib.SplitLaws
import Derived.Laws.OwnMore
section
set_option linter.unusedVariables false
set_option linter.unusedSimpArgs false
namespace Go.Proofs.YtfgbdcpfbghdoaaGreatDoor.P
open Go.RowKit Go.Proofs.YtfgbdcpfbghdoaaGreatDoorW.PrintWords Go.Proofs.YtfgbdcpfbghdoaaGreatDoorW.PrintLast Go.Proofs.YtfgbdcpfbghdoaaGreatDoorW.PrintMore
def piecesB (s sep : ByteArray) (sv : Nat) : List ByteArray := Lib.splitB sep sv (Lib.countB s sep) s
theorem genSplit_calls (s sep : ByteArray) (sv : Nat) (w : World) (hs : s.size < 4294967281) (h1 : sep.size = 1) (hsv : sv ≤ 1) :
    Calls Tryz.prog 27 #[.string s, .string sep, .int .i64 sv, .int .i64 (-1)] w fun e w' =>
      e = .returned (.slice (some ⟨w.heap.size, 0, none⟩) (piecesB s sep sv).length (piecesB s sep sv).length) ∧ w' = w.alloc (.cells ((piecesB s sep sv).map Value.string).toArray 9) := by
  have hle := Lib.countB_le sep (by omega) s.size s (Nat.le_refl _)
  have hlen := Lib.splitB_all sep (by omega) sv _ s rfl
  obtain ⟨c, rfl⟩ := Lib.one_byte sep h1
  have hI : ∀ (x : ByteArray) (cs : Array Value), x.size ≤ s.size → Calls Tryz.prog 45 #[.string x, .string ⟨#[c]⟩] (w.alloc (.cells cs 9)) fun e w' => e = .returned (.int .i64 (Lib.indexB x ⟨#[c]⟩)) ∧ w' = w.alloc (.cells cs 9) := by
    intro x cs hx
    refine (Tryz.strings_Index_one x c _).mono fun e w' ⟨he, hw⟩ => ⟨?_, hw⟩
    rw [he]
    rw [show Lib.indexB x ⟨#[c]⟩ = Lib.indexByte x.data.toList c from Lib.index_one _ _]
  have hC : Calls Tryz.prog 44 #[.string s, .string ⟨#[c]⟩] w fun e w' => e = .returned (.int .i64 (Lib.countB s ⟨#[c]⟩)) ∧ w' = w := by
    refine (Tryz.strings_Count_one s c w).mono fun e w' ⟨he, hw⟩ => ⟨?_, hw⟩
    rw [he]
    show _ = Ending.returned (Value.int .i64 ((Lib.count s.data.toList [c] : Nat) : Int))
    rw [Lib.count_one]
    first | rfl | simp
  have h := Any.strings_genSplit_core Tryz.lays221 (by kernel_rfl) s ⟨#[c]⟩ sv (-1) (Lib.countB s ⟨#[c]⟩ + 1) w hs (Nat.le_refl 1) hsv hI hC (by decide) (by decide) (by rw [if_pos (by decide)]; omega)
  rw [Nat.add_sub_cancel, hlen] at h
  have e2 : Lib.cellsOf (Lib.splitB ⟨#[c]⟩ sv (Lib.countB s ⟨#[c]⟩) s) (Lib.countB s ⟨#[c]⟩ + 1) = ((Lib.splitB ⟨#[c]⟩ sv (Lib.countB s ⟨#[c]⟩) s).map Value.string).toArray := by rw [← hlen]; exact Lib.cellsOf_full _
  rw [e2] at h
  rw [← hlen] at h
  exact h
theorem pieces_R (s sep : ByteArray) (sv : Nat) (w : World) (hm : (piecesB s sep sv).length ≤ maxLen) :
    Kd.R Kd.string 9 (w.alloc (.cells ((piecesB s sep sv).map Value.string).toArray 9)) w.heap.size (fun _ => True) (.slice (some ⟨w.heap.size, 0, none⟩) (piecesB s sep sv).length (piecesB s sep sv).length) (piecesB s sep sv) := by
  refine Kd.R_of_own (enc := Value.string) ?_ (fun _ _ => trivial)
  have h := World.ownsRow_lit (base := w.heap.size) (e := 9) (size := 1) w ((piecesB s sep sv).map Value.string).toArray (piecesB s sep sv).length (Nat.le_refl _) hm (by simp)
  simpa [encs] using h
theorem pieces_le (s sep : ByteArray) (sv : Nat) (hs : s.size < 4294967281) (h1 : sep.size = 1) : (piecesB s sep sv).length ≤ maxLen := by
  have hle := Lib.countB_le sep (by omega) s.size s (Nat.le_refl _)
  have hlen := Lib.splitB_all sep (by omega) sv _ s rfl
  unfold piecesB
  rw [hlen]
  show _ ≤ _
  unfold maxLen
  omega
set_option maxHeartbeats 1000000 in
theorem split_lib (a0 a1 : ByteArray) (w : World) (h1 : a0.size < 4294967281) (h2 : a1.size = 1) :
    Calls Tryz.prog 15 #[.string a0, .string a1] w fun e w' => e = .returned (.slice (some ⟨w.heap.size, 0, none⟩) (piecesB a0 a1 0).length (piecesB a0 a1 0).length) ∧ w' = w.alloc (.cells ((piecesB a0 a1 0).map Value.string).toArray 9) := by
  have c := genSplit_calls a0 a1 0 w h1 h2 (by omega)
  generalize piecesB a0 a1 0 = l at c ⊢
  go_enter Tryz.func15, Tryz.ntmps15
  go_wp2_with (go_at_call 27; refine c.mono ?_; rintro e w' ⟨rfl, rfl⟩)
  go_ret
  exact ⟨rfl, rfl⟩
def strings_Split.f (a0 a1 : ByteArray) : Option (List ByteArray) := if a0.size < 4294967281 ∧ a1.size = 1 then some (piecesB a0 a1 0) else none
theorem strings_Split.calls (a0 a1 : ByteArray) (r : List ByteArray) (w : World) (h : strings_Split.f a0 a1 = some r) :
    Calls Tryz.prog 15 #[.string a0, .string a1] w fun e w' => ∃ v0_ : Value, e = .returned v0_ ∧ Kd.R Kd.string 9 w' w.heap.size (fun _ => True) v0_ r ∧ Below w.heap.size w w' := by
  unfold strings_Split.f at h
  split at h
  · next hc =>
    obtain rfl := Option.some.inj h
    refine (split_lib a0 a1 w hc.1 hc.2).mono ?_
    rintro e w' ⟨rfl, rfl⟩
    exact ⟨_, rfl, pieces_R a0 a1 0 w (pieces_le a0 a1 0 hc.1 hc.2), below_alloc (Below.refl w.heap.size w) _⟩
  · exact absurd h (by simp)
end Go.Proofs.YtfgbdcpfbghdoaaGreatDoor.P
end
