/- What is proved here: a part of the proof of CircuitFormatInjective: Cst. No conditions beside those that each theorem states. -/
import Derived.Test.YtmnleabeipmhmaaDoorKCFIve6
import Derived.Test.YtmnleabeipmhmaaDoorKCFIve5
import Derived.Shelf.Strings.SplitCore
import Derived.Lib.SplitLaws
import Derived.Laws.OwnMore
section
set_option linter.unusedVariables false
set_option linter.unusedSimpArgs false
namespace Go.Proofs.YtmnleabeipmhmaaDoor.P
open Go.RowKit Go.Proofs.YtmnleabeipmhmaaDoorW.PrintWords Go.Proofs.YtmnleabeipmhmaaDoorW.PrintLast Go.Proofs.YtmnleabeipmhmaaDoorW.PrintMore
def zbl (s sep : ByteArray) (sv : Nat) : List ByteArray := Lib.splitB sep sv (Lib.countB s sep) s
theorem genSplit_calls (s sep : ByteArray) (sv : Nat) (w : World) (hs : s.size < 4294967281) (h1 : sep.size = 1) (hsv : sv ≤ 1) :
    Calls Tryd.prog 57 #[.string s, .string sep, .int .i64 sv, .int .i64 (-1)] w fun e w' =>
      e = .returned (.slice (some ⟨w.heap.size, 0, none⟩) (zbl s sep sv).length (zbl s sep sv).length) ∧ w' = w.alloc (.cells ((zbl s sep sv).map Value.string).toArray 9) := by
  have hle := Lib.countB_le sep (by omega) s.size s (Nat.le_refl _)
  have hlen := Lib.splitB_all sep (by omega) sv _ s rfl
  obtain ⟨c, rfl⟩ := Lib.one_byte sep h1
  have hI : ∀ (x : ByteArray) (cs : Array Value), x.size ≤ s.size → Calls Tryd.prog 71 #[.string x, .string ⟨#[c]⟩] (w.alloc (.cells cs 9)) fun e w' => e = .returned (.int .i64 (Lib.indexB x ⟨#[c]⟩)) ∧ w' = w.alloc (.cells cs 9) := by
    intro x cs hx
    refine (Tryd.strings_Index_one x c _).mono fun e w' ⟨he, hw⟩ => ⟨?_, hw⟩
    rw [he]
    rw [show Lib.indexB x ⟨#[c]⟩ = Lib.indexByte x.data.toList c from Lib.index_one _ _]
  have hC : Calls Tryd.prog 70 #[.string s, .string ⟨#[c]⟩] w fun e w' => e = .returned (.int .i64 (Lib.countB s ⟨#[c]⟩)) ∧ w' = w := by
    refine (Tryd.strings_Count_one s c w).mono fun e w' ⟨he, hw⟩ => ⟨?_, hw⟩
    rw [he]
    show _ = Ending.returned (Value.int .i64 ((Lib.count s.data.toList [c] : Nat) : Int))
    rw [Lib.count_one]
    first | rfl | simp
  have h := Any.strings_genSplit_core Tryd.lays221 (by kernel_rfl) s ⟨#[c]⟩ sv (-1) (Lib.countB s ⟨#[c]⟩ + 1) w hs (Nat.le_refl 1) hsv hI hC (by decide) (by decide) (by rw [if_pos (by decide)]; omega)
  rw [Nat.add_sub_cancel, hlen] at h
  have e2 : Lib.cellsOf (Lib.splitB ⟨#[c]⟩ sv (Lib.countB s ⟨#[c]⟩) s) (Lib.countB s ⟨#[c]⟩ + 1) = ((Lib.splitB ⟨#[c]⟩ sv (Lib.countB s ⟨#[c]⟩) s).map Value.string).toArray := by rw [← hlen]; exact Lib.cellsOf_full _
  rw [e2] at h
  rw [← hlen] at h
  exact h
set_option maxHeartbeats 1000000 in
theorem split_lib (a0 a1 : ByteArray) (w : World) (h1 : a0.size < 4294967281) (h2 : a1.size = 1) :
    Calls Tryd.prog 73 #[.string a0, .string a1] w fun e w' => e = .returned (.slice (some ⟨w.heap.size, 0, none⟩) (zbl a0 a1 0).length (zbl a0 a1 0).length) ∧ w' = w.alloc (.cells ((zbl a0 a1 0).map Value.string).toArray 9) := by
  have c := genSplit_calls a0 a1 0 w h1 h2 (by omega)
  generalize zbl a0 a1 0 = l at c ⊢
  go_enter Tryd.func73, Tryd.ntmps73
  go_wp2_with (go_at_call 57; refine c.mono ?_; rintro e w' ⟨rfl, rfl⟩)
  go_ret
  exact ⟨rfl, rfl⟩
set_option maxHeartbeats 1000000 in
theorem splitAfter_lib (a0 a1 : ByteArray) (w : World) (h1 : a0.size < 4294967281) (h2 : a1.size = 1) :
    Calls Tryd.prog 39 #[.string a0, .string a1] w fun e w' => e = .returned (.slice (some ⟨w.heap.size, 0, none⟩) (zbl a0 a1 1).length (zbl a0 a1 1).length) ∧ w' = w.alloc (.cells ((zbl a0 a1 1).map Value.string).toArray 9) := by
  have c := genSplit_calls a0 a1 1 w h1 h2 (by omega)
  generalize zbl a0 a1 1 = l at c ⊢
  have hz : (a1.size : Int) = 1 := by omega
  go_enter Tryd.func39, Tryd.ntmps39
  go_wp2_with (go_at_call 57; (try rw [hz]); refine c.mono ?_; rintro e w' ⟨rfl, rfl⟩)
  go_ret
  exact ⟨rfl, rfl⟩
theorem pieces_size (sep : ByteArray) (sv : Nat) : ∀ (k : Nat) (s x : ByteArray), x ∈ Lib.splitB sep sv k s → x.size ≤ s.size
  | 0, s, x, h => by
    simp only [Lib.splitB_zero, List.mem_cons, List.not_mem_nil, or_false] at h
    subst h; exact Nat.le_refl _
  | k + 1, s, x, h => by
    unfold Lib.splitB at h
    split at h
    · simp only [List.mem_cons, List.not_mem_nil, or_false] at h
      subst h; exact Nat.le_refl _
    · rcases List.mem_cons.1 h with h | h
      · subst h; rw [ByteArray.size_extract]; omega
      · have := pieces_size sep sv k _ x h
        rw [ByteArray.size_extract] at this; omega
theorem piece_size {s sep x : ByteArray} {sv : Nat} (h : x ∈ zbl s sep sv) : x.size ≤ s.size := pieces_size sep sv _ s x h
end Go.Proofs.YtmnleabeipmhmaaDoor.P
end
