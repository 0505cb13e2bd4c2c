/- What is proved here: a part of the proof of CircuitAppendMul: Fmt, Prs. No conditions beside those that each theorem states. -/
import Derived.Test.YtmnleabeipmhmaaDoorKCAMul7
import Derived.Lib.AppendIntMem
import Derived.Lib.Hide
import Derived.Lib.Walk
import Derived.WalkKit
import Derived.KernelRfl
import Derived.Test.YtmnleabeipmhmaaDoorProg
section
set_option linter.unusedVariables false
set_option linter.unusedSimpArgs false
namespace Go.Proofs.YtmnleabeipmhmaaDoor.Fmt
open Go.RowKit Go.Sort Go.Lib
abbrev Tab (w : World) : Prop := Lib.TabIs Tryd.prog w "internal/strconv.uint64pow10" .u64 Lib.pow10Tab
set_option maxHeartbeats 4000000 in
set_option maxRecDepth 100000 in
theorem inner (u : Nat) (hu64 : u < 18446744073709551616) (w : World) (htab : Tab w) :
    Calls Tryd.prog 76 #[.int .u64 u, .int .i64 10] w fun e w' => e = .returned (.string ⟨(Lib.decDigits u).toArray⟩) ∧ Below w.heap.size w w' := by
  by_cases hs : u < 100
  · have hc : IntKind.i64.wrap (u : Int) = (u : Int) := by simp [IntKind.wrap, IntKind.bits, IntKind.signed]; omega
    go_enter Tryd.func76, Tryd.ntmps76
    go_wp2_with (go_at_call 83; refine (Tryd.internal_strconv_small u hs _).mono ?_; rintro e w' ⟨rfl, rfl⟩)
    go_ret
    exact ⟨rfl, Below.refl _ _⟩
  · have hu1 : 1 ≤ u := by omega
    have hnd20 : Lib.nDigits u ≤ 20 := by have := Lib.numDigits_eq u hu1 hu64; split at this <;> omega
    have hal : Tryd.prog.arrayLen 116 = 24 := by kernel_rfl
    have hsl1 : ∀ W, (Instr.sliceAt 116 (.pointer (some ⟨w.heap.size, 0, none⟩)) none (some (.int .i64 (Lib.nDigits u : Int))) none).run Tryd.prog W = .ok (.slice (some ⟨w.heap.size, 0, none⟩) (Lib.nDigits u) 24) W := fun W => by
      rw [run_sliceAt_array_h W 116 ⟨w.heap.size, 0, none⟩ (by kernel_rfl) .i64 (Lib.nDigits u : Int) (by omega) (by rw [hal]; omega), hal]
      rfl
    have hH0 := Lib.holds_zero0 w 116 (Lib.nDigits u) (by omega)
    have hfmt := Tryd.internal_strconv_formatBase10 w.heap.size 0 24 u (Array.replicate (Lib.nDigits u) 0) (w.alloc (.cells Lib.zeros24 116)) hH0 (by rw [Array.size_replicate]; exact Lib.lt_pow_nDigits u) hu64 (by rw [Array.size_replicate]; omega)
    rw [Array.size_replicate] at hfmt
    have HH0 := Lib.hid hH0
    clear hH0 hal
    go_enter Tryd.func76, Tryd.ntmps76
    go_wp2_with (first
      | (go_at_call 84; refine (Tryd.internal_strconv_numDigits u hu1 hu64 _ (Lib.tabIs_alloc htab _)).mono ?_; rintro e w' ⟨rfl, rfl⟩)
      | (go_at_call 85; refine hfmt.mono ?_; rintro e w' ⟨rfl, k, v', dk, rfl, hF⟩))
    have hcv : (convert 54 9 (.slice (some ⟨w.heap.size, 0, none⟩) (Lib.nDigits u) 24)).run Tryd.prog ((putRow (fun (b : UInt8) => Value.int .u8 (b.toNat : Int)) (w.alloc (.cells Lib.zeros24 116)) w.heap.size 0 dk).drewN k) = .ok (.string ⟨(Lib.decDigits u).toArray⟩) ((putRow (fun (b : UInt8) => Value.int .u8 (b.toNat : Int)) (w.alloc (.cells Lib.zeros24 116)) w.heap.size 0 dk).drewN k) := by
      have h := run_convert_bytes_back (P := Tryd.prog) ((putRow (fun (b : UInt8) => Value.int .u8 (b.toNat : Int)) (w.alloc (.cells Lib.zeros24 116)) w.heap.size 0 dk).drewN k) 54 9 5 ⟨w.heap.size, 0, none⟩ 24 (Lib.decDigits u) Tryd.underlying54 Tryd.underlying5 Tryd.underlying9 (fun j hj => by
        rw [Lib.row_is_numeral hF j hj, Lib.add_plain, World.cell?_drewN]
        exact cell?_putRow (fun (b : UInt8) => Value.int .u8 (b.toNat : Int)) _ w.heap.size 0 _ dk HH0.out (by rw [hF.size, Array.size_replicate]) j (by rw [hF.size]; rw [Lib.decDigits_length] at hj; exact hj))
      rw [Lib.decDigits_length] at h
      exact h
    rw [hcv]
    simp only [Result.andThen]
    rw [Oper.upon_value]
    go_wp2
    go_ret
    obtain ⟨os, eo⟩ := Lib.fin_at w (.cells Lib.zeros24 116) dk k 0
    refine ⟨rfl, ?_⟩
    rw [eo]
    exact Lib.below_grow _ _ (Nat.le_refl _) _ _
set_option maxRecDepth 100000 in
theorem outer (u : Nat) (hu64 : u < 18446744073709551616) (w : World) (htab : Tab w) :
    Calls Tryd.prog 68 #[.int .u64 u, .int .i64 10] w fun e w' => e = .returned (.string ⟨(Lib.decDigits u).toArray⟩) ∧ Below w.heap.size w w' := by
  go_enter Tryd.func68, Tryd.ntmps68
  go_wp2_with (go_at_call 76; refine (inner u hu64 _ htab).mono ?_; rintro e w' ⟨rfl, hb⟩)
  go_ret
  exact ⟨rfl, hb⟩
set_option maxRecDepth 100000 in
theorem format (u : Nat) (hu64 : u < 18446744073709551616) (w : World) (htab : Tab w) :
    Calls Tryd.prog 55 #[.int .u64 u] w fun e w' => e = .returned (.string ⟨(Lib.decDigits u).toArray⟩) ∧ Below w.heap.size w w' := by
  go_enter Tryd.func55, Tryd.ntmps55
  go_wp2_with (go_at_call 68; refine (outer u hu64 _ htab).mono ?_; rintro e w' ⟨rfl, hb⟩)
  go_ret
  exact ⟨rfl, hb⟩
end Go.Proofs.YtmnleabeipmhmaaDoor.Fmt
end
section
set_option linter.unusedVariables false
set_option linter.unusedSimpArgs false
namespace Go.Proofs.YtmnleabeipmhmaaDoor.Fmt
open Go.RowKit Go.Sort Go.Lib
def Errs (w : World) : Prop := (∃ te pe, w.cell? ⟨7, 0, none⟩ = some (.iface te pe)) ∧ (∃ te pe, w.cell? ⟨6, 0, none⟩ = some (.iface te pe))
def isDigit (c : UInt8) : Bool := decide (48 ≤ c.toNat) && decide (c.toNat ≤ 57)
def digitsB (l : List UInt8) : Bool := l.all isDigit
def valueFrom : Nat → List UInt8 → Nat
  | n, [] => n
  | n, c :: r => valueFrom (n * 10 + (c.toNat - 48)) r
def value (l : List UInt8) : Nat := valueFrom 0 l
theorem valueFrom_mono (l : List UInt8) : ∀ acc : Nat, acc ≤ valueFrom acc l := by
  induction l with
  | nil => intro acc; exact Nat.le_refl _
  | cons c r ih => intro acc; exact Nat.le_trans (by omega) (ih (acc * 10 + (c.toNat - 48)))
theorem value_go (l : List UInt8) (h : digitsB l = true) : ∀ acc : Nat, acc < 18446744073709551616 →
    (valueFrom acc l < 18446744073709551616 → Lib.parseUintM (2 ^ 64 - 1) acc l = .ok (valueFrom acc l)) ∧ (18446744073709551616 ≤ valueFrom acc l → Lib.parseUintM (2 ^ 64 - 1) acc l = .range) := by
  induction l with
  | nil => intro acc ha; exact ⟨fun _ => rfl, fun h => absurd (show 18446744073709551616 ≤ acc from h) (by omega)⟩
  | cons c r ih =>
    intro acc ha
    simp only [digitsB, List.all_cons, Bool.and_eq_true, isDigit, decide_eq_true_eq] at h
    obtain ⟨⟨h1, h2⟩, h3⟩ := h
    have hm := valueFrom_mono r (acc * 10 + (c.toNat - 48))
    have hv : valueFrom acc (c :: r) = valueFrom (acc * 10 + (c.toNat - 48)) r := rfl
    rw [hv]
    simp only [Lib.parseUintM]
    rw [if_pos ⟨h1, h2⟩]
    by_cases q1 : 1844674407370955162 ≤ acc
    · rw [if_pos q1]; exact ⟨fun h => by omega, fun _ => rfl⟩
    · rw [if_neg q1]
      by_cases q2 : 2 ^ 64 - 1 < acc * 10 + (c.toNat - 48)
      · rw [if_pos q2]; exact ⟨fun h => by omega, fun _ => rfl⟩
      · rw [if_neg q2]
        exact ih h3 _ (by omega)
theorem value_ok (l : List UInt8) (h : digitsB l = true) (hne : l ≠ []) (hv : value l < 18446744073709551616) : Lib.parseUintB 64 l = .ok (value l) := by
  unfold Lib.parseUintB
  rw [if_neg hne]
  exact (value_go l h 0 (by omega)).1 hv
theorem value_range (l : List UInt8) (h : digitsB l = true) (hne : l ≠ []) (hv : 18446744073709551616 ≤ value l) : Lib.parseUintB 64 l = .range := by
  unfold Lib.parseUintB
  rw [if_neg hne]
  exact (value_go l h 0 (by omega)).2 hv
end Go.Proofs.YtmnleabeipmhmaaDoor.Fmt
end
