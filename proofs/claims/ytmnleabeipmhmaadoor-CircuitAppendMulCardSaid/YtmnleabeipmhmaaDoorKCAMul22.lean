/- What is proved here: a part of the proof of CircuitAppendMul: Csu, Cri. No conditions beside those that each theorem states. -/
import Derived.Test.YtmnleabeipmhmaaDoorKCAMul16
import Derived.Laws.EntriesVeiled
section
set_option linter.unusedVariables false
set_option linter.unusedSimpArgs false
namespace Go.Proofs.YtmnleabeipmhmaaDoor.P
open Go.RowKit Go.Proofs.YtmnleabeipmhmaaDoorW.PrintWords Go.Proofs.YtmnleabeipmhmaaDoorW.PrintLast Go.Proofs.YtmnleabeipmhmaaDoorW.PrintMore
def expL : List (Int × Int) := [(5, 31), (7, 127), (13, 8191), (17, 131071), (19, 524287), (31, 2147483647), (61, 2305843009213693951)]
def zbw : List (Int × Int) → Int → Int
  | [], _ => 0
  | (q, m) :: r, p => if (p == m) = true then q else zbw r p
def expF (p : Int) : Int := zbw expL p
def expCells : Array Value := (([5, 7, 13, 17, 19, 31, 61] : List Int).map fun z => Value.int .i64 z).toArray
theorem exp_index0 (W' : World) : (Instr.index 108 (.agg expCells) (.int .i64 0)).run Tryd.prog W' = .ok (.int .i64 5) W' := by kernel_rfl
theorem exp_index1 (W' : World) : (Instr.index 108 (.agg expCells) (.int .i64 1)).run Tryd.prog W' = .ok (.int .i64 7) W' := by kernel_rfl
theorem exp_index2 (W' : World) : (Instr.index 108 (.agg expCells) (.int .i64 2)).run Tryd.prog W' = .ok (.int .i64 13) W' := by kernel_rfl
theorem exp_index3 (W' : World) : (Instr.index 108 (.agg expCells) (.int .i64 3)).run Tryd.prog W' = .ok (.int .i64 17) W' := by kernel_rfl
theorem exp_index4 (W' : World) : (Instr.index 108 (.agg expCells) (.int .i64 4)).run Tryd.prog W' = .ok (.int .i64 19) W' := by kernel_rfl
theorem exp_index5 (W' : World) : (Instr.index 108 (.agg expCells) (.int .i64 5)).run Tryd.prog W' = .ok (.int .i64 31) W' := by kernel_rfl
theorem exp_index6 (W' : World) : (Instr.index 108 (.agg expCells) (.int .i64 6)).run Tryd.prog W' = .ok (.int .i64 61) W' := by kernel_rfl
set_option maxHeartbeats 4000000 in
set_option maxRecDepth 100000 in
theorem exponent_calls (p : Int) (w : World) (hLd : Ld w) : Calls Tryd.prog 63 #[.int .u64 p] w fun r w' => r = .returned (.int .i64 (expF p)) ∧ w' = w := by
  obtain ⟨ft, ffr, hft⟩ := hLd.2.2
  clear hLd
  have hE0 : zbw (expL.drop 0) p = expF p := rfl
  generalize expF p = E at hE0 ⊢
  have HE := Lib.hid hE0
  clear hE0
  go_enter Tryd.func63, Tryd.ntmps63
  go_wp2_with (refine wpList_load_row rfl 108 (.global 1) rfl 1 rfl ft expCells ffr _ hft Tryd.underlying108 rfl (by kernel_rfl) ?_)
  clear hft
  go_loopw [4, 6] (fun v4 v6 wr => ∃ i : Nat, v6 = .int .i64 i ∧ i ≤ 7 ∧ zbw (expL.drop i) p = E ∧ wr = w) (fun _ v6 _ => (7 - intOf v6).toNat)
  case atStart => exact ⟨0, rfl, by omega, HE.out, rfl⟩
  case round =>
    clear HE
    obtain ⟨i, rfl, hi, hE, rfl⟩ := hrel
    rcases (show i = 0 ∨ i = 1 ∨ i = 2 ∨ i = 3 ∨ i = 4 ∨ i = 5 ∨ i = 6 ∨ i = 7 by omega) with rfl | rfl | rfl | rfl | rfl | rfl | rfl | rfl
    · have hidx := exp_index0
      cases hA : (p == 31)
      · have hE2 : zbw (expL.drop 1) p = E := by simpa [expL, zbw, hA] using hE
        have HE2 := Lib.hid hE2
        clear hE hE2
        go_wp2_with fail
        exact ⟨⟨1, rfl, by omega, HE2.out, (by first | rfl | trivial)⟩, by decide⟩
      · have hE2 : E = 5 := by simpa [expL, zbw, hA] using hE.symm
        clear hE
        go_wp2_with fail
        go_ret
        exact ⟨by rw [hE2]; rfl, by first | rfl | trivial⟩
    · have hidx := exp_index1
      cases hA : (p == 127)
      · have hE2 : zbw (expL.drop 2) p = E := by simpa [expL, zbw, hA] using hE
        have HE2 := Lib.hid hE2
        clear hE hE2
        go_wp2_with fail
        exact ⟨⟨2, rfl, by omega, HE2.out, (by first | rfl | trivial)⟩, by decide⟩
      · have hE2 : E = 7 := by simpa [expL, zbw, hA] using hE.symm
        clear hE
        go_wp2_with fail
        go_ret
        exact ⟨by rw [hE2]; rfl, by first | rfl | trivial⟩
    · have hidx := exp_index2
      cases hA : (p == 8191)
      · have hE2 : zbw (expL.drop 3) p = E := by simpa [expL, zbw, hA] using hE
        have HE2 := Lib.hid hE2
        clear hE hE2
        go_wp2_with fail
        exact ⟨⟨3, rfl, by omega, HE2.out, (by first | rfl | trivial)⟩, by decide⟩
      · have hE2 : E = 13 := by simpa [expL, zbw, hA] using hE.symm
        clear hE
        go_wp2_with fail
        go_ret
        exact ⟨by rw [hE2]; rfl, by first | rfl | trivial⟩
    · have hidx := exp_index3
      cases hA : (p == 131071)
      · have hE2 : zbw (expL.drop 4) p = E := by simpa [expL, zbw, hA] using hE
        have HE2 := Lib.hid hE2
        clear hE hE2
        go_wp2_with fail
        exact ⟨⟨4, rfl, by omega, HE2.out, (by first | rfl | trivial)⟩, by decide⟩
      · have hE2 : E = 17 := by simpa [expL, zbw, hA] using hE.symm
        clear hE
        go_wp2_with fail
        go_ret
        exact ⟨by rw [hE2]; rfl, by first | rfl | trivial⟩
    · have hidx := exp_index4
      cases hA : (p == 524287)
      · have hE2 : zbw (expL.drop 5) p = E := by simpa [expL, zbw, hA] using hE
        have HE2 := Lib.hid hE2
        clear hE hE2
        go_wp2_with fail
        exact ⟨⟨5, rfl, by omega, HE2.out, (by first | rfl | trivial)⟩, by decide⟩
      · have hE2 : E = 19 := by simpa [expL, zbw, hA] using hE.symm
        clear hE
        go_wp2_with fail
        go_ret
        exact ⟨by rw [hE2]; rfl, by first | rfl | trivial⟩
    · have hidx := exp_index5
      cases hA : (p == 2147483647)
      · have hE2 : zbw (expL.drop 6) p = E := by simpa [expL, zbw, hA] using hE
        have HE2 := Lib.hid hE2
        clear hE hE2
        go_wp2_with fail
        exact ⟨⟨6, rfl, by omega, HE2.out, (by first | rfl | trivial)⟩, by decide⟩
      · have hE2 : E = 31 := by simpa [expL, zbw, hA] using hE.symm
        clear hE
        go_wp2_with fail
        go_ret
        exact ⟨by rw [hE2]; rfl, by first | rfl | trivial⟩
    · have hidx := exp_index6
      cases hA : (p == 2305843009213693951)
      · have hE2 : zbw (expL.drop 7) p = E := by simpa [expL, zbw, hA] using hE
        have HE2 := Lib.hid hE2
        clear hE hE2
        go_wp2_with fail
        exact ⟨⟨7, rfl, by omega, HE2.out, (by first | rfl | trivial)⟩, by decide⟩
      · have hE2 : E = 61 := by simpa [expL, zbw, hA] using hE.symm
        clear hE
        go_wp2_with fail
        go_ret
        exact ⟨by rw [hE2]; rfl, by first | rfl | trivial⟩
    · have hE2 : E = 0 := by simpa [expL, zbw] using hE.symm
      clear hE
      go_wp2_with fail
      go_ret
      exact ⟨by rw [hE2]; rfl, by first | rfl | trivial⟩
set_option maxHeartbeats 4000000 in
set_option maxRecDepth 100000 in
theorem zcv (p : Int) (w : World) (hLd : Ld w) : Calls Tryd.prog 47 #[.int .u64 p] w fun r w' => r = .returned (.bool (expF p != 0)) ∧ w' = w := by
  have HC := Lib.hid (exponent_calls p w hLd)
  clear hLd
  go_enter Tryd.func47, Tryd.ntmps47
  go_wp2_with (go_at_call 63; refine HC.out.mono ?_; rintro e w1 ⟨rfl, rfl⟩)
  go_ret
  exact ⟨rfl, rfl⟩
end Go.Proofs.YtmnleabeipmhmaaDoor.P
end
section
set_option linter.unusedVariables false
set_option linter.unusedSimpArgs false
namespace Go.Proofs.YtmnleabeipmhmaaDoor.P
open Go.RowKit Go.Proofs.YtmnleabeipmhmaaDoorW.PrintWords Go.Proofs.YtmnleabeipmhmaaDoorW.PrintLast Go.Proofs.YtmnleabeipmhmaaDoorW.PrintMore
def zcn (has : Bool) (x at_ : Int) : Bool := if has then decide (0 ≤ x) && decide (x < at_) else x == 0
set_option maxHeartbeats 4000000 in
set_option maxRecDepth 100000 in
theorem zbe (has : Bool) (x at_ : Int) (p : Addr) (w : World) (hp : w.cell? p = some (.int .i64 at_)) : Calls Tryd.prog 64 #[.bool has, .int .i64 x, .pointer (some p)] w fun r w' => r = .returned (.bool (zcn has x at_)) ∧ w' = w := by
  go_enter Tryd.func64, Tryd.ntmps64
  cases has
  · cases h : (x == 0)
    · go_wp2_with fail
      go_ret
      exact ⟨by simp [zcn, h], by first | rfl | trivial⟩
    · go_wp2_with fail
      go_ret
      exact ⟨by simp [zcn, h], by first | rfl | trivial⟩
  · by_cases h1 : 0 ≤ x
    · by_cases h2 : x < at_
      · go_wp2_with fail
        go_ret
        exact ⟨by simp [zcn, h1, h2], by first | rfl | trivial⟩
      · go_wp2_with fail
        go_ret
        exact ⟨by simp [zcn, h1, h2], by first | rfl | trivial⟩
    · go_wp2_with fail
      go_ret
      have h3 : decide (0 ≤ x) = false := decide_eq_false (by omega)
      exact ⟨by simp [zcn, h3], by first | rfl | trivial⟩
end Go.Proofs.YtmnleabeipmhmaaDoor.P
end
