/- What is proved: the contract of auction.Program at this seat's translation, in the form that the printed functions take it in. -/
import Derived.Test.YtiookappidgofaaDoorAuc
set_option linter.unusedVariables false
set_option linter.unusedSimpArgs false
namespace Go.Proofs.YtiookappidgofaaDoor.Auc
open Go.RowKit

set_option maxHeartbeats 4000000 in
set_option maxRecDepth 100000 in
theorem Program_ok (n k : Nat) (hn1 : 4 ≤ n) (hn2 : n ≤ 13) (hk1 : 1 ≤ k) (hk2 : k ≤ 16) (w : World) :
    Calls Tryd.prog 12 #[.int .i64 n, .int .i64 k] w fun e w' => e = .returned (.tuple #[.string ⟨(progL n k).toArray⟩, .int .i64 0]) ∧ Below w.heap.size w w' := by
  have hdk := decL_le (i := k) (by omega)
  go_enter Tryd.func12, Tryd.ntmps12
  go_wp2_with fail
  go_loopw [7] (fun i wr => ∃ m : Nat, 1 ≤ m ∧ m ≤ n + 1 ∧ i = .int .i64 m ∧ Blds.Is w.heap.size w.heap.size (Lib.byteCells (firstL k (m - 1))) wr ∧ Below w.heap.size w wr) (fun i _ => n + 1 - (intOf i).toNat)
  case atStart => exact ⟨1, by omega, by omega, rfl, Blds.fresh w, (Below.refl _ _).alloc (Nat.le_refl _) _⟩
  case round =>
    obtain ⟨m, hm1, hm2, rfl, hI, hB⟩ := hrel
    have hsz := hB.size
    have hfl := firstL_le (k := k) (by omega) (m - 1) (by omega)
    by_cases hlt : m ≤ n
    · have hbm := bidL_le (i := m) (by omega)
      have hdm := decL_le (i := m) (by omega)
      have hil := inL_le (k := k) (i := m) (by omega) (by omega)
      go_wp2_with (first | (go_at_call 13; refine (itoa _ (by omega) _).mono ?_; rintro e w' ⟨rfl, rfl⟩) | (go_at_call 15; refine (bid _ (by omega) _).mono ?_; rintro e w' ⟨rfl, rfl⟩))
      refine (lineAt _ _ _ [[105, 110, 32], bidL m, [32, 102, 114, 111, 109, 32], decL m, [58, 32], decL k, [59]] _ rfl _ rfl _ hI (by omega) (by simp) (by simp [lineL]; omega)).mono ?_
      rintro e w2 ⟨rfl, hI2, hB2⟩
      replace hB := hB.trans hB2
      clear hI hB2 hsz
      have hsz := hB.size
      have hI := hI2; clear hI2
      go_wp2_with fail
      go_roundw
      case rel => exact ⟨m + 1, by omega, by omega, by simp, by rw [show m + 1 - 1 = (m - 1) + 1 from by omega, firstL_succ, show m - 1 + 1 = m from by omega]; exact hI, hB⟩
      case measure => simp [intOf]; omega
    · obtain rfl : m = n + 1 := by omega
      rw [show n + 1 - 1 = n from rfl] at hI hfl
      go_wp2_with fail
      refine (lineAt _ _ _ [[98, 101, 115, 116, 32, 61, 32, 98, 49, 59]] _ rfl _ rfl _ hI (by omega) (by simp) (by simp [lineL]; omega)).mono ?_
      rintro e w2 ⟨rfl, hI2, hB2⟩
      replace hB := hB.trans hB2
      clear hI hB2 hsz
      have hsz := hB.size
      have hI := hI2; clear hI2
      go_wp2_with fail
      refine (lineAt _ _ _ [[112, 114, 105, 99, 101, 32, 61, 32, 48, 59]] _ rfl _ rfl _ hI (by omega) (by simp) (by simp [lineL]; omega)).mono ?_
      rintro e w2 ⟨rfl, hI2, hB2⟩
      replace hB := hB.trans hB2
      clear hI hB2 hsz
      have hsz := hB.size
      have hI := hI2; clear hI2
      go_wp2_with fail
      refine (lineAt _ _ _ [[119, 104, 111, 32, 61, 32, 49, 59]] _ rfl _ rfl _ hI (by omega) (by simp) (by simp [lineL]; omega)).mono ?_
      rintro e w2 ⟨rfl, hI2, hB2⟩
      replace hB := hB.trans hB2
      clear hI hB2 hsz
      have hsz := hB.size
      have hI := hI2; clear hI2
      go_wp2_with fail
      go_loopw [9] (fun i wr => ∃ m : Nat, 2 ≤ m ∧ m ≤ n + 1 ∧ i = .int .i64 m ∧ Blds.Is w.heap.size w.heap.size (Lib.byteCells (firstL k n ++ midL ++ secondL (m - 2))) wr ∧ Below w.heap.size w wr) (fun i _ => n + 1 - (intOf i).toNat)
      case atStart => exact ⟨2, by omega, by omega, rfl, by simpa [midL, secondL, List.append_assoc] using hI, hB⟩
      case round =>
        clear hI hB hsz
        obtain ⟨m, hm1, hm2, rfl, hI, hB⟩ := hrel
        have hsz := hB.size
        have hsl := secondL_le (m - 2) (by omega)
        have hml : midL.length ≤ 100 := by decide
        by_cases hlt : m ≤ n
        · have hbm := bidL_le (i := m) (by omega)
          have hdm := decL_le (i := m) (by omega)
          go_wp2_with (first | (go_at_call 13; refine (itoa _ (by omega) _).mono ?_; rintro e w' ⟨rfl, rfl⟩) | (go_at_call 15; refine (bid _ (by omega) _).mono ?_; rintro e w' ⟨rfl, rfl⟩))
          refine (lineAt _ _ _ [[105, 102, 32, 40, 98, 101, 115, 116, 32, 60, 32], bidL m, [41, 32, 123]] _ rfl _ rfl _ hI (by omega) (by simp) (by simp [lineL]; omega)).mono ?_
          rintro e w2 ⟨rfl, hI2, hB2⟩
          replace hB := hB.trans hB2
          clear hI hB2 hsz
          have hsz := hB.size
          have hI := hI2; clear hI2
          go_wp2_with (first | (go_at_call 13; refine (itoa _ (by omega) _).mono ?_; rintro e w' ⟨rfl, rfl⟩) | (go_at_call 15; refine (bid _ (by omega) _).mono ?_; rintro e w' ⟨rfl, rfl⟩))
          refine (lineAt _ _ _ [[32, 32, 112, 114, 105, 99, 101, 32, 61, 32, 98, 101, 115, 116, 59]] _ rfl _ rfl _ hI (by omega) (by simp) (by simp [lineL]; omega)).mono ?_
          rintro e w2 ⟨rfl, hI2, hB2⟩
          replace hB := hB.trans hB2
          clear hI hB2 hsz
          have hsz := hB.size
          have hI := hI2; clear hI2
          go_wp2_with (first | (go_at_call 13; refine (itoa _ (by omega) _).mono ?_; rintro e w' ⟨rfl, rfl⟩) | (go_at_call 15; refine (bid _ (by omega) _).mono ?_; rintro e w' ⟨rfl, rfl⟩))
          refine (lineAt _ _ _ [[32, 32, 98, 101, 115, 116, 32, 61, 32], bidL m, [59]] _ rfl _ rfl _ hI (by omega) (by simp) (by simp [lineL]; omega)).mono ?_
          rintro e w2 ⟨rfl, hI2, hB2⟩
          replace hB := hB.trans hB2
          clear hI hB2 hsz
          have hsz := hB.size
          have hI := hI2; clear hI2
          go_wp2_with (first | (go_at_call 13; refine (itoa _ (by omega) _).mono ?_; rintro e w' ⟨rfl, rfl⟩) | (go_at_call 15; refine (bid _ (by omega) _).mono ?_; rintro e w' ⟨rfl, rfl⟩))
          refine (lineAt _ _ _ [[32, 32, 119, 104, 111, 32, 61, 32], decL m, [59]] _ rfl _ rfl _ hI (by omega) (by simp) (by simp [lineL]; omega)).mono ?_
          rintro e w2 ⟨rfl, hI2, hB2⟩
          replace hB := hB.trans hB2
          clear hI hB2 hsz
          have hsz := hB.size
          have hI := hI2; clear hI2
          go_wp2_with (first | (go_at_call 13; refine (itoa _ (by omega) _).mono ?_; rintro e w' ⟨rfl, rfl⟩) | (go_at_call 15; refine (bid _ (by omega) _).mono ?_; rintro e w' ⟨rfl, rfl⟩))
          refine (lineAt _ _ _ [[125, 32, 101, 108, 115, 101, 32, 123]] _ rfl _ rfl _ hI (by omega) (by simp) (by simp [lineL]; omega)).mono ?_
          rintro e w2 ⟨rfl, hI2, hB2⟩
          replace hB := hB.trans hB2
          clear hI hB2 hsz
          have hsz := hB.size
          have hI := hI2; clear hI2
          go_wp2_with (first | (go_at_call 13; refine (itoa _ (by omega) _).mono ?_; rintro e w' ⟨rfl, rfl⟩) | (go_at_call 15; refine (bid _ (by omega) _).mono ?_; rintro e w' ⟨rfl, rfl⟩))
          refine (lineAt _ _ _ [[32, 32, 112, 114, 105, 99, 101, 32, 61, 32, 112, 114, 105, 99, 101, 32, 60, 32], bidL m, [32, 63, 32], bidL m, [32, 58, 32, 112, 114, 105, 99, 101, 59]] _ rfl _ rfl _ hI (by omega) (by simp) (by simp [lineL]; omega)).mono ?_
          rintro e w2 ⟨rfl, hI2, hB2⟩
          replace hB := hB.trans hB2
          clear hI hB2 hsz
          have hsz := hB.size
          have hI := hI2; clear hI2
          go_wp2_with (first | (go_at_call 13; refine (itoa _ (by omega) _).mono ?_; rintro e w' ⟨rfl, rfl⟩) | (go_at_call 15; refine (bid _ (by omega) _).mono ?_; rintro e w' ⟨rfl, rfl⟩))
          refine (lineAt _ _ _ [[125]] _ rfl _ rfl _ hI (by omega) (by simp) (by simp [lineL]; omega)).mono ?_
          rintro e w2 ⟨rfl, hI2, hB2⟩
          replace hB := hB.trans hB2
          clear hI hB2 hsz
          have hsz := hB.size
          have hI := hI2; clear hI2
          go_wp2_with (first | (go_at_call 13; refine (itoa _ (by omega) _).mono ?_; rintro e w' ⟨rfl, rfl⟩) | (go_at_call 15; refine (bid _ (by omega) _).mono ?_; rintro e w' ⟨rfl, rfl⟩))
          go_roundw
          case rel => exact ⟨m + 1, by omega, by omega, by simp, by rw [show m + 1 - 2 = (m - 2) + 1 from by omega, secondL_succ, show m - 2 + 2 = m from by omega]; simpa [roundL, List.append_assoc] using hI, hB⟩
          case measure => simp [intOf]; omega
        · obtain rfl : m = n + 1 := by omega
          rw [show n + 1 - 2 = n - 1 from rfl] at hI hsl
          go_wp2_with fail
          refine (lineAt _ _ _ [[111, 117, 116, 32, 119, 104, 111, 59]] _ rfl _ rfl _ hI (by omega) (by simp) (by simp [lineL]; omega)).mono ?_
          rintro e w2 ⟨rfl, hI2, hB2⟩
          replace hB := hB.trans hB2
          clear hI hB2 hsz
          have hsz := hB.size
          have hI := hI2; clear hI2
          go_wp2_with fail
          refine (lineAt _ _ _ [[111, 117, 116, 32, 112, 114, 105, 99, 101, 59]] _ rfl _ rfl _ hI (by omega) (by simp) (by simp [lineL]; omega)).mono ?_
          rintro e w2 ⟨rfl, hI2, hB2⟩
          replace hB := hB.trans hB2
          clear hI hB2 hsz
          have hsz := hB.size
          have hI := hI2; clear hI2
          have hI3 : Blds.Is w.heap.size w.heap.size (Lib.byteCells (progL n k)) w2 := by simpa [progL, endL, List.append_assoc] using hI
          have hne : progL n k ≠ [] := by simp [progL, endL, lineL]
          clear hI
          go_wp2_with (go_at_call 16; refine (Blds.string _ _ _ _ hI3 hne).mono ?_; rintro e w3 ⟨rfl, g1, g2, g3⟩)
          go_ret2
          exact ⟨rfl, hB.trans g2⟩

end Go.Proofs.YtiookappidgofaaDoor.Auc
