/- What is proved here: a part of the proof of CircuitPrefixFree: Cvf. No conditions beside those that each theorem states. -/
import Derived.Test.YtmnleabeipmhmaaDoorKCPFee22
import Derived.Laws.EntriesVeiled
section
set_option linter.unusedVariables false
set_option linter.unusedSimpArgs false
namespace Go.Proofs.YtmnleabeipmhmaaDoor.P
open Go.RowKit Go.Proofs.YtmnleabeipmhmaaDoorW.PrintWords Go.Proofs.YtmnleabeipmhmaaDoorW.PrintLast Go.Proofs.YtmnleabeipmhmaaDoorW.PrintMore
def outF (n : Nat) (x : Int) : Bool := decide (x < 0) || decide ((n : Int) ≤ x)
set_option maxHeartbeats 4000000 in
set_option maxRecDepth 100000 in
theorem out_calls (x : Int) (C n c : Nat) (A : Option Addr) (w : World) (hC : w.cell? ⟨C, 1, none⟩ = some (.slice A n c)) : Calls Tryd.prog 50 #[.int .i64 x, .pointer (some ⟨C, 0, none⟩)] w fun r w' => r = .returned (.bool (outF n x)) ∧ w' = w := by
  go_enter Tryd.func50, Tryd.ntmps50
  cases h1 : decide (x < 0)
  · cases h2 : decide ((n : Int) ≤ x)
    · go_wp2_with fail
      go_ret
      exact ⟨by simp [outF, h1, h2], by first | rfl | trivial⟩
    · go_wp2_with fail
      go_ret
      exact ⟨by simp [outF, h1, h2], by first | rfl | trivial⟩
  · go_wp2_with fail
    go_ret
    exact ⟨by simp [outF, h1], by first | rfl | trivial⟩
def idxOut (n : Nat) : List Int → Int → Int
  | [], _ => -1
  | x :: l, i => if outF n x = true then i else idxOut n l (i + 1)
set_option maxHeartbeats 4000000 in
set_option maxRecDepth 100000 in
theorem indexOut_calls (A1 : Option Addr) (c1 : Nat) (l : List Int) (C n c : Nat) (A : Option Addr) (w : World) (hl : Kd.C (Kd.int .i64) w A1 l.length l) (hC : w.cell? ⟨C, 1, none⟩ = some (.slice A n c)) :
    Calls Tryd.prog 65 #[.slice A1 l.length c1, .func (.func 50) #[] #[.pointer (some ⟨C, 0, none⟩)]] w fun r w' => r = .returned (.int .i64 (idxOut n l 0)) ∧ w' = w := by
  have hmax : l.length ≤ 9223372036854775807 := hl.2.1
  have HL := Lib.hid hl
  have HC := Lib.hid hC
  have hE0 : idxOut n (l.drop 0) ((0 : Nat) : Int) = idxOut n l 0 := rfl
  generalize idxOut n l 0 = E at hE0 ⊢
  have HE := Lib.hid hE0
  clear hE0 hl hC
  go_enter Tryd.func65, Tryd.ntmps65
  go_wp2_with fail
  go_loopw [5, 8] (fun v5 v8 wr => ∃ i : Nat, v8 = .int .i64 i ∧ i ≤ l.length ∧ idxOut n (l.drop i) (i : Int) = E ∧ wr = w) (fun _ v8 _ => ((l.length : Int) - intOf v8).toNat)
  case atStart => exact ⟨0, rfl, by omega, HE.out, rfl⟩
  case round =>
    clear HE
    obtain ⟨i, rfl, hi, hE, rfl⟩ := hrel
    by_cases hlt : i < l.length
    · rw [List.drop_eq_getElem_cons hlt, idxOut] at hE
      obtain ⟨ad, rfl, hcell⟩ := Kd.at_int HL.out (i : Int) (by omega) (by omega)
      rw [show rd l (i : Int) = l[i] by simp [rd, hlt], Int.toNat_natCast] at hcell
      generalize l[i] = x at hcell hE
      have HE := Lib.hid hE
      clear hE
      cases hb : outF n x
      · go_wp2_with (go_at_call 50; refine (out_calls x C n c A _ HC.out).mono ?_; rintro r w' ⟨rfl, rfl⟩)
        have hE := HE.out
        rw [if_neg (by rw [hb]; decide)] at hE
        exact ⟨⟨i + 1, rfl, by omega, hE, (by first | rfl | trivial)⟩, by simp only [intOf]; omega⟩
      · go_wp2_with (go_at_call 50; refine (out_calls x C n c A _ HC.out).mono ?_; rintro r w' ⟨rfl, rfl⟩)
        go_ret
        have hE := HE.out
        rw [if_pos hb] at hE
        exact ⟨by rw [← hE]; rfl, rfl⟩
    · have : i = l.length := by omega
      subst this
      have hE2 : E = -1 := by rw [← hE, List.drop_length]; rfl
      clear hE
      go_wp2_with fail
      go_ret
      exact ⟨by rw [hE2]; rfl, by first | rfl | trivial⟩
theorem idxOut_neg (n : Nat) (l : List Int) : ∀ i : Int, 0 ≤ i → (decide (0 ≤ idxOut n l i) = l.any (outF n)) := by
  induction l with
  | nil => intro i _; rfl
  | cons x l ih =>
    intro i hi
    rw [idxOut]
    cases hb : outF n x
    · rw [if_neg (by decide), ih (i + 1) (by omega)]; simp [hb]
    · rw [if_pos rfl]; simp [hb, hi]
set_option maxHeartbeats 4000000 in
set_option maxRecDepth 100000 in
theorem anyOut_calls (A1 : Option Addr) (c1 : Nat) (l : List Int) (C n c : Nat) (A : Option Addr) (w : World) (hl : Kd.C (Kd.int .i64) w A1 l.length l) (hC : w.cell? ⟨C, 1, none⟩ = some (.slice A n c)) :
    Calls Tryd.prog 49 #[.slice A1 l.length c1, .func (.func 50) #[] #[.pointer (some ⟨C, 0, none⟩)]] w fun r w' => r = .returned (.bool (l.any (outF n))) ∧ w' = w := by
  have hE := idxOut_neg n l 0 (by omega)
  have HC := Lib.hid (indexOut_calls A1 c1 l C n c A w hl hC)
  clear hl hC
  generalize idxOut n l 0 = E at HC hE
  generalize l.any (outF n) = R at hE ⊢
  go_enter Tryd.func49, Tryd.ntmps49
  go_wp2_with (go_at_call 65; refine HC.out.mono ?_; rintro e w1 ⟨rfl, rfl⟩)
  go_ret
  exact ⟨by rw [← hE]; rfl, by first | rfl | trivial⟩
end Go.Proofs.YtmnleabeipmhmaaDoor.P
end
