/- What is proved here: a part of the proof of ScriptParse: Srl. No conditions beside those that each theorem states. -/
import Derived.Test.YtfgbdcpfbghdoaaGreatDoorKSPse37
section
set_option linter.unusedVariables false
set_option linter.unusedSimpArgs false
namespace Go.Proofs.YtfgbdcpfbghdoaaGreatDoor.P
open Go.RowKit Go.Proofs.YtfgbdcpfbghdoaaGreatDoorW.PrintWords Go.Proofs.YtfgbdcpfbghdoaaGreatDoorW.PrintLast Go.Proofs.YtfgbdcpfbghdoaaGreatDoorW.PrintMore
def run : List UInt8 → List UInt8 × List UInt8
  | [] => ([], [])
  | c :: r => if bareB c then (c :: (run r).1, (run r).2) else ([], c :: r)
def quoteR (r : List UInt8) : ByteArray × Bool × ByteArray × Bool := match cutQ r with
  | none => (⟨#[]⟩, false, ⟨#[]⟩, false)
  | some p => ((openR p.1).1, false, mkB p.2, (openR p.1).2)
def bareR (l : List UInt8) : ByteArray × Bool × ByteArray × Bool := (mkB (run l).1, true, mkB (run l).2, decide (((run l).1.length : Int) > 0))
theorem quote_no (s : List UInt8) (hl : s.length ≤ 1000000) (hne : ∀ j (h : j < s.length), 1 ≤ j → s[j] ≠ 34) : ∀ (d i : Nat), s.length - i = d → 1 ≤ i → i ≤ s.length → Ev (fun k => privityref53_piece.l0 k (mkB s) (i : Int)) (⟨#[]⟩, false, ⟨#[]⟩, false) := by
  intro d
  induction d with
  | zero =>
    intro i hd h1 hi
    have hs := mkB_size s
    have c1 : ¬ (i : Int) < ((mkB s).size : Int) := by omega
    have c2 : (i : Int) = ((mkB s).size : Int) := by omega
    refine Ev.step (f := fun _ => some (⟨#[]⟩, false, ⟨#[]⟩, false)) (fun k => ?_) (Ev.now _)
    simp only [privityref53_piece.l0]
    rw [if_neg c1, if_pos c2]
  | succ d ih =>
    intro i hd h1 hi
    have hs := mkB_size s
    have hlt : i < s.length := by omega
    have c1 : (i : Int) < ((mkB s).size : Int) := by omega
    have c2 : 0 ≤ (i : Int) := by omega
    have m1 : s.length ≤ 9223372036854775807 := by omega
    have hx := ih (i + 1) (by omega) (by omega) (by omega)
    have hb : bt (mkB s) (i : Int) = (s[i].toNat : Int) := bt_nat s i hlt
    have hn : ¬ bt (mkB s) (i : Int) = 34 := by rw [hb]; exact fun e => hne i hlt h1 ((n34 _).1 e)
    refine Ev.step (fun k => ?_) hx
    simp only [privityref53_piece.l0]
    rw [if_pos c1, if_pos c2, if_neg hn, wrap_nat hlt m1]
theorem quote_yes (a t : List UInt8) (ha : (34 : UInt8) ∉ a) (hl : (34 :: (a ++ 34 :: t)).length ≤ 1000000) : ∀ (d i : Nat), a.length + 1 - i = d → 1 ≤ i → i ≤ a.length + 1 → Ev (fun k => privityref53_piece.l0 k (mkB (34 :: (a ++ 34 :: t))) (i : Int)) ((openR a).1, false, mkB t, (openR a).2) := by
  have hL : (34 :: (a ++ 34 :: t)).length = a.length + t.length + 2 := by simp; omega
  intro d
  induction d with
  | zero =>
    intro i hd h1 hi
    obtain rfl : i = a.length + 1 := by omega
    have hs := mkB_size (34 :: (a ++ 34 :: t))
    have hlt : a.length + 1 < (34 :: (a ++ 34 :: t)).length := by omega
    have c1 : ((a.length + 1 : Nat) : Int) < ((mkB (34 :: (a ++ 34 :: t))).size : Int) := by omega
    have c2 : 0 ≤ ((a.length + 1 : Nat) : Int) := by omega
    have c3 : ¬ ((a.length + 1 : Nat) : Int) = ((mkB (34 :: (a ++ 34 :: t))).size : Int) := by omega
    have c4 : 1 ≤ ((a.length + 1 : Nat) : Int) := by omega
    have c5 : ((a.length + 1 : Nat) : Int) ≤ ((mkB (34 :: (a ++ 34 :: t))).size : Int) := by omega
    have c6 : 0 ≤ ((a.length + 1 + 1 : Nat) : Int) := by omega
    have c7 : ((a.length + 1 + 1 : Nat) : Int) ≤ ((mkB (34 :: (a ++ 34 :: t))).size : Int) := by omega
    have m1 : (34 :: (a ++ 34 :: t)).length ≤ 9223372036854775807 := by omega
    have m2 : a.length ≤ 1000000 := by omega
    have hb : bt (mkB (34 :: (a ++ 34 :: t))) ((a.length + 1 : Nat) : Int) = 34 := by
      have h := bt_nat (34 :: (a ++ 34 :: t)) (a.length + 1) hlt
      have h2 : (34 :: (a ++ 34 :: t))[a.length + 1] = 34 := by simp
      rw [h2] at h; exact h
    have hw := wrap_nat hlt m1
    have e1 : (mkB (34 :: (a ++ 34 :: t))).extract 1 ((a.length + 1 : Nat) : Int).toNat = mkB a := by
      unfold mkB; rw [ext_eq]; simp
    have e2 : (mkB (34 :: (a ++ 34 :: t))).extract ((a.length + 1 + 1 : Nat) : Int).toNat (mkB (34 :: (a ++ 34 :: t))).size = mkB t := by
      rw [mkB_size]
      unfold mkB
      rw [ext_eq]
      have : (34 :: (a ++ 34 :: t)).drop ((a.length + 1 + 1 : Nat) : Int).toNat = t := by
        rw [show ((a.length + 1 + 1 : Nat) : Int).toNat = (34 :: (a ++ [34])).length by rw [Int.toNat_natCast]; simp, show 34 :: (a ++ (34 : UInt8) :: t) = (34 :: (a ++ [34])) ++ t by simp, List.drop_left]
      rw [this, List.take_of_length_le (by rw [hL]; simp; omega)]
    refine Ev.step (fun k => by simp only [privityref53_piece.l0]; rw [if_pos c1, if_pos c2, hb, if_pos rfl, if_neg c3, if_pos c4, if_pos c5, e1]) (Ev.bind (refUnquote a m2) ?_)
    refine Ev.congr (f := fun _ => some ((openR a).1, false, mkB t, (openR a).2)) (fun k => ?_) (Ev.now _)
    rw [hw, if_pos c6, if_pos c7, e2]
  | succ d ih =>
    intro i hd h1 hi
    have hs := mkB_size (34 :: (a ++ 34 :: t))
    have hlt : i < (34 :: (a ++ 34 :: t)).length := by omega
    have c1 : (i : Int) < ((mkB (34 :: (a ++ 34 :: t))).size : Int) := by omega
    have c2 : 0 ≤ (i : Int) := by omega
    have m1 : (34 :: (a ++ 34 :: t)).length ≤ 9223372036854775807 := by omega
    have hx := ih (i + 1) (by omega) (by omega) (by omega)
    obtain ⟨j, rfl⟩ : ∃ j, i = j + 1 := ⟨i - 1, by omega⟩
    have hja : j < a.length := by omega
    have hb : bt (mkB (34 :: (a ++ 34 :: t))) ((j + 1 : Nat) : Int) = ((34 :: (a ++ 34 :: t))[j + 1].toNat : Int) := bt_nat _ _ hlt
    have hn : ¬ bt (mkB (34 :: (a ++ 34 :: t))) ((j + 1 : Nat) : Int) = 34 := by
      rw [hb]
      have h2 : (34 :: (a ++ 34 :: t))[j + 1] = a[j] := by simp [List.getElem_append_left hja]
      rw [h2]
      exact fun e => ha (by rw [← (n34 _).1 e]; exact List.getElem_mem hja)
    refine Ev.step (fun k => ?_) hx
    simp only [privityref53_piece.l0]
    rw [if_pos c1, if_pos c2, if_neg hn, wrap_nat hlt m1]
theorem run_go : ∀ (b a : List UInt8), (a ++ b).length ≤ 1000000 → Ev (fun k => privityref53_piece.l1 k (mkB (a ++ b)) (a.length : Int)) (mkB (a ++ (run b).1), true, mkB (run b).2, decide (((a ++ (run b).1).length : Int) > 0)) := by
  intro b
  induction b with
  | nil =>
    intro a hl
    rw [List.append_nil] at *
    have hs := mkB_size a
    have c1 : ¬ (a.length : Int) < ((mkB a).size : Int) := by omega
    have c2 : 0 ≤ (a.length : Int) := by omega
    have c3 : (a.length : Int) ≤ ((mkB a).size : Int) := by omega
    refine Ev.step (f := fun _ => some (mkB a, true, mkB [], decide ((a.length : Int) > 0))) (fun k => ?_) (by simpa [run] using Ev.now (mkB a, true, mkB [], decide ((a.length : Int) > 0)))
    simp only [privityref53_piece.l1]
    rw [if_neg c1, if_pos c2, if_pos c3, Int.toNat_natCast, mkB_size]
    unfold mkB
    rw [ext_eq, ext_eq]
    simp
  | cons c r ih =>
    intro a hl
    have hlt : a.length < (a ++ c :: r).length := by simp
    have hs := mkB_size (a ++ c :: r)
    have c1 : (a.length : Int) < ((mkB (a ++ c :: r)).size : Int) := by omega
    have c2 : 0 ≤ (a.length : Int) := by omega
    have c3 : (a.length : Int) ≤ ((mkB (a ++ c :: r)).size : Int) := by omega
    have m1 : (a ++ c :: r).length ≤ 9223372036854775807 := by omega
    have hb : bt (mkB (a ++ c :: r)) (a.length : Int) = (c.toNat : Int) := by
      unfold mkB
      rw [bt_nat _ _ hlt]; simp
    have hpl : ∀ x : Int, privityref53_plain.f x = some (bareI x) := bare_f
    cases hc : bareB c
    · have hr : run (c :: r) = ([], c :: r) := by rw [run, hc]; rfl
      rw [hr, List.append_nil]
      refine Ev.step (f := fun _ => some (mkB a, true, mkB (c :: r), decide ((a.length : Int) > 0))) (fun k => ?_) (Ev.now _)
      simp only [privityref53_piece.l1]
      rw [if_pos c1, if_pos c2, hb, hpl]
      simp only [Option.bind_some]
      rw [show bareI (c.toNat : Int) = false from hc, if_neg (by simp), if_pos c3, Int.toNat_natCast, mkB_size]
      unfold mkB
      rw [ext_eq, ext_eq]
      have e1 : (a ++ c :: r).drop a.length = c :: r := List.drop_left
      have e2 : (c :: r).take ((a ++ c :: r).length - a.length) = c :: r := List.take_of_length_le (by simp)
      rw [e1, e2]
      simp
    · have hr : run (c :: r) = (c :: (run r).1, (run r).2) := by rw [run, hc]; rfl
      have key := ih (a ++ [c]) (by simpa using hl)
      rw [show a ++ [c] ++ r = a ++ c :: r by simp, show (a ++ [c]).length = a.length + 1 by simp, show a ++ [c] ++ (run r).1 = a ++ (c :: (run r).1) by simp] at key
      rw [hr]
      refine Ev.step (fun k => ?_) key
      simp only [privityref53_piece.l1]
      rw [if_pos c1, if_pos c2, hb, hpl]
      simp only [Option.bind_some]
      rw [show bareI (c.toNat : Int) = true from hc, if_pos rfl, wrap_nat hlt m1]
theorem refPiece (c : UInt8) (r : List UInt8) (hl : (c :: r).length ≤ 1000000) : Ev (fun k => privityref53_piece.f k (mkB (c :: r))) (if c = 34 then quoteR r else bareR (c :: r)) := by
  have hs := mkB_size (c :: r)
  rw [List.length_cons] at hs
  have c1 : 0 < ((mkB (c :: r)).size : Int) := by omega
  by_cases h : c = 34
  · subst h
    rw [if_pos rfl]
    refine Ev.congr (f := fun k => privityref53_piece.l0 k (mkB (34 :: r)) 1) (fun k => ?_) ?_
    · simp only [privityref53_piece.f]
      rw [if_pos c1, bt_zero, if_pos ((n34 34).2 rfl)]
    · unfold quoteR
      rcases cut_or 34 r with h | ⟨a, t, rfl, h⟩
      · rw [cutQ_no r h]
        refine quote_no (34 :: r) hl (fun j hj h1 => ?_) _ 1 rfl (Nat.le_refl _) (by simp)
        obtain ⟨j, rfl⟩ : ∃ j', j = j' + 1 := ⟨j - 1, by omega⟩
        rw [List.getElem_cons_succ]
        exact fun e => h (by rw [← e]; exact List.getElem_mem _)
      · rw [cutQ_app t a h]
        exact quote_yes a t h hl _ 1 rfl (Nat.le_refl _) (by omega)
  · rw [if_neg h]
    refine Ev.congr (f := fun k => privityref53_piece.l1 k (mkB (c :: r)) 0) (fun k => ?_) ?_
    · simp only [privityref53_piece.f]
      rw [if_pos c1, bt_zero, if_neg (fun e => h ((n34 c).1 e))]
    · exact run_go (c :: r) [] hl
theorem run_word : ∀ l : List UInt8, if (wordOf l).1.all bareB = true then run l = wordOf l ∧ restOk (run l).2 = true else restOk (run l).2 = false
  | [] => by simp [wordOf, run, restOk]
  | c :: r => by
    have ih := run_word r
    by_cases h : c = 32
    · subst h
      have : bareB 32 = false := by decide
      rw [wordOf, if_pos rfl, run, this]
      simp [restOk]
    · rw [wordOf, if_neg h, run]
      cases hc : bareB c
      · simp [hc, restOk, h]
      · by_cases hall : (wordOf r).1.all bareB = true
        · rw [if_pos hall] at ih
          rw [if_pos (by simp [hc]; simpa using hall)]
          simp only [if_true]
          exact ⟨by rw [ih.1], ih.2⟩
        · rw [if_neg hall] at ih
          rw [if_neg (by simp [hc]; simpa using hall)]
          simp only [if_true]
          exact ih
end Go.Proofs.YtfgbdcpfbghdoaaGreatDoor.P
end
