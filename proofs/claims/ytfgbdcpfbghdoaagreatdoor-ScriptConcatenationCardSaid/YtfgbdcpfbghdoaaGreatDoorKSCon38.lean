/- What is proved here: a part of the proof of ScriptConcatenation: Sla, Srl. No conditions beside those that each theorem states. -/
import Derived.Test.YtfgbdcpfbghdoaaGreatDoorKSCon36
import Derived.Test.YtfgbdcpfbghdoaaGreatDoorKSCon35
section
set_option linter.unusedVariables false
set_option linter.unusedSimpArgs false
namespace Go.Proofs.YtfgbdcpfbghdoaaGreatDoor.P
open Go.RowKit Go.Proofs.YtfgbdcpfbghdoaaGreatDoorW.PrintWords Go.Proofs.YtfgbdcpfbghdoaaGreatDoorW.PrintLast Go.Proofs.YtfgbdcpfbghdoaaGreatDoorW.PrintMore
def sumT : List (Bool × List UInt8) → Nat
  | [] => 0
  | t :: r => t.2.length + 1 + sumT r
theorem toks_sum : ∀ (n : Nat) (s : List UInt8) (ts : List (Bool × List UInt8)), toks n s = some ts → sumT ts ≤ 2 * s.length := by
  intro n
  induction n with
  | zero => intro s ts h; simp [toks] at h
  | succ n ih =>
    intro s ts h
    have hd := dsp_le s
    rw [toks] at h
    cases hs : dsp s with
    | nil => rw [hs] at h; simp at h; subst h; simp [sumT]
    | cons c r =>
      rw [hs] at h hd
      simp only [List.length_cons] at hd
      dsimp only at h
      by_cases h34 : c = 34
      · rw [if_pos h34] at h
        cases hq : cutQ r with
        | none => rw [hq] at h; cases h
        | some p =>
          obtain ⟨hit, _⟩ := cutQ_some hq
          have hit' := congrArg List.length hit
          simp only [List.length_append, List.length_cons] at hit'
          rw [hq] at h; dsimp only at h
          cases ho : openL p.1 with
          | none => rw [ho] at h; cases h
          | some w =>
            have hw := openL_len _ _ ho
            rw [ho] at h; dsimp only at h
            split at h
            · obtain ⟨ts', ht, rfl⟩ := Option.map_eq_some_iff.1 h
              have h1 := ih _ _ ht
              simp only [sumT]
              omega
            · cases h
      · rw [if_neg h34] at h
        split at h
        · have hw := congrArg List.length (wordOf_app (c :: r))
          simp only [List.length_append, List.length_cons] at hw
          have h32 : c ≠ 32 := fun e => dsp_head s r (by rw [hs, e])
          have hw1 : 1 ≤ (wordOf (c :: r)).1.length := by rw [wordOf, if_neg h32]; simp
          obtain ⟨ts', ht, rfl⟩ := Option.map_eq_some_iff.1 h
          have h1 := ih _ _ ht
          simp only [sumT]
          omega
        · cases h
theorem words_sum : ∀ ts : List (Bool × List UInt8), ((ts.map (fun t => mkB t.2)).flatMap wordL).length ≤ 3 * sumT ts
  | [] => by simp [sumT]
  | t :: r => by
    have ih := words_sum r
    have hp := pieceL_le (mkB t.2)
    rw [mkB_size] at hp
    rw [List.map_cons, List.flatMap_cons, List.length_append, wordL]
    simp only [List.length_cons, sumT]
    omega
theorem lineP_size {l : List UInt8} {x : S36} (h : lineP l = .cmd x) : (lineC x).length ≤ 6 * (l.length + 1) := by
  unfold lineP at h
  split at h
  · cases h
  · split at h
    · cases h
    · cases h
    · next t ts ht =>
      have hs := toks_sum _ _ _ ht
      simp only [sumT] at hs
      have hw := words_sum ts
      split at h
      · cases h
        have h0 : (cmdOf t ts).f0.data.toList.length = t.2.length := by show (mkB t.2).data.toList.length = _; rw [mkB_list]
        have h1 : (cmdOf t ts).f1 = ts.map (fun t => mkB t.2) := rfl
        unfold lineC
        rw [h1]
        simp only [List.length_append, List.length_cons, List.length_nil]
        omega
      · cases h
def cost : List (List UInt8) → Nat
  | [] => 0
  | s :: r => s.length + 1 + cost r
theorem cost_spl (c : UInt8) : ∀ s : List UInt8, cost (spl c false s) = s.length + 1
  | [] => rfl
  | b :: r => by
    have ih := cost_spl c r
    unfold spl
    split
    · simp only [cost, List.length_cons, Bool.false_eq_true, if_false, List.length_nil]; omega
    · cases hs : spl c false r with
      | nil => exact absurd hs (spl_ne c false r)
      | cons p q => rw [hs] at ih; simp only [cost, List.length_cons] at *; omega
theorem formatL_cons (x : S36) (l : List S36) : (formatL (x :: l)).length = (lineC x).length + (formatL l).length := by
  rw [show formatL (x :: l) = lineC x ++ formatL l by simp [formatL], List.length_append]
theorem parseL_size : ∀ (L : List (List UInt8)) (l : List S36), (∀ n acc, parseL L n acc = (acc ++ l, 0, 0)) → l.length ≤ cost L ∧ (formatL l).length ≤ 6 * cost L
  | [], l, h => by
    have := h 0 []
    rw [parseL] at this
    have : l = [] := by simpa using (congrArg Prod.fst this).symm
    subst this
    simp [formatL]
  | s :: r, l, h => by
    cases hl : lineP s with
    | skip =>
      have h2 : ∀ n acc, parseL r n acc = (acc ++ l, 0, 0) := by
        intro n acc
        rcases parseL_acc r with ⟨l', _, h'⟩ | ⟨m, h'⟩
        · have e := h 0 acc
          rw [parseL, hl] at e
          dsimp only at e
          rw [h' 1 acc] at e
          rw [h' n acc]
          exact e
        · have e := h 0 acc
          rw [parseL, hl] at e
          dsimp only at e
          rw [h' 1 acc] at e
          exact absurd (congrArg (fun x => x.2.2) e) (by simp)
      obtain ⟨q1, q2⟩ := parseL_size r l h2
      simp only [cost]
      omega
    | cmd x =>
      have hx := lineP_size hl
      rcases parseL_acc r with ⟨l', _, h'⟩ | ⟨m, h'⟩
      · have e := h 0 []
        rw [parseL, hl] at e
        dsimp only at e
        rw [h' 1 _] at e
        obtain rfl : l = x :: l' := by
          have := congrArg Prod.fst e
          simpa using this.symm
        obtain ⟨q1, q2⟩ := parseL_size r l' h'
        rw [formatL_cons]
        simp only [cost, List.length_cons]
        omega
      · have e := h 0 []
        rw [parseL, hl] at e
        dsimp only at e
        rw [h' 1 _] at e
        exact absurd (congrArg (fun x => x.2.2) e) (by simp)
    | bad =>
      have e := h 0 []
      rw [parseL, hl] at e
      exact absurd (congrArg (fun x => x.2.2) e) (by simp)
theorem parse_out (s : List UInt8) : (∃ l : List S36, l.all mayC = true ∧ l.length ≤ s.length + 1 ∧ (formatL l).length ≤ 6 * (s.length + 1) ∧ parseT s = (l, 0, 0) ∧ ∀ n acc, parseL (spl 10 false s) n acc = (acc ++ l, 0, 0)) ∨ (∃ m : Nat, parseT s = ([], (m : Int), 3) ∧ ∀ n acc, parseL (spl 10 false s) n acc = ([], ((n + m : Nat) : Int), 3)) := by
  rcases parseL_acc (spl 10 false s) with ⟨l, hm, h⟩ | ⟨m, h⟩
  · obtain ⟨h1, h2⟩ := parseL_size _ _ h
    rw [cost_spl] at h1 h2
    exact .inl ⟨l, hm, h1, h2, h 0 [], h⟩
  · exact .inr ⟨m, by have := h 0 []; rw [Nat.zero_add] at this; exact this, h⟩
theorem joint_lines (s note t : List UInt8) (hn : (10 : UInt8) ∉ note) : spl 10 false (s ++ [10, 32, 32, 35] ++ note ++ [10, 10] ++ t) = spl 10 false s ++ ((32 :: 32 :: 35 :: note) :: [] :: spl 10 false t) := by
  rw [show s ++ [10, 32, 32, 35] ++ note ++ [10, 10] ++ t = s ++ 10 :: ((32 :: 32 :: 35 :: note) ++ 10 :: ([] ++ 10 :: t)) by simp, spl_append, spl_app 10 _ (32 :: 32 :: 35 :: note), spl_app 10 _ []]
  · simp
  · simp only [List.mem_cons, not_or]
    exact ⟨by decide, by decide, by decide, hn⟩
theorem skip_note (note : List UInt8) : lineP (32 :: 32 :: 35 :: note) = .skip := by
  unfold lineP
  rw [if_pos (by simp [isNote, dsp, List.isPrefixOf])]
theorem skip_nil : lineP [] = .skip := rfl
theorem joint_ok (s note t : List UInt8) (hn : (10 : UInt8) ∉ note) (l : List S36) (h : ∀ n acc, parseL (spl 10 false s) n acc = (acc ++ l, 0, 0)) : parseT (s ++ [10, 32, 32, 35] ++ note ++ [10, 10] ++ t) = parseL (spl 10 false t) ((spl 10 false s).length + 2) l := by
  unfold parseT
  rw [joint_lines s note t hn, parseL_append _ _ 0 [] l h, parseL, skip_note]
  dsimp only
  rw [parseL, skip_nil]
  dsimp only
  rw [Nat.zero_add]
  rfl
theorem joint_bad (s note t : List UInt8) (hn : (10 : UInt8) ∉ note) (m : Nat) (h : ∀ n acc, parseL (spl 10 false s) n acc = ([], ((n + m : Nat) : Int), 3)) : parseT (s ++ [10, 32, 32, 35] ++ note ++ [10, 10] ++ t) = ([], (m : Int), 3) := by
  unfold parseT
  rw [joint_lines s note t hn, parseL_append_bad _ _ 0 [] m h, Nat.zero_add]
end Go.Proofs.YtfgbdcpfbghdoaaGreatDoor.P
end
section
set_option linter.unusedVariables false
set_option linter.unusedSimpArgs false
namespace Go.Proofs.YtfgbdcpfbghdoaaGreatDoor.P
open Go.RowKit Go.Proofs.YtfgbdcpfbghdoaaGreatDoorW.PrintWords Go.Proofs.YtfgbdcpfbghdoaaGreatDoorW.PrintLast Go.Proofs.YtfgbdcpfbghdoaaGreatDoorW.PrintMore
def run : List UInt8 → List UInt8 × List UInt8
  | [] => ([], [])
  | c :: r => if bareB c then (c :: (run r).1, (run r).2) else ([], c :: r)
end Go.Proofs.YtfgbdcpfbghdoaaGreatDoor.P
end
