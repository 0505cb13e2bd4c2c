/- What is proved: in plain Lean: the five laws on auctions answer true. -/
import Derived.Test.YtiookappidgofaaDoorAuw
import Derived.Test.YtiookappidgofaaDoorPx4
import Derived.Test.YtiookappidgofaaDoorPx5
import Derived.Test.YtiookappidgofaaDoorPx7
import Derived.Test.YtiookappidgofaaDoorPx8
import Derived.Test.YtiookappidgofaaDoorPx9
set_option linter.unusedVariables false
set_option linter.unusedSimpArgs false
namespace Go.Proofs.YtiookappidgofaaDoor.P
open Go.RowKit Go.Proofs.YtiookappidgofaaDoorW.PrintWords Go.Proofs.YtiookappidgofaaDoorW.PrintLast Go.Proofs.YtiookappidgofaaDoorW.PrintMore

theorem wf_u64 {x : Int} (h : (Lit.int .u64 x).wf = true) : 0 ≤ x ∧ x ≤ 18446744073709551615 := by
  simp only [Lit.wf, IntKind.min, IntKind.max, IntKind.signed, IntKind.bits, Bool.and_eq_true, decide_eq_true_eq] at h; simp at h; omega
theorem g_pos {l : List Int} (h : ∀ x ∈ l, (Lit.int .u64 x).wf = true) (j : Nat) : 0 ≤ g l j := by
  unfold g
  rw [List.getD_eq_getElem?_getD]
  by_cases hj : j < l.length
  · rw [List.getElem?_eq_getElem hj, Option.getD_some]; exact (wf_u64 (h _ (List.getElem_mem hj))).1
  · rw [List.getElem?_eq_none (by omega)]; simp

/-- The reference's first loop. -/
theorem ref_go (l : List Int) (hl : l.length ≤ 9223372036854775807) (r : Int × Int) (d : Nat) : ∀ (n w : Nat), l.length - n = d → n ≤ l.length → w < l.length → (n = 0 → w = 0) → (∀ j, j < n → g l j ≤ g l w) → (∀ j, j < w → g l j < g l w) →
    (∀ w, w < l.length → (∀ j, j < l.length → g l j ≤ g l w) → (∀ j, j < w → g l j < g l w) → Ev (fun k => privityref49_Outcome.l1 k l (w : Int) 0 0) r) → Ev (fun k => privityref49_Outcome.l0 k l (w : Int) (n : Int)) r := by
  induction d with
  | zero =>
    intro n w hd hn hw hz hm hf hK
    obtain rfl : n = l.length := by omega
    exact Ev.step (fun k => by simp only [privityref49_Outcome.l0]; rw [if_neg (by omega)]) (hK w hw hm hf)
  | succ d ih =>
    intro n w hd hn hw hz hm hf hK
    have hlt : n < l.length := by omega
    by_cases hc : g l n > g l w
    · refine Ev.step (fun k => by simp only [privityref49_Outcome.l0]; rw [if_pos (by omega), if_pos (by omega), if_pos (by omega), if_pos (by omega), rd_g, rd_g, if_pos hc, wrap_nat hlt hl]) (ih (n + 1) n (by omega) (by omega) hlt (by omega) ?_ ?_ hK)
      · intro j hj
        rcases Nat.lt_succ_iff_lt_or_eq.1 hj with h1 | rfl
        · have := hm j h1; omega
        · omega
      · intro j hj; have := hm j hj; omega
    · refine Ev.step (fun k => by simp only [privityref49_Outcome.l0]; rw [if_pos (by omega), if_pos (by omega), if_pos (by omega), if_pos (by omega), rd_g, rd_g, if_neg hc, wrap_nat hlt hl]) (ih (n + 1) w (by omega) (by omega) hw (by omega) ?_ hf hK)
      intro j hj
      rcases Nat.lt_succ_iff_lt_or_eq.1 hj with h1 | rfl
      · exact hm j h1
      · omega

/-- p is 0 or another's bid. -/
def Has (l : List Int) (n w : Nat) (p : Int) : Prop := p = 0 ∨ ∃ j, j < n ∧ j ≠ w ∧ g l j = p

/-- Its second loop. -/
theorem ref_go2 (l : List Int) (h0 : ∀ j, 0 ≤ g l j) (hl : l.length ≤ 9223372036854775806) (w : Nat) (hw : w < l.length) (hm : ∀ j, j < l.length → g l j ≤ g l w) (hf : ∀ j, j < w → g l j < g l w) (d : Nat) :
    ∀ (n : Nat) (p : Int), l.length - n = d → n ≤ l.length → (∀ j, j < n → j ≠ w → g l j ≤ p) → 0 ≤ p → Has l n w p →
    ∃ p', Ev (fun k => privityref49_Outcome.l1 k l (w : Int) p (n : Int)) (((w + 1 : Nat) : Int), p') ∧ Out l l.length w p' := by
  induction d with
  | zero =>
    intro n p hd hn hu hp hs
    obtain rfl : n = l.length := by omega
    exact ⟨p, Ev.step (f := fun _ => some (((w + 1 : Nat) : Int), p)) (fun k => by simp only [privityref49_Outcome.l1]; rw [if_neg (by omega), wrap_nat hw (by omega)]) (Ev.now _), ⟨hw, hm, hf, hu, hp, hs⟩⟩
  | succ d ih =>
    intro n p hd hn hu hp hs
    have hlt : n < l.length := by omega
    by_cases hc : n = w
    · obtain ⟨p', h1, h2⟩ := ih (n + 1) p (by omega) (by omega) (fun j hj hne => hu j (by omega) hne) hp (by
        rcases hs with h | ⟨j, a, b, c⟩
        · exact .inl h
        · exact .inr ⟨j, by omega, b, c⟩)
      exact ⟨p', Ev.step (fun k => by simp only [privityref49_Outcome.l1]; rw [if_pos (by omega), if_pos (by omega), wrap_nat hlt (by omega)]) h1, h2⟩
    · by_cases hg : g l n > p
      · obtain ⟨p', h1, h2⟩ := ih (n + 1) (g l n) (by omega) (by omega) (fun j hj hne => by
          rcases Nat.lt_succ_iff_lt_or_eq.1 hj with h1 | rfl
          · have := hu j h1 hne; omega
          · omega) (h0 n) (.inr ⟨n, by omega, hc, rfl⟩)
        exact ⟨p', Ev.step (fun k => by simp only [privityref49_Outcome.l1]; rw [if_pos (by omega), if_neg (by omega), if_pos (by omega), rd_g, if_pos hg, wrap_nat hlt (by omega)]) h1, h2⟩
      · obtain ⟨p', h1, h2⟩ := ih (n + 1) p (by omega) (by omega) (fun j hj hne => by
          rcases Nat.lt_succ_iff_lt_or_eq.1 hj with h1 | rfl
          · exact hu j h1 hne
          · omega) hp (by
        rcases hs with h | ⟨j, a, b, c⟩
        · exact .inl h
        · exact .inr ⟨j, by omega, b, c⟩)
        exact ⟨p', Ev.step (fun k => by simp only [privityref49_Outcome.l1]; rw [if_pos (by omega), if_neg (by omega), if_pos (by omega), rd_g, if_neg hg, wrap_nat hlt (by omega)]) h1, h2⟩

/-- Whatever w and p the winner and the price are, the reference answers so. -/
theorem ref_ev (l : List Int) (h0 : ∀ j, 0 ≤ g l j) (hl : l.length ≤ 9223372036854775806) (hn : l.length ≠ 0) (w : Nat) (p : Int) (hO : Out l l.length w p) :
    Ev (fun k => privityref49_Outcome.f k l) (((w + 1 : Nat) : Int), p) := by
  refine Ev.congr (fun k => by unfold privityref49_Outcome.f; rw [if_neg (by omega)]) ?_
  refine ref_go l (by omega) _ l.length 0 0 (by omega) (by omega) (by omega) (fun _ => rfl) (fun j hj => by omega) (fun j hj => by omega) (fun w' hw hm hf => ?_)
  obtain ⟨p', h1, h2⟩ := ref_go2 l h0 hl w' hw hm hf l.length 0 0 (by omega) (by omega) (fun j hj => by omega) (by omega) (.inl rfl)
  obtain ⟨rfl, rfl⟩ := hO.uniq h0 h2
  exact h1

theorem small_of {l : List Int} (h : ¬ (l.length : Int) > 50) : l.length ≤ 50 := by omega

theorem outcomeLaw (l : List Int) (hwf : ∀ x ∈ l, (Lit.int .u64 x).wf = true) : Ev (fun k => privitylaw49_AuctionOutcome.f k l) true := by
  unfold privitylaw49_AuctionOutcome.f
  by_cases h : (l.length : Int) > 50
  · refine Ev.congr (fun k => by rw [if_pos h]) ?_
    exact Ev.bind awake_ev (Ev.now _)
  · refine Ev.congr (fun k => by rw [if_neg h]) ?_
    have hp := g_pos hwf
    by_cases hn : l.length = 0
    · obtain rfl := List.length_eq_zero_iff.1 hn
      refine Ev.bind out_nil (Ev.bind (a := ((0 : Int), (0 : Int))) ?_ (Ev.bind awake_ev ?_))
      · exact Ev.congr (f := fun _ => some (0, 0)) (fun k => by simp [privityref49_Outcome.f]) (Ev.now _)
      · simp; exact Ev.now _
    · obtain ⟨w, p, h1, h2⟩ := out_ev l hp (by omega) hn
      refine Ev.bind h1 (Ev.bind (ref_ev l hp (by omega) hn w p h2) (Ev.bind awake_ev ?_))
      simp; exact Ev.now _

end Go.Proofs.YtiookappidgofaaDoor.P
