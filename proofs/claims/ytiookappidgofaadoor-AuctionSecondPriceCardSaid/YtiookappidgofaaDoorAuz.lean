/- What is proved: in plain Lean: the laws on the second price and on truthful bids answer true. -/
import Derived.Test.YtiookappidgofaaDoorAuy
set_option linter.unusedVariables false
set_option linter.unusedSimpArgs false
namespace Go.Proofs.YtiookappidgofaaDoor.P
open Go.RowKit Go.Proofs.YtiookappidgofaaDoorW.PrintWords Go.Proofs.YtiookappidgofaaDoorW.PrintLast Go.Proofs.YtiookappidgofaaDoorW.PrintMore

/-- The winner's own bid doesn't turn the price. -/
theorem Out.same {l : List Int} (h0 : ∀ j, 0 ≤ g l j) {i : Nat} {p p' x : Int} (hx : 0 ≤ x) (a : Out l l.length i p) (b : Out (l.set i x) l.length i p') : p = p' := by
  have hi := a.lt
  have gs := g_set l i x hi
  have k1 : p ≤ p' := by
    rcases a.some with h | ⟨j, hj, hn, h⟩
    · rw [h]; exact b.pos
    · rw [← h]; have := b.up j hj hn; rwa [gs, if_neg hn] at this
  have k2 : p' ≤ p := by
    rcases b.some with h | ⟨j, hj, hn, h⟩
    · rw [h]; exact a.pos
    · rw [← h, gs, if_neg hn]; exact a.up j hj hn
  omega

theorem payoff_win (l : List Int) (h0 : ∀ j, 0 ≤ g l j) (hl : l.length ≤ 50) (w : Nat) (p v : Int) (h : Out l l.length w p) : Ev (fun k => privitylaw49_payoff.f k l ((w + 1 : Nat) : Int) v) (v, p) := by
  unfold privitylaw49_payoff.f
  refine Ev.bind (out_is l h0 hl w p h) ?_
  simp; exact Ev.now _
theorem payoff_lose (l : List Int) (h0 : ∀ j, 0 ≤ g l j) (hl : l.length ≤ 50) (w i : Nat) (p v : Int) (h : Out l l.length w p) (hi : i ≠ w) : Ev (fun k => privitylaw49_payoff.f k l ((i + 1 : Nat) : Int) v) (0, 0) := by
  unfold privitylaw49_payoff.f
  refine Ev.bind (out_is l h0 hl w p h) ?_
  refine Ev.congr (fun k => by rw [if_neg (by simp only; omega)]) (Ev.now _)

theorem truthfulLaw (l : List Int) (a1 a2 : Int) (hwf : ∀ x ∈ l, (Lit.int .u64 x).wf = true) (hw1 : (Lit.int .u8 a1).wf = true) (hw2 : (Lit.int .u64 a2).wf = true) : Ev (fun k => privitylaw49_AuctionTruthful.f k l a1 a2) true := by
  have hp := g_pos hwf
  have far : Ev (fun k => privitylaw49_AuctionTruthful.j0 k l a1 a2 true) true := Ev.step (fun k => by simp only [privitylaw49_AuctionTruthful.j0]; rw [if_pos trivial]) (Ev.bind awake_ev (Ev.now _))
  unfold privitylaw49_AuctionTruthful.f
  by_cases h : (l.length : Int) > 50
  · exact Ev.congr (fun k => by rw [if_pos h]) far
  · refine Ev.congr (fun k => by rw [if_neg h]) ?_
    by_cases hn : l.length = 0
    · exact Ev.congr (fun k => by rw [show ((l.length : Int) == 0) = true from by simp [hn]]) far
    · refine Ev.congr (fun k => by rw [show ((l.length : Int) == 0) = false from beq_eq_false_iff_ne.2 (by omega)]) ?_
      obtain ⟨b1, b2⟩ := wf_u8 hw1
      obtain ⟨c1, c2⟩ := wf_u64 hw2
      obtain ⟨i, hi, ei⟩ := tmod_nat a1 l.length b1 b2 hn
      obtain ⟨w, p, h1, h2⟩ := out_ev l hp (by omega) hn
      have hp' := set_pos hp c1 hi
      obtain ⟨w', p', h1', h2'⟩ := out_ev (l.set i a2) hp' (by rw [List.length_set]; omega) (by rw [List.length_set]; omega)
      refine Ev.step (f := fun k => (privitylaw49_payoff.f k l ((i + 1 : Nat) : Int) (g l i)).bind fun bt153 => ((privitylaw49_payoff.f k (l.set i a2) ((i + 1 : Nat) : Int) (g l i)).bind fun bt155 => (if bt153.2 > bt153.1 then (some false) else ((privitylaw49_awake.f k).bind fun t157 => (if t157 = true then (if bt155.2 ≥ bt155.1 then (some true) else (some (decide ((IntKind.u64.wrap (bt153.1 - bt153.2)) ≥ (IntKind.u64.wrap (bt155.1 - bt155.2)))))) else (some false)))))) (fun k => by
        simp only [privitylaw49_AuctionTruthful.j0]
        rw [if_neg (by decide), if_neg (by omega), ei, if_pos (by omega), if_pos (by omega)]
        simp only [Option.bind_some, List.nil_append]
        rw [if_pos (by simp; omega), if_pos (by omega), wrap_nat hi (by omega), rd_g]
        rfl) ?_
      have hpw : p ≤ g l w := by
        rcases h2.some with h | ⟨j, a, b, c⟩
        · rw [h]; exact hp w
        · rw [← c]; exact h2.most j a
      have gs := g_set l i a2 hi
      by_cases q' : i = w'
      · subst q'
        refine Ev.bind (a := if i = w then (g l i, p) else (0, 0)) ?_ (Ev.bind (payoff_win _ hp' (by rw [List.length_set]; omega) i p' (g l i) h2') ?_)
        · split
          · next e => subst e; exact payoff_win l hp (by omega) i p _ h2
          · next e => exact payoff_lose l hp (by omega) w i p _ h2 e
        · by_cases q : i = w
          · subst q
            have e := h2.same hp c1 (by rwa [List.length_set] at h2')
            subst e
            refine Ev.congr (fun k => by rw [if_pos rfl, if_neg (by simp only; omega)]) (Ev.bind awake_ev ?_)
            simp only [if_true]
            split
            · exact Ev.now _
            · rw [decide_eq_true (Int.le_refl _)]; exact Ev.now _
          · refine Ev.congr (fun k => by rw [if_neg q, if_neg (by simp)]) (Ev.bind awake_ev ?_)
            have e1 := h2'.up w (by rw [List.length_set]; exact h2.lt) (fun e => q e.symm)
            rw [gs, if_neg (fun e => q e.symm)] at e1
            have e2 := h2.most i hi
            simp only [if_true]
            rw [if_pos (by simp only [ge_iff_le]; omega)]
            exact Ev.now _
      · refine Ev.bind (a := if i = w then (g l i, p) else (0, 0)) ?_ (Ev.bind (payoff_lose _ hp' (by rw [List.length_set]; omega) w' i p' (g l i) h2' q') ?_)
        · split
          · next e => subst e; exact payoff_win l hp (by omega) i p _ h2
          · next e => exact payoff_lose l hp (by omega) w i p _ h2 e
        · refine Ev.congr (fun k => by
            rw [if_neg (show ¬ (if i = w then (g l i, p) else ((0 : Int), (0 : Int))).2 > (if i = w then (g l i, p) else ((0 : Int), (0 : Int))).1 from by
              split
              · next e => subst e; simp only; omega
              · simp)]) (Ev.bind awake_ev ?_)
          simp only [if_true]
          rw [if_pos (Int.le_refl _)]
          exact Ev.now _

/-- What the loop of the second law has seen of the first n bids. -/
structure Seen (l : List Int) (i n : Nat) (m : Int) (a b : Bool) : Prop where
  up : ∀ j, j < n → j ≠ i → g l j ≤ m
  pos : 0 ≤ m
  has : Has l n i m
  above : a = true → ∀ j, j < n → j ≠ i → g l j < g l i
  below : b = true → ∃ j, j < n ∧ j ≠ i ∧ g l i < g l j

theorem Seen.skip {l : List Int} {i m a b} (h : Seen l i i m a b) : Seen l i (i + 1) m a b := by
  refine ⟨fun j hj hn => h.up j (by omega) hn, h.pos, ?_, fun e j hj hn => h.above e j (by omega) hn, fun e => ?_⟩
  · rcases h.has with e | ⟨j, x, y, z⟩
    · exact .inl e
    · exact .inr ⟨j, by omega, y, z⟩
  · obtain ⟨j, x, y, z⟩ := h.below e; exact ⟨j, by omega, y, z⟩
theorem Seen.next {l : List Int} (h0 : ∀ j, 0 ≤ g l j) {i n m a b} (h : Seen l i n m a b) (hn : n ≠ i) : Seen l i (n + 1) (mx m (g l n)) (a && decide (g l i > g l n)) (b || decide (g l i < g l n)) := by
  have m1 := le_mx1 m (g l n); have m2 := le_mx2 m (g l n); have hp := h.pos
  refine ⟨fun j hj hne => ?_, by omega, ?_, fun e j hj hne => ?_, fun e => ?_⟩
  · rcases Nat.lt_succ_iff_lt_or_eq.1 hj with h1 | rfl
    · have := h.up j h1 hne; omega
    · exact m2
  · rcases mx_or m (g l n) with e | e
    · rw [e]
      rcases h.has with e | ⟨j, x, y, z⟩
      · exact .inl e
      · exact .inr ⟨j, by omega, y, z⟩
    · rw [e]; exact .inr ⟨n, by omega, hn, rfl⟩
  · rw [Bool.and_eq_true, decide_eq_true_eq] at e
    rcases Nat.lt_succ_iff_lt_or_eq.1 hj with h1 | rfl
    · exact h.above e.1 j h1 hne
    · exact e.2
  · rw [Bool.or_eq_true, decide_eq_true_eq] at e
    rcases e with e | e
    · obtain ⟨j, x, y, z⟩ := h.below e; exact ⟨j, by omega, y, z⟩
    · exact ⟨n, by omega, hn, e⟩

theorem second_go (l : List Int) (h0 : ∀ j, 0 ≤ g l j) (hl : l.length ≤ 50) (i : Nat) (hi : i < l.length) (w : Nat) (p : Int) (hO : Out l l.length w p) (d : Nat) : ∀ (n : Nat) (m : Int) (a b : Bool), l.length - n = d → n ≤ l.length → Seen l i n m a b →
    Ev (fun k => privitylaw49_AuctionSecondPrice.l0 k l (i : Int) m a b (n : Int)) true := by
  induction d with
  | zero =>
    intro n m a b hd hn hS
    obtain rfl : n = l.length := by omega
    refine Ev.step (fun k => by simp only [privitylaw49_AuctionSecondPrice.l0]; rw [if_neg (by omega), wrap_nat hi (by omega)]) (Ev.bind (out_is l h0 hl w p hO) (Ev.bind awake_ev ?_))
    simp only [if_true]
    have kb : b = true → w ≠ i := by
      intro e q
      subst q
      obtain ⟨j, x, y, z⟩ := hS.below e
      have := hO.most j x; omega
    have ka : a = true → w = i ∧ p = m := by
      intro e
      have hS' := hS.above e
      exact hO.uniq h0 ⟨hi, fun j hj => by
        by_cases q : j = i
        · subst q; omega
        · have := hS' j hj q; omega, fun j hj => hS' j (by omega) (by omega), hS.up, hS.pos, hS.has⟩
    have nb : b = true → (((w + 1 : Nat) : Int) != ((i + 1 : Nat) : Int)) = true := fun e => by have := kb e; simp; omega
    cases a with
    | true =>
      obtain ⟨rfl, rfl⟩ := ka rfl
      simp only [if_true]
      cases b with
      | true => exact absurd rfl (kb rfl)
      | false => simp only [Bool.false_eq_true, if_false]; exact Ev.now _
    | false =>
      simp only [Bool.false_eq_true, if_false]
      cases b with
      | true => simp only [if_true]; rw [nb rfl]; exact Ev.now _
      | false => simp only [Bool.false_eq_true, if_false]; exact Ev.now _
  | succ d ih =>
    intro n m a b hd hn hS
    have hlt : n < l.length := by omega
    by_cases q : n = i
    · subst q
      exact Ev.step (fun k => by simp only [privitylaw49_AuctionSecondPrice.l0]; rw [if_pos (by omega), if_pos trivial, wrap_nat hlt (by omega)]) (ih (n + 1) m a b (by omega) (by omega) hS.skip)
    · refine Ev.step (fun k => ?_) (ih (n + 1) _ _ _ (by omega) (by omega) (hS.next h0 q))
      simp only [privitylaw49_AuctionSecondPrice.l0]
      rw [if_pos (by omega), if_neg (by omega), if_pos (by omega), wrap_nat hlt (by omega), if_pos (show (0 : Int) ≤ (i : Int) by omega), if_pos (show (i : Int) < (l.length : Int) by omega), rd_g, rd_g]
      cases a <;> cases b <;> simp [hi]

theorem secondLaw (l : List Int) (a1 : Int) (hwf : ∀ x ∈ l, (Lit.int .u64 x).wf = true) (hw1 : (Lit.int .u8 a1).wf = true) : Ev (fun k => privitylaw49_AuctionSecondPrice.f k l a1) true := by
  have hp := g_pos hwf
  have far : Ev (fun k => privitylaw49_AuctionSecondPrice.j0 k l a1 true) true := Ev.step (fun k => by simp only [privitylaw49_AuctionSecondPrice.j0]; rw [if_pos trivial]) (Ev.bind awake_ev (Ev.now _))
  unfold privitylaw49_AuctionSecondPrice.f
  by_cases h : (l.length : Int) > 50
  · exact Ev.congr (fun k => by rw [if_pos h]) far
  · refine Ev.congr (fun k => by rw [if_neg h]) ?_
    by_cases hn : l.length = 0
    · exact Ev.congr (fun k => by rw [show ((l.length : Int) == 0) = true from by simp [hn]]) far
    · refine Ev.congr (fun k => by rw [show ((l.length : Int) == 0) = false from beq_eq_false_iff_ne.2 (by omega)]) ?_
      obtain ⟨b1, b2⟩ := wf_u8 hw1
      obtain ⟨i, hi, ei⟩ := tmod_nat a1 l.length b1 b2 hn
      obtain ⟨w, p, h1, h2⟩ := out_ev l hp (by omega) hn
      refine Ev.step (fun k => by simp only [privitylaw49_AuctionSecondPrice.j0]; rw [if_neg (by decide), if_neg (by omega), ei]) ?_
      exact second_go l hp (by omega) i hi w p h2 l.length 0 0 true false (by omega) (by omega) ⟨fun j hj => by omega, by omega, .inl rfl, fun _ j hj => by omega, fun e => by cases e⟩

end Go.Proofs.YtiookappidgofaaDoor.P
