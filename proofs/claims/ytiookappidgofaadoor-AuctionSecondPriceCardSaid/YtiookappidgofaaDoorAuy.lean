/- What is proved: in plain Lean: the laws on the winner, on a raised bid of a loser, on the second price and on truthful bids answer true. -/
import Derived.Test.YtiookappidgofaaDoorAux
set_option linter.unusedVariables false
set_option linter.unusedSimpArgs false
namespace Go.Proofs.YtiookappidgofaaDoor.P
open Go.RowKit Go.Proofs.YtiookappidgofaaDoorW.PrintWords Go.Proofs.YtiookappidgofaaDoorW.PrintLast Go.Proofs.YtiookappidgofaaDoorW.PrintMore

theorem g_set (l : List Int) (i : Nat) (x : Int) (hi : i < l.length) (j : Nat) : g (l.set i x) j = if j = i then x else g l j := by
  unfold g
  rw [List.getD_eq_getElem?_getD, List.getD_eq_getElem?_getD, List.getElem?_set]
  by_cases h : i = j
  · subst h; simp [hi]
  · rw [if_neg h, if_neg (fun e => h e.symm)]
theorem set_pos {l : List Int} (h0 : ∀ j, 0 ≤ g l j) {i : Nat} {x : Int} (hx : 0 ≤ x) (hi : i < l.length) (j : Nat) : 0 ≤ g (l.set i x) j := by
  rw [g_set l i x hi]; split
  · exact hx
  · exact h0 j
theorem wrap_pred {w n : Nat} (hw : w < n) (hn : n ≤ 1000) : wrap64 (((w + 1 : Nat) : Int) - 1) = (w : Int) := by unfold wrap64; omega
/-- What Outcome answers at a list whose winner and price are known. -/
theorem out_is (l : List Int) (h0 : ∀ j, 0 ≤ g l j) (hl : l.length ≤ 50) (w : Nat) (p : Int) (h : Out l l.length w p) : Ev (fun k => auction_Outcome.f k l) (((w + 1 : Nat) : Int), p) := by
  have hn := h.lt
  obtain ⟨w', p', h1, h2⟩ := out_ev l h0 (by omega) (by omega)
  obtain ⟨rfl, rfl⟩ := h.uniq h0 h2
  exact h1

/-- The winner bids higher: nothing turns. -/
theorem Out.raise {l : List Int} (h0 : ∀ j, 0 ≤ g l j) {w : Nat} {p x : Int} (hO : Out l l.length w p) (hx : g l w ≤ x) : Out (l.set w x) (l.set w x).length w p := by
  have hw := hO.lt
  rw [List.length_set]
  have gs := g_set l w x hw
  refine ⟨hw, fun j hj => ?_, fun j hj => ?_, fun j hj hn => ?_, hO.pos, ?_⟩
  · rw [gs, gs, if_pos rfl]; split
    · omega
    · have := hO.most j hj; omega
  · rw [gs, gs, if_pos rfl, if_neg (by omega)]; have := hO.first j hj; omega
  · rw [gs, if_neg hn]; exact hO.up j hj hn
  · rcases hO.some with h | ⟨j, a, b, c⟩
    · exact .inl h
    · exact .inr ⟨j, a, b, by rw [gs, if_neg b]; exact c⟩

/-- A loser bids higher, but does not beat the winner: the price alone turns. -/
theorem Out.loser {l : List Int} {w i : Nat} {p x : Int} (hO : Out l l.length w p) (hi : i < l.length) (hne : i ≠ w) (h0 : 0 ≤ x) (h1 : g l i ≤ x) (h2 : x ≤ g l w) (h3 : x = g l w → w < i) :
    Out (l.set i x) (l.set i x).length w (mx p x) := by
  have hw := hO.lt
  rw [List.length_set]
  have gs := g_set l i x hi
  have m1 := le_mx1 p x; have m2 := le_mx2 p x
  refine ⟨hw, fun j hj => ?_, fun j hj => ?_, fun j hj hn => ?_, by have := hO.pos; omega, ?_⟩
  · rw [gs, gs, if_neg (show ¬ w = i from fun e => hne e.symm)]; split
    · exact h2
    · exact hO.most j hj
  · rw [gs, gs, if_neg (show ¬ w = i from fun e => hne e.symm)]; split
    · next e => subst e; by_cases e2 : x = g l w
                · have := h3 e2; omega
                · omega
    · exact hO.first j hj
  · rw [gs]; split
    · exact m2
    · have := hO.up j hj hn; omega
  · rcases mx_or p x with e | e
    · rw [e]
      rcases hO.some with h | ⟨j, a, b, c⟩
      · exact .inl h
      · by_cases hj : j = i
        · subst hj
          refine .inr ⟨j, a, b, ?_⟩
          rw [gs, if_pos rfl]; omega
        · exact .inr ⟨j, a, b, by rw [gs, if_neg hj]; exact c⟩
    · rw [e]; exact .inr ⟨i, hi, hne, by rw [gs, if_pos rfl]⟩

theorem winner_go (l : List Int) (h0 : ∀ j, 0 ≤ g l j) (hl : l.length ≤ 50) (a1 : Int) (w : Nat) (p : Int) (hO : Out l l.length w p) (d : Nat) : ∀ n : Nat, l.length - n = d → n ≤ l.length →
    Ev (fun k => privitylaw49_AuctionWinner.l0 k l a1 ((w + 1 : Nat) : Int) p (n : Int)) true := by
  have hw := hO.lt
  induction d with
  | zero =>
    intro n hd hn
    refine Ev.step (f := fun k => (auction_Outcome.f k (l.set w (mx (g l w) a1))).bind fun bt139 => ((privitylaw49_awake.f k).bind fun t141 => (if t141 = true then (if bt139.1 = ((w + 1 : Nat) : Int) then (some (bt139.2 == p)) else (some false)) else (some false)))) (fun k => by
      simp only [privitylaw49_AuctionWinner.l0]
      rw [if_neg (by omega)]
      simp only [Option.bind_some, List.nil_append]
      rw [if_pos (by simp; omega), wrap_pred hw (by omega), if_pos (by omega), if_pos (by omega), rd_g]
      rfl) ?_
    have hx := le_mx1 (g l w) a1
    refine Ev.bind (out_is _ (set_pos h0 (by have := h0 w; omega) hw) (by rw [List.length_set]; omega) w p (hO.raise h0 hx)) (Ev.bind awake_ev ?_)
    simp; exact Ev.now _
  | succ d ih =>
    intro n hd hn
    have hlt : n < l.length := by omega
    refine Ev.step (fun k => ?_) (ih (n + 1) (by omega) (by omega))
    have hm := hO.most n hlt
    simp only [privitylaw49_AuctionWinner.l0]
    rw [if_pos (by omega), if_pos (by omega), wrap_pred hw (by omega), if_pos (by omega), if_pos (by omega), rd_g, rd_g, if_neg (by omega), wrap_nat hlt (by omega)]
    split
    · next e =>
      rw [if_neg]
      intro hc
      have := hO.first n (by omega)
      omega
    · rfl

theorem winnerLaw (l : List Int) (a1 : Int) (hwf : ∀ x ∈ l, (Lit.int .u64 x).wf = true) : Ev (fun k => privitylaw49_AuctionWinner.f k l a1) true := by
  have hp := g_pos hwf
  have far : Ev (fun k => privitylaw49_AuctionWinner.j0 k l a1 true) true := Ev.step (fun k => by simp only [privitylaw49_AuctionWinner.j0]; rw [if_pos trivial]) (Ev.bind awake_ev (Ev.now _))
  unfold privitylaw49_AuctionWinner.f
  by_cases h : (l.length : Int) > 50
  · exact Ev.congr (fun k => by rw [if_pos h]) far
  · refine Ev.congr (fun k => by rw [if_neg h]) ?_
    by_cases hn : l.length = 0
    · exact Ev.congr (fun k => by rw [show ((l.length : Int) == 0) = true from by simp [hn]]) far
    · obtain ⟨w, p, h1, h2⟩ := out_ev l hp (by omega) hn
      have hw := h2.lt
      refine Ev.congr (fun k => by rw [show ((l.length : Int) == 0) = false from beq_eq_false_iff_ne.2 (by omega)]) ?_
      refine Ev.step (fun k => by simp only [privitylaw49_AuctionWinner.j0]; rw [if_neg (by decide)]) (Ev.bind h1 ?_)
      refine Ev.congr (fun k => by
        simp only
        rw [if_neg (by omega), if_neg (by omega), wrap_pred hw (by omega), if_pos (by omega), if_pos (by omega), rd_g]) ?_
      have hpw : p ≤ g l w := by
        rcases h2.some with h | ⟨j, a, b, c⟩
        · rw [h]; exact hp w
        · rw [← c]; exact h2.most j a
      refine Ev.step (fun k => by simp only [privitylaw49_AuctionWinner.j1]; rw [if_neg (by simp; omega)]) ?_
      exact winner_go l hp (by omega) a1 w p h2 l.length 0 (by omega) (by omega)

theorem tmod_nat (a : Int) (n : Nat) (ha : 0 ≤ a) (ha2 : a ≤ 255) (hn : n ≠ 0) : ∃ i : Nat, i < n ∧ Int.tmod (wrap64 a) (n : Int) = (i : Int) := by
  have : wrap64 a = a := by unfold wrap64; omega
  rw [this, Int.tmod_eq_emod_of_nonneg ha]
  exact ⟨(a % n).toNat, by have := Int.emod_lt_of_pos a (show (0 : Int) < n by omega); omega, by have := Int.emod_nonneg a (show (n : Int) ≠ 0 by omega); omega⟩
theorem wf_u8 {x : Int} (h : (Lit.int .u8 x).wf = true) : 0 ≤ x ∧ x ≤ 255 := by
  simp only [Lit.wf, IntKind.min, IntKind.max, IntKind.signed, IntKind.bits, Bool.and_eq_true, decide_eq_true_eq] at h; simp at h; omega

theorem loserLaw (l : List Int) (a1 a2 : Int) (hwf : ∀ x ∈ l, (Lit.int .u64 x).wf = true) (hw1 : (Lit.int .u8 a1).wf = true) (hw2 : (Lit.int .u64 a2).wf = true) : Ev (fun k => privitylaw49_AuctionLoserRaises.f k l a1 a2) true := by
  have hp := g_pos hwf
  have far : Ev (fun k => privitylaw49_AuctionLoserRaises.j0 k l a1 a2 true) true := Ev.step (fun k => by simp only [privitylaw49_AuctionLoserRaises.j0]; rw [if_pos trivial]) (Ev.bind awake_ev (Ev.now _))
  unfold privitylaw49_AuctionLoserRaises.f
  by_cases h : (l.length : Int) > 50
  · exact Ev.congr (fun k => by rw [if_pos h]) far
  · refine Ev.congr (fun k => by rw [if_neg h]) ?_
    by_cases hn : l.length < 2
    · exact Ev.congr (fun k => by rw [show decide ((l.length : Int) < 2) = true from by simp; omega]) far
    · obtain ⟨w, p, h1, h2⟩ := out_ev l hp (by omega) (by omega)
      have hw := h2.lt
      obtain ⟨b1, b2⟩ := wf_u8 hw1
      obtain ⟨c1, c2⟩ := wf_u64 hw2
      obtain ⟨i, hi, ei⟩ := tmod_nat a1 l.length b1 b2 (by omega)
      have far2 : Ev (fun k => privitylaw49_AuctionLoserRaises.j2 k l a2 (i : Int) ((w + 1 : Nat) : Int) p true) true := Ev.step (fun k => by simp only [privitylaw49_AuctionLoserRaises.j2]; rw [if_pos trivial]) (Ev.bind awake_ev (Ev.now _))
      have near : i ≠ w → g l i ≤ a2 → a2 ≤ g l w → (a2 = g l w → w < i) → Ev (fun k => privitylaw49_AuctionLoserRaises.j2 k l a2 (i : Int) ((w + 1 : Nat) : Int) p false) true := by
        intro k1 k2 k3 k4
        refine Ev.step (f := fun k => (auction_Outcome.f k (l.set i a2)).bind fun bt183 => ((privitylaw49_awake.f k).bind fun t185 => (if t185 = true then (if bt183.1 = ((w + 1 : Nat) : Int) then (some (bt183.2 == (mx p a2))) else (some false)) else (some false)))) (fun k => by
          simp only [privitylaw49_AuctionLoserRaises.j2]
          rw [if_neg (by decide)]
          simp only [Option.bind_some, List.nil_append]
          rw [if_pos (by simp; omega), if_pos (by omega), if_pos (by omega)]
          rfl) ?_
        refine Ev.bind (out_is _ (set_pos hp c1 hi) (by rw [List.length_set]; omega) w _ (h2.loser hi k1 c1 k2 k3 k4)) (Ev.bind awake_ev ?_)
        simp; exact Ev.now _
      refine Ev.congr (fun k => by rw [show decide ((l.length : Int) < 2) = false from by simp; omega]) ?_
      refine Ev.step (fun k => by simp only [privitylaw49_AuctionLoserRaises.j0]; rw [if_neg (by decide), if_neg (by omega), ei]) (Ev.bind h1 ?_)
      refine Ev.congr (fun k => by
        simp only
        rw [if_neg (by omega), show decide (((w + 1 : Nat) : Int) > (l.length : Int)) = false from by simp; omega]) ?_
      by_cases q1 : i = w
      · subst q1
        exact Ev.step (fun k => by simp only [privitylaw49_AuctionLoserRaises.j1]; rw [if_neg (by decide), wrap_pred hw (by omega), if_pos rfl]) far2
      · by_cases q2 : a2 < g l i
        · exact Ev.step (fun k => by simp only [privitylaw49_AuctionLoserRaises.j1]; rw [if_neg (by decide), wrap_pred hw (by omega), if_neg (by omega), if_pos (by omega), if_pos (by omega), rd_g, if_pos q2]) far2
        · by_cases q3 : a2 > g l w
          · exact Ev.step (fun k => by simp only [privitylaw49_AuctionLoserRaises.j1]; rw [if_neg (by decide), wrap_pred hw (by omega), if_neg (by omega), if_pos (by omega), if_pos (by omega), rd_g, if_neg q2, if_pos (by omega), if_pos (by omega), rd_g, if_pos q3]) far2
          · by_cases q4 : a2 = g l w
            · by_cases q5 : i < w
              · exact Ev.step (fun k => by simp only [privitylaw49_AuctionLoserRaises.j1]; rw [if_neg (by decide), wrap_pred hw (by omega), if_neg (by omega), if_pos (by omega), if_pos (by omega), rd_g, if_neg q2, if_pos (by omega), if_pos (by omega), rd_g, if_neg q3, if_pos q4, show decide ((i : Int) < (w : Int)) = true from by simp; omega]) far2
              · exact Ev.step (fun k => by simp only [privitylaw49_AuctionLoserRaises.j1]; rw [if_neg (by decide), wrap_pred hw (by omega), if_neg (by omega), if_pos (by omega), if_pos (by omega), rd_g, if_neg q2, if_pos (by omega), if_pos (by omega), rd_g, if_neg q3, if_pos q4, show decide ((i : Int) < (w : Int)) = false from by simp; omega]) (near q1 (by omega) (by omega) (fun _ => by omega))
            · exact Ev.step (fun k => by simp only [privitylaw49_AuctionLoserRaises.j1]; rw [if_neg (by decide), wrap_pred hw (by omega), if_neg (by omega), if_pos (by omega), if_pos (by omega), rd_g, if_neg q2, if_pos (by omega), if_pos (by omega), rd_g, if_neg q3, if_neg q4]) (near q1 (by omega) (by omega) (fun e => absurd e q4))

end Go.Proofs.YtiookappidgofaaDoor.P
