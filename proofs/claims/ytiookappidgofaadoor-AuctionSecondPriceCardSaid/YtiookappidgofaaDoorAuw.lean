/- What is proved: what auction.Outcome answers, in plain words: the first of the greatest bids, and the greatest of the others; the fixed results that every law checks first hold. -/
import Derived.Test.YtiookappidgofaaDoorPx2
set_option linter.unusedVariables false
set_option linter.unusedSimpArgs false
namespace Go.Proofs.YtiookappidgofaaDoor.P
open Go.RowKit Go.Proofs.YtiookappidgofaaDoorW.PrintWords Go.Proofs.YtiookappidgofaaDoorW.PrintLast Go.Proofs.YtiookappidgofaaDoorW.PrintMore

theorem wrap_nat {i n : Nat} (h : i < n) (hn : n ≤ 9223372036854775807) : wrap64 ((i : Int) + 1) = ((i + 1 : Nat) : Int) := by unfold wrap64; omega
/-- Bid number j. -/
def g (l : List Int) (j : Nat) : Int := l.getD j 0
theorem rd_g (l : List Int) (j : Nat) : rd l (j : Int) = g l j := by simp [rd, g]

/-- Among the first n bids w is the first of the greatest, p the greatest of the others (0 if there is none). -/
structure Out (l : List Int) (n w : Nat) (p : Int) : Prop where
  lt : w < n
  most : ∀ j, j < n → g l j ≤ g l w
  first : ∀ j, j < w → g l j < g l w
  up : ∀ j, j < n → j ≠ w → g l j ≤ p
  pos : 0 ≤ p
  some : p = 0 ∨ ∃ j, j < n ∧ j ≠ w ∧ g l j = p

theorem Out.uniq {l : List Int} {n w w' : Nat} {p p' : Int} (h0 : ∀ j, 0 ≤ g l j) (a : Out l n w p) (b : Out l n w' p') : w = w' ∧ p = p' := by
  have e : w = w' := by
    rcases Nat.lt_trichotomy w w' with h | h | h
    · have h1 := b.first w h; have h2 := a.most w' b.lt; omega
    · exact h
    · have h1 := a.first w' h; have h2 := b.most w a.lt; omega
  subst e
  refine ⟨rfl, ?_⟩
  have k1 : p ≤ p' := by
    rcases a.some with h | ⟨j, hj, hn, h⟩
    · rw [h]; exact b.pos
    · rw [← h]; exact b.up j hj hn
  have k2 : p' ≤ p := by
    rcases b.some with h | ⟨j, hj, hn, h⟩
    · rw [h]; exact a.pos
    · rw [← h]; exact a.up j hj hn
  omega

theorem Out.one (l : List Int) : Out l 1 0 0 := by
  refine ⟨by omega, fun j hj => ?_, fun j hj => by omega, fun j hj hn => by omega, by omega, .inl rfl⟩
  obtain rfl : j = 0 := by omega
  exact Int.le_refl _
theorem Out.above {l : List Int} {n w : Nat} {p : Int} (h0 : ∀ j, 0 ≤ g l j) (a : Out l n w p) (h : g l w < g l n) : Out l (n + 1) n (g l w) := by
  refine ⟨by omega, fun j hj => ?_, fun j hj => ?_, fun j hj hn => ?_, h0 w, .inr ⟨w, by have := a.lt; omega, by have := a.lt; omega, rfl⟩⟩
  · rcases Nat.lt_succ_iff_lt_or_eq.1 hj with h1 | rfl
    · have := a.most j h1; omega
    · omega
  · have := a.most j hj; omega
  · exact a.most j (by omega)
theorem mx_le {a b c : Int} (h1 : a ≤ c) (h2 : b ≤ c) : mx a b ≤ c := by unfold mx; split <;> omega
theorem le_mx1 (a b : Int) : a ≤ mx a b := by unfold mx; split <;> omega
theorem le_mx2 (a b : Int) : b ≤ mx a b := by unfold mx; split <;> omega
theorem mx_or (a b : Int) : mx a b = a ∨ mx a b = b := by unfold mx; split <;> omega
theorem Out.below {l : List Int} {n w : Nat} {p : Int} (h0 : ∀ j, 0 ≤ g l j) (a : Out l n w p) (h : ¬ g l w < g l n) : Out l (n + 1) w (mx p (g l n)) := by
  have hm := le_mx1 p (g l n); have hm2 := le_mx2 p (g l n)
  have hl := a.lt; have hp := a.pos
  refine ⟨by omega, fun j hj => ?_, a.first, fun j hj hn => ?_, by omega, ?_⟩
  · rcases Nat.lt_succ_iff_lt_or_eq.1 hj with h1 | rfl
    · exact a.most j h1
    · omega
  · rcases Nat.lt_succ_iff_lt_or_eq.1 hj with h1 | rfl
    · have := a.up j h1 hn; omega
    · exact hm2
  · rcases mx_or p (g l n) with e | e
    · rw [e]
      rcases a.some with h1 | ⟨j, hj, hn, h1⟩
      · exact .inl h1
      · exact .inr ⟨j, by omega, hn, h1⟩
    · exact .inr ⟨n, by omega, by omega, e.symm⟩

theorem out_go (l : List Int) (h0 : ∀ j, 0 ≤ g l j) (hl : l.length ≤ 9223372036854775807) (d : Nat) : ∀ (n w : Nat) (p : Int), l.length - n = d → n ≤ l.length → Out l n w p →
    ∃ w' p', Ev (fun k => auction_Outcome.l0 k ((w + 1 : Nat) : Int) (g l w) p l (l.length : Int) (n : Int)) (((w' + 1 : Nat) : Int), p') ∧ Out l l.length w' p' := by
  induction d with
  | zero =>
    intro n w p hd hn hO
    obtain rfl : n = l.length := by omega
    exact ⟨w, p, Ev.step (f := fun _ => some (((w + 1 : Nat) : Int), p)) (fun k => by simp only [auction_Outcome.l0]; rw [if_neg (by omega)]) (Ev.now _), hO⟩
  | succ d ih =>
    intro n w p hd hn hO
    have hlt : n < l.length := by omega
    by_cases hc : g l w < g l n
    · obtain ⟨w', p', h1, h2⟩ := ih (n + 1) n (g l w) (by omega) (by omega) (hO.above h0 hc)
      exact ⟨w', p', Ev.step (fun k => by simp only [auction_Outcome.l0]; rw [if_pos (by omega), if_pos (by omega), if_pos (by omega), if_neg (by omega), rd_g, if_pos hc, wrap_nat hlt hl]) h1, h2⟩
    · obtain ⟨w', p', h1, h2⟩ := ih (n + 1) w (mx p (g l n)) (by omega) (by omega) (hO.below h0 hc)
      exact ⟨w', p', Ev.step (fun k => by simp only [auction_Outcome.l0]; rw [if_pos (by omega), if_pos (by omega), if_pos (by omega), if_neg (by omega), rd_g, if_neg hc, wrap_nat hlt hl]) h1, h2⟩

theorem out_ev (l : List Int) (h0 : ∀ j, 0 ≤ g l j) (hl : l.length ≤ 9223372036854775807) (hn : l.length ≠ 0) :
    ∃ w p, Ev (fun k => auction_Outcome.f k l) (((w + 1 : Nat) : Int), p) ∧ Out l l.length w p := by
  obtain ⟨w, p, h1, h2⟩ := out_go l h0 hl (l.length - 1) 1 0 0 (by omega) (by omega) (Out.one l)
  refine ⟨w, p, ?_, h2⟩
  unfold auction_Outcome.f
  exact Ev.step (fun k => by simp only [auction_Outcome.l0]; rw [if_pos (by omega), if_pos (by omega), if_pos (by omega), if_pos trivial, show rd l 0 = g l 0 from rd_g l 0, show wrap64 (0 + 1) = ((1 : Nat) : Int) from by decide +kernel]; rfl) h1
theorem out_nil : Ev (fun k => auction_Outcome.f k []) (0, 0) := Ev.step (f := fun _ => some (0, 0)) (fun k => by simp [auction_Outcome.f, auction_Outcome.l0]) (Ev.now _)

theorem awake_ev : Ev (fun k => privitylaw49_awake.f k) true := by
  have c1 : Ev (fun k => auction_Outcome.f k [3, 7, 7, 5]) (2, 7) := Ev.of (fun k => auction_Outcome.mono _ k) (k := 9) (by decide +kernel)
  have c2 := out_nil
  have c3 : auction_Program.f 4 3 = some (⟨(Auc.progL 4 3).toArray⟩, 0) := by unfold auction_Program.f; rw [gate_eq, if_pos (by decide)]; rfl
  have c4 : auction_Program.f 3 3 = some (⟨#[]⟩, 2) := by unfold auction_Program.f; rw [gate_eq, if_neg (by decide)]
  have c5 : ((⟨(Auc.progL 4 3).toArray⟩ : ByteArray).size : Int) > 0 := by
    show ((Auc.progL 4 3).length : Int) > 0
    simp [Auc.progL, Auc.endL, Auc.lineL]
    omega
  unfold privitylaw49_awake.f
  refine Ev.bind c1 (Ev.bind c2 ?_)
  simp only [c3, c4, Option.bind_some, if_true, if_pos c5]
  exact Ev.now _

theorem privitylaw49_awake.calls (k : Nat) (r : Bool) (w : World) (h : privitylaw49_awake.f k = some r) :
    Calls Tryd.prog 8 #[] w fun e w' => e = .returned (.bool r) ∧ Below w.heap.size w w' := by
  obtain ⟨K, hK⟩ := awake_ev
  have h1 := hK (max K k) (Nat.le_max_left _ _)
  have h2 := at_rounds (g := fun k => privitylaw49_awake.f k) (fun k => privitylaw49_awake.mono k) (Nat.le_max_right K k) h
  exact privitylaw49_awake.callsT k r w (Option.some.inj (h2.symm.trans h1)) h

end Go.Proofs.YtiookappidgofaaDoor.P
