/- What is proved here: a part of the proof of CircuitAppendMul: Cr1, Px19. No conditions beside those that each theorem states. -/
import Derived.Test.YtmnleabeipmhmaaDoorKCAMul43
import Derived.Test.YtmnleabeipmhmaaDoorKCAMul17
import Derived.Test.YtmnleabeipmhmaaDoorKCAMul11
import Derived.Test.YtmnleabeipmhmaaDoorKCAMul18
import Derived.Test.YtmnleabeipmhmaaDoorKCAMul10
import Derived.Test.YtmnleabeipmhmaaDoorKCAMul6
section
set_option linter.unusedVariables false
set_option linter.unusedSimpArgs false
namespace Go.Proofs.YtmnleabeipmhmaaDoor.P
open Go.RowKit Go.Proofs.YtmnleabeipmhmaaDoorW.PrintWords Go.Proofs.YtmnleabeipmhmaaDoorW.PrintLast Go.Proofs.YtmnleabeipmhmaaDoorW.PrintMore
theorem rdG (l : List GT) (i : Nat) (h : i < l.length) : zae l (i : Int) = l[i] := by simp [zae, h]
theorem exp_st (P : Int) (k i : Nat) (q m : Int) (hi : i < 7) (hq : rd [5, 7, 13, 17, 19, 31, 61] (i : Int) = q) (h0 : 0 ≤ IntKind.u64.wrap q) (hm : IntKind.u64.wrap ((shl .u64 1 (IntKind.u64.wrap q)) - 1) = m) :
    za8.l0 (k + 1) P [5, 7, 13, 17, 19, 31, 61] (i : Int) = if P = m then some q else za8.l0 k P [5, 7, 13, 17, 19, 31, 61] ((i + 1 : Nat) : Int) := by
  simp only [za8.l0]
  rw [if_pos (by simp; omega), if_pos (by omega), hq, if_pos h0, hm, wrap_nat (n := 7) hi (by omega)]
theorem refExp (P : Int) : Ev (fun k => za8.f k P) (expF P) := by
  show Ev (fun k => za8.l0 k P [5, 7, 13, 17, 19, 31, 61] ((0 : Nat) : Int)) _
  refine Ev.step (fun k => exp_st P k 0 5 31 (by decide) rfl (by decide) (by decide)) ?_
  by_cases h0 : P = 31
  · rw [show expF P = 5 from by simp [expF, expL, zbw, h0]]
    exact Ev.congr (fun k => if_pos h0) (Ev.now _)
  refine Ev.congr (fun k => if_neg h0) ?_
  refine Ev.step (fun k => exp_st P k 1 7 127 (by decide) rfl (by decide) (by decide)) ?_
  by_cases h1 : P = 127
  · rw [show expF P = 7 from by simp [expF, expL, zbw, h1]]
    exact Ev.congr (fun k => if_pos h1) (Ev.now _)
  refine Ev.congr (fun k => if_neg h1) ?_
  refine Ev.step (fun k => exp_st P k 2 13 8191 (by decide) rfl (by decide) (by decide)) ?_
  by_cases h2 : P = 8191
  · rw [show expF P = 13 from by simp [expF, expL, zbw, h2]]
    exact Ev.congr (fun k => if_pos h2) (Ev.now _)
  refine Ev.congr (fun k => if_neg h2) ?_
  refine Ev.step (fun k => exp_st P k 3 17 131071 (by decide) rfl (by decide) (by decide)) ?_
  by_cases h3 : P = 131071
  · rw [show expF P = 17 from by simp [expF, expL, zbw, h3]]
    exact Ev.congr (fun k => if_pos h3) (Ev.now _)
  refine Ev.congr (fun k => if_neg h3) ?_
  refine Ev.step (fun k => exp_st P k 4 19 524287 (by decide) rfl (by decide) (by decide)) ?_
  by_cases h4 : P = 524287
  · rw [show expF P = 19 from by simp [expF, expL, zbw, h4]]
    exact Ev.congr (fun k => if_pos h4) (Ev.now _)
  refine Ev.congr (fun k => if_neg h4) ?_
  refine Ev.step (fun k => exp_st P k 5 31 2147483647 (by decide) rfl (by decide) (by decide)) ?_
  by_cases h5 : P = 2147483647
  · rw [show expF P = 31 from by simp [expF, expL, zbw, h5]]
    exact Ev.congr (fun k => if_pos h5) (Ev.now _)
  refine Ev.congr (fun k => if_neg h5) ?_
  refine Ev.step (fun k => exp_st P k 6 61 2305843009213693951 (by decide) rfl (by decide) (by decide)) ?_
  by_cases h6 : P = 2305843009213693951
  · rw [show expF P = 61 from by simp [expF, expL, zbw, h6]]
    exact Ev.congr (fun k => if_pos h6) (Ev.now _)
  refine Ev.congr (fun k => if_neg h6) ?_
  rw [show expF P = 0 from by simp [expF, expL, zbw, h0, h1, h2, h3, h4, h5, h6]]
  exact Ev.step (f := fun _ => some 0) (fun k => by simp only [za8.l0]; rw [if_neg (by decide)]) (Ev.now _)
theorem exp_pos (P : Int) : decide (expF P > 0) = (expF P != 0) := by
  have h : 0 ≤ expF P := by
    simp only [expF, expL, zbw]
    repeat' split
    all_goals decide
  rw [Bool.eq_iff_iff]
  simp
  omega
theorem refSupported (P : Int) : Ev (fun k => zbr.f k P) (expF P != 0) := by
  unfold zbr.f
  refine Ev.bind (refExp P) ?_
  rw [← exp_pos]
  exact Ev.now _
theorem of_other (k e : Int) (h1 : k ≠ 1) (h2 : k ≠ 2) (h3 : k ≠ 3) (h4 : k ≠ 4) (h5 : k ≠ 5) (h6 : k ≠ 6) : (ofF k e).2 = false := by
  have : forms.find? (fun f => f.fits k e) = none := by
    rw [List.find?_eq_none]
    intro f hf
    rw [forms_eq] at hf
    simp only [List.mem_cons, List.not_mem_nil, or_false] at hf
    rcases hf with rfl | rfl | rfl | rfl | rfl | rfl | rfl <;> simp [Form.fits, fIn, fBit, fConst, fAdd, fSub, fScale, fMul] <;> omega
  unfold ofF
  rw [this]
theorem nestc (a : Prop) [Decidable a] (x : Option Bool) (r : Bool) (h : x = some r) (q : Bool) (hq : q = (decide a && r)) : (if a then x else some false) = some q := by
  subst hq
  by_cases ha : a <;> simp [ha, h]
theorem refGate (P at_ : Int) (g : GT) (hK : 0 ≤ g.f4) : zai.f P at_ g.f0 g.f1 g.f2 g.f3 g.f4 = some (zcj P at_ g.f0 g.f1 g.f2 g.f3 g.f4) := by
  have hiff : zcj P at_ g.f0 g.f1 g.f2 g.f3 g.f4 = true ↔ GK P at_ g := ⟨right_gk P at_ g hK, gk_right P at_ g⟩
  obtain ⟨k, b, c, d, e⟩ := g
  simp only at hK hiff ⊢
  have fin : ∀ q : Bool, (q = true ↔ GK P at_ (⟨k, b, c, d, e⟩ : GT)) → some q = some (zcj P at_ k b c d e) := by
    intro q hq
    congr 1
    rw [Bool.eq_iff_iff, hq, hiff]
  unfold zai.f
  by_cases h1 : k = 1
  · rw [if_pos h1]
    rw [nestc _ _ _ (nestc _ _ _ (nestc _ _ _ rfl _ rfl) _ rfl) _ rfl]
    refine fin _ ⟨fun hq => ?_, fun hg => ?_⟩
    · subst h1
      simp at hq
      obtain ⟨⟨rfl, rfl⟩, h2, h3, h4⟩ := hq
      by_cases he : e = 0
      · exact Or.inl ⟨b, by omega, by omega, by rw [he]⟩
      · exact Or.inr (Or.inl ⟨b, by omega, by omega, by rw [show e = 1 by omega]⟩)
    · subst h1
      unfold GK at hg
      rcases hg with ⟨x, h2, h3, h⟩ | ⟨x, h2, h3, h⟩ | ⟨K, h2, h3, h⟩ | ⟨a, b', h2, h3, h⟩ | ⟨a, b', h2, h3, h⟩ | ⟨K, a, h2, h3, h⟩ | ⟨a, b', h2, h3, h⟩ <;> simp only [S43.mk.injEq] at h <;> (first | (exfalso; omega) | (obtain ⟨-, rfl, rfl, rfl, rfl⟩ := h; simp; omega))
  rw [if_neg h1]
  by_cases h2 : k = 2
  · rw [if_pos h2]
    rw [nestc _ _ _ rfl _ rfl]
    refine fin _ ⟨fun hq => ?_, fun hg => ?_⟩
    · subst h2
      simp at hq
      obtain ⟨⟨rfl, rfl, rfl⟩, h2⟩ := hq
      exact Or.inr (Or.inr (Or.inl ⟨e, by omega, by omega, rfl⟩))
    · subst h2
      unfold GK at hg
      rcases hg with ⟨x, h2, h3, h⟩ | ⟨x, h2, h3, h⟩ | ⟨K, h2, h3, h⟩ | ⟨a, b', h2, h3, h⟩ | ⟨a, b', h2, h3, h⟩ | ⟨K, a, h2, h3, h⟩ | ⟨a, b', h2, h3, h⟩ <;> simp only [S43.mk.injEq] at h <;> (first | (exfalso; omega) | (obtain ⟨-, rfl, rfl, rfl, rfl⟩ := h; simp; omega))
  rw [if_neg h2]
  by_cases h5 : k = 5
  · rw [if_pos h5]
    rw [nestc _ _ _ (nestc _ _ _ (nestc _ _ _ rfl _ rfl) _ rfl) _ rfl]
    refine fin _ ⟨fun hq => ?_, fun hg => ?_⟩
    · subst h5
      simp at hq
      obtain ⟨⟨rfl, rfl⟩, h2, h3, h4⟩ := hq
      exact Or.inr (Or.inr (Or.inr (Or.inr (Or.inr (Or.inl ⟨e, c, ⟨by omega, by omega⟩, ⟨by omega, by omega⟩, rfl⟩)))))
    · subst h5
      unfold GK at hg
      rcases hg with ⟨x, h2, h3, h⟩ | ⟨x, h2, h3, h⟩ | ⟨K, h2, h3, h⟩ | ⟨a, b', h2, h3, h⟩ | ⟨a, b', h2, h3, h⟩ | ⟨K, a, h2, h3, h⟩ | ⟨a, b', h2, h3, h⟩ <;> simp only [S43.mk.injEq] at h <;> (first | (exfalso; omega) | (obtain ⟨-, rfl, rfl, rfl, rfl⟩ := h; simp; omega))
  rw [if_neg h5]
  by_cases h3 : k = 3
  · rw [if_pos h3]
    rw [nestc _ _ _ (nestc _ _ _ (nestc _ _ _ (nestc _ _ _ rfl _ rfl) _ rfl) _ rfl) _ rfl]
    refine fin _ ⟨fun hq => ?_, fun hg => ?_⟩
    · subst h3
      simp at hq
      obtain ⟨⟨rfl, rfl⟩, h2, h3, h4, h5⟩ := hq
      exact Or.inr (Or.inr (Or.inr (Or.inl ⟨c, d, ⟨by omega, by omega⟩, ⟨by omega, by omega⟩, rfl⟩)))
    · subst h3
      unfold GK at hg
      rcases hg with ⟨x, h2, h3, h⟩ | ⟨x, h2, h3, h⟩ | ⟨K, h2, h3, h⟩ | ⟨a, b', h2, h3, h⟩ | ⟨a, b', h2, h3, h⟩ | ⟨K, a, h2, h3, h⟩ | ⟨a, b', h2, h3, h⟩ <;> simp only [S43.mk.injEq] at h <;> (first | (exfalso; omega) | (obtain ⟨-, rfl, rfl, rfl, rfl⟩ := h; simp; omega))
  rw [if_neg h3]
  by_cases h4 : k = 4
  · rw [if_pos h4]
    rw [nestc _ _ _ (nestc _ _ _ (nestc _ _ _ (nestc _ _ _ rfl _ rfl) _ rfl) _ rfl) _ rfl]
    refine fin _ ⟨fun hq => ?_, fun hg => ?_⟩
    · subst h4
      simp at hq
      obtain ⟨⟨rfl, rfl⟩, h2, h3, h4, h5⟩ := hq
      exact Or.inr (Or.inr (Or.inr (Or.inr (Or.inl ⟨c, d, ⟨by omega, by omega⟩, ⟨by omega, by omega⟩, rfl⟩))))
    · subst h4
      unfold GK at hg
      rcases hg with ⟨x, h2, h3, h⟩ | ⟨x, h2, h3, h⟩ | ⟨K, h2, h3, h⟩ | ⟨a, b', h2, h3, h⟩ | ⟨a, b', h2, h3, h⟩ | ⟨K, a, h2, h3, h⟩ | ⟨a, b', h2, h3, h⟩ <;> simp only [S43.mk.injEq] at h <;> (first | (exfalso; omega) | (obtain ⟨-, rfl, rfl, rfl, rfl⟩ := h; simp; omega))
  rw [if_neg h4]
  by_cases h6 : k = 6
  · rw [if_pos h6]
    rw [nestc _ _ _ (nestc _ _ _ (nestc _ _ _ (nestc _ _ _ rfl _ rfl) _ rfl) _ rfl) _ rfl]
    refine fin _ ⟨fun hq => ?_, fun hg => ?_⟩
    · subst h6
      simp at hq
      obtain ⟨⟨rfl, rfl⟩, h2, h3, h4, h5⟩ := hq
      exact Or.inr (Or.inr (Or.inr (Or.inr (Or.inr (Or.inr ⟨c, d, ⟨by omega, by omega⟩, ⟨by omega, by omega⟩, rfl⟩)))))
    · subst h6
      unfold GK at hg
      rcases hg with ⟨x, h2, h3, h⟩ | ⟨x, h2, h3, h⟩ | ⟨K, h2, h3, h⟩ | ⟨a, b', h2, h3, h⟩ | ⟨a, b', h2, h3, h⟩ | ⟨K, a, h2, h3, h⟩ | ⟨a, b', h2, h3, h⟩ <;> simp only [S43.mk.injEq] at h <;> (first | (exfalso; omega) | (obtain ⟨-, rfl, rfl, rfl, rfl⟩ := h; simp; omega))
  rw [if_neg h6]
  congr 1
  unfold zcj
  rw [of_other k e h1 h2 h3 h4 h5 h6]
  rfl
theorem refV_outs (P : Int) (gs : List GT) (os : List Int) (hl : os.length ≤ 1000000) (d : Nat) : ∀ i : Nat, os.length - i = d → i ≤ os.length →
    Ev (fun k => zah.l1 k (i : Int) P gs os) (!((os.drop i).any (outF gs.length))) := by
  induction d with
  | zero =>
    intro i hd hi
    obtain rfl : i = os.length := by omega
    rw [List.drop_length]
    exact Ev.step (f := fun _ => some true) (fun k => by simp only [zah.l1]; rw [if_neg (by omega)]) (Ev.now _)
  | succ d ih =>
    intro i hd hi
    have hlt : i < os.length := by omega
    rw [List.drop_eq_getElem_cons hlt, List.any_cons]
    by_cases h1 : os[i] < 0
    · rw [show outF gs.length os[i] = true by simp [outF, h1]]
      exact Ev.step (f := fun _ => some false) (fun k => by simp only [zah.l1]; rw [if_pos (by omega), if_pos (by omega), rd_nat _ _ hlt, if_pos h1]) (Ev.now _)
    · by_cases h2 : os[i] ≥ (gs.length : Int)
      · rw [show outF gs.length os[i] = true by simp [outF]; omega]
        exact Ev.step (f := fun _ => some false) (fun k => by simp only [zah.l1]; rw [if_pos (by omega), if_pos (by omega), rd_nat _ _ hlt, if_neg h1, if_pos h2]) (Ev.now _)
      · rw [show outF gs.length os[i] = false by simp [outF]; omega, Bool.false_or]
        exact Ev.step (fun k => by simp only [zah.l1]; rw [if_pos (by omega), if_pos (by omega), rd_nat _ _ hlt, if_neg h1, if_neg h2, wrap_nat hlt (by omega)]) (ih (i + 1) (by omega) (by omega))
theorem refV_gates (P : Int) (gs : List GT) (os : List Int) (hu : ∀ g ∈ gs, 0 ≤ g.f4) (hl : gs.length ≤ 1000000) (ho : os.length ≤ 1000000) (d : Nat) : ∀ i : Nat, gs.length - i = d → i ≤ gs.length →
    Ev (fun k => zah.l0 k (i : Int) P gs os) (goodG P (gs.drop i) (i : Int) && !(os.any (outF gs.length))) := by
  induction d with
  | zero =>
    intro i hd hi
    obtain rfl : i = gs.length := by omega
    rw [List.drop_length]
    simp only [goodG, Bool.true_and]
    exact Ev.step (fun k => by simp only [zah.l0]; rw [if_neg (by omega)]; rfl) (refV_outs P gs os ho _ 0 rfl (Nat.zero_le _))
  | succ d ih =>
    intro i hd hi
    have hlt : i < gs.length := by omega
    rw [List.drop_eq_getElem_cons hlt]
    simp only [goodG]
    have hg := refGate P i gs[i] (hu _ (List.getElem_mem hlt))
    cases hr : zcj P i gs[i].f0 gs[i].f1 gs[i].f2 gs[i].f3 gs[i].f4 with
    | false =>
      simp only [Bool.false_and]
      exact Ev.step (f := fun _ => some false) (fun k => by simp only [zah.l0]; rw [if_pos (by omega), if_pos (by omega), rdG _ _ hlt, hg, hr]; rfl) (Ev.now _)
    | true =>
      simp only [Bool.true_and]
      have h1 := ih (i + 1) (by omega) (by omega)
      exact Ev.step (fun k => by simp only [zah.l0]; rw [if_pos (by omega), if_pos (by omega), rdG _ _ hlt, hg, hr, wrap_nat hlt (by omega)]; rfl) h1
theorem refValid (P : Int) (gs : List GT) (os : List Int) (hu : ∀ g ∈ gs, 0 ≤ g.f4) (hl : gs.length ≤ 1000000) (ho : os.length ≤ 1000000) : Ev (fun k => zah.f k P gs os) (validF P gs os) := by
  unfold zah.f validF
  refine Ev.bind (refSupported P) ?_
  have hg := refV_gates P gs os hu hl ho _ 0 rfl (Nat.zero_le _)
  rw [List.drop_zero] at hg
  have j0f : ∀ b : Bool, b = true → Ev (fun k => zah.j0 k b P gs os) false := fun b hb => Ev.step (f := fun _ => some false) (fun k => by simp only [zah.j0]; rw [if_pos hb]) (Ev.now _)
  cases hs : (expF P != 0) with
  | false =>
    simp only [Bool.false_and]
    exact Ev.congr (fun k => if_neg (by decide)) (j0f true rfl)
  | true =>
    simp only [Bool.true_and, if_true]
    by_cases h1 : (gs.length : Int) > 20000
    · rw [show decide (gs.length ≤ 20000) = false from decide_eq_false (by omega)]
      simp only [Bool.false_and]
      exact Ev.congr (fun k => if_pos h1) (j0f true rfl)
    · rw [show decide (gs.length ≤ 20000) = true from decide_eq_true (by omega)]
      simp only [Bool.true_and]
      refine Ev.congr (fun k => if_neg h1) ?_
      by_cases h2 : (os.length : Int) > 1000
      · rw [show decide (os.length ≤ 1000) = false from decide_eq_false (by omega)]
        simp only [Bool.false_and]
        exact j0f _ (decide_eq_true h2)
      · rw [show decide (os.length ≤ 1000) = true from decide_eq_true (by omega)]
        simp only [Bool.true_and]
        refine Ev.step (fun k => ?_) hg
        simp only [zah.j0]
        rw [if_neg (by simp; omega)]
        rfl
theorem few_c (P : Int) (gs : List GT) (os : List Int) (n : Nat) : zb1.f P gs os (n : Int) = some (decide (gs.length ≤ n ∧ os.length ≤ n)) := by
  unfold zb1.f
  by_cases h1 : gs.length ≤ n
  · rw [if_pos (by omega)]
    congr 1
    rw [decide_eq_decide]
    omega
  · rw [if_neg (by omega)]
    congr 1
    rw [Eq.comm, decide_eq_false_iff_not]
    omega
end Go.Proofs.YtmnleabeipmhmaaDoor.P
end
section
namespace Go.Proofs.YtmnleabeipmhmaaDoor.P
open Go.RowKit Go.Proofs.YtmnleabeipmhmaaDoorW.PrintWords Go.Proofs.YtmnleabeipmhmaaDoorW.PrintLast Go.Proofs.YtmnleabeipmhmaaDoorW.PrintMore
attribute [local go_sem] zb4 zb2 zcg zcf zby zbz zb6 zb5   -- for this text's walks alone
set_option linter.unusedVariables false
set_option linter.unusedSimpArgs false
end Go.Proofs.YtmnleabeipmhmaaDoor.P
end
