/- What is proved here: a part of the proof of CircuitAppendMul: Crn. No conditions beside those that each theorem states. -/
import Derived.Test.YtmnleabeipmhmaaDoorKCAMul42
section
set_option linter.unusedVariables false
set_option linter.unusedSimpArgs false
namespace Go.Proofs.YtmnleabeipmhmaaDoor.P
open Go.RowKit Go.Proofs.YtmnleabeipmhmaaDoorW.PrintWords Go.Proofs.YtmnleabeipmhmaaDoorW.PrintLast Go.Proofs.YtmnleabeipmhmaaDoorW.PrintMore
def lineG (g : GT) : List UInt8 := lineT (wordG g) (numsG g)
def lineH (P : Int) : List UInt8 := lineT [112, 114, 105, 109, 101] [P]
def lineO (os : List Int) : List UInt8 := lineT [111, 117, 116] (os.map IntKind.u64.wrap)
def linesOf (P : Int) (gs : List GT) (os : List Int) : List (List UInt8) := lineH P :: gs.map lineG ++ [lineO os]
theorem format_lines (P : Int) (gs : List GT) (os : List Int) : formatT P gs os = textB (linesOf P gs os) := by
  have hg : ∀ l : List GT, gatesT l = textB (l.map lineG) := by
    intro l
    simp only [gatesT, textB, List.flatMap_map]
    congr 1
  unfold formatT linesOf
  rw [hg]
  simp [textB, headT, outsT, lineH, lineO]
structure GoodC (P : Int) (gs : List GT) (os : List Int) : Prop where
  p : expF P ≠ 0
  n : gs.length ≤ 20000
  m : os.length ≤ 1000
  g : ∀ (i : Nat) (h : i < gs.length), GK P i gs[i]
  o : ∀ x ∈ os, 0 ≤ x ∧ x < gs.length
theorem exp_range (P : Int) (h : expF P ≠ 0) : 31 ≤ P ∧ P < 2305843009213693952 := by
  simp only [expF, expL, zbw] at h
  repeat' (split at h)
  all_goals (first | (exfalso; exact h rfl) | skip)
  all_goals simp_all
theorem goodG_iff (P : Int) : ∀ (gs : List GT) (i : Nat), (∀ g ∈ gs, 0 ≤ g.f4) → (goodG P gs (i : Int) = true ↔ ∀ (j : Nat) (h : j < gs.length), GK P ((i + j : Nat) : Int) gs[j])
  | [], i, _ => by simp [goodG]
  | g :: r, i, hu => by
    have ih := goodG_iff P r (i + 1) (fun x hx => hu x (List.mem_cons_of_mem _ hx))
    simp only [goodG, Bool.and_eq_true]
    rw [show ((i : Int) + 1) = ((i + 1 : Nat) : Int) by omega, ih]
    constructor
    · rintro ⟨h1, h2⟩ j hj
      cases j with
      | zero => simpa using right_gk P i g (hu g (List.mem_cons_self ..)) h1
      | succ j =>
        have := h2 j (by simpa using hj)
        rw [show i + 1 + j = i + (j + 1) by omega] at this
        simpa using this
    · intro h
      refine ⟨?_, fun j hj => ?_⟩
      · have := h 0 (by simp)
        exact gk_right P i g (by simpa using this)
      · have := h (j + 1) (by simpa using hj)
        rw [show i + (j + 1) = i + 1 + j by omega] at this
        simpa using this
theorem valid_good (P : Int) (gs : List GT) (os : List Int) (hu : ∀ g ∈ gs, 0 ≤ g.f4) : validF P gs os = true ↔ GoodC P gs os := by
  unfold validF
  simp only [Bool.and_eq_true, bne_iff_ne, decide_eq_true_eq, Bool.not_eq_true']
  have hg := goodG_iff P gs 0 hu
  have ho : (os.any (outF gs.length)) = false ↔ ∀ x ∈ os, 0 ≤ x ∧ x < gs.length := by
    rw [List.any_eq_false]
    constructor
    · intro h x hx
      have := h x hx
      simp [outF] at this
      omega
    · intro h x hx
      have := h x hx
      simp [outF]
      omega
  constructor
  · rintro ⟨⟨⟨⟨h1, h2⟩, h3⟩, h4⟩, h5⟩
    exact ⟨h1, h2, h3, fun i hi => by have := hg.1 (by simpa using h4) i hi; simpa using this, ho.1 h5⟩
  · rintro ⟨h1, h2, h3, h4, h5⟩
    exact ⟨⟨⟨⟨h1, h2⟩, h3⟩, by have := hg.2 (fun j hj => by simpa using h4 j hj); simpa using this⟩, ho.2 h5⟩
def Inv (s : St) (pre : List (List UInt8)) : Prop :=
  (pre = [] ∧ s = St0) ∨
  (s.begun = true ∧ s.is = false ∧ s.os = [] ∧ pre = lineH s.P :: s.gs.map lineG ∧ expF s.P ≠ 0 ∧ s.gs.length ≤ 20000 ∧ ∀ (i : Nat) (h : i < s.gs.length), GK s.P i s.gs[i]) ∨
  (s.is = true ∧ pre = linesOf s.P s.gs s.os ∧ GoodC s.P s.gs s.os)
theorem outs_inv (n : Nat) (hn : n ≤ 20000) : ∀ (ns acc os : List Int), U64 ns → outsF n ns acc = some os → ∃ r, os = acc ++ r ∧ ns = r.map IntKind.u64.wrap ∧ r.length = ns.length ∧ ∀ x ∈ r, 0 ≤ x ∧ x < n
  | [], acc, os, _, h => by
    simp only [outsF, Option.some.injEq] at h
    exact ⟨[], by simp [h], rfl, rfl, fun x hx => by cases hx⟩
  | y :: r, acc, os, hu, h => by
    simp only [outsF] at h
    split at h
    · cases h
    · next hc =>
      have hy := hu y (List.mem_cons_self ..)
      have h0 : 0 ≤ zbh y := by omega
      obtain ⟨h1, h2⟩ := zc2 y hy.1 h0
      rw [h1] at hc h
      obtain ⟨q, hq1, hq2, hq3, hq4⟩ := outs_inv n hn r (acc ++ [y]) os (fun x hx => hu x (List.mem_cons_of_mem _ hx)) h
      refine ⟨y :: q, by rw [hq1]; simp, ?_, by simp [hq3], ?_⟩
      · simp only [List.map_cons]; rw [wrapU_of y hy.1 hy.2, ← hq2]
      · intro x hx
        rcases List.mem_cons.1 hx with hx | hx
        · subst hx; omega
        · exact hq4 x hx
theorem inv_step {s s' : St} {pre : List (List UInt8)} {x : List UInt8} (h : Inv s pre) (hl : lineP s x = some s') : Inv s' (pre ++ [x]) := by
  unfold lineP at hl
  split at hl
  case isFalse => cases hl
  case isTrue h0 =>
  obtain ⟨hok, his⟩ := h0
  obtain ⟨w, ns, hw⟩ : ∃ w ns, splitP x = (w, ns, true) := ⟨(splitP x).1, (splitP x).2.1, by rw [← hok]⟩
  obtain ⟨hx, hu⟩ := split_inv x w ns hw
  rw [hw] at hl
  simp only at hl
  rcases h with ⟨rfl, rfl⟩ | ⟨hb, _, ho, hp, he, hn, hg⟩ | ⟨hi, _⟩
  · rw [if_neg (by simp [St0])] at hl
    split at hl
    · next hw0 =>
      split at hl
      · next y =>
        split at hl
        · next hE =>
          cases hl
          right; left
          refine ⟨rfl, rfl, rfl, ?_, by simpa using hE, by simp [St0], fun i hi => by simp [St0] at hi⟩
          simp only [St0, List.map_nil, List.nil_append]
          rw [hx, hw0]; rfl
        · cases hl
      · cases hl
    · cases hl
  · rw [if_pos hb] at hl
    obtain ⟨P, gs, os, begun, is⟩ := s
    simp only at hb his ho hp he hn hg hl
    subst hb his ho
    have hP := exp_range P he
    split at hl
    · next hwo =>
      split at hl
      · next hm =>
        rw [Option.map_eq_some_iff] at hl
        obtain ⟨os, ho, rfl⟩ := hl
        obtain ⟨r, hr1, hr2, hr3, hr4⟩ := outs_inv gs.length hn ns [] os hu ho
        simp only [List.nil_append] at hr1
        subst hr1
        right; right
        refine ⟨rfl, ?_, he, hn, (show os.length ≤ 1000 by omega), hg, hr4⟩
        simp only
        rw [hp, hx, hwo, hr2]
        simp [linesOf, lineO]
      · cases hl
    · split at hl
      · next hgd =>
        cases hl
        obtain ⟨hgd1, hgd2⟩ := hgd
        obtain ⟨g, hmg⟩ : ∃ g, madeP P w ns gs.length = (g, true) := ⟨(madeP P w ns gs.length).1, by rw [← hgd1]⟩
        rw [hmg]
        obtain ⟨k1, k2, k3⟩ := made_inv P gs.length w ns g hmg hu
        right; left
        refine ⟨rfl, rfl, rfl, ?_, he, by simp; omega, ?_⟩
        · simp only
          rw [hp, hx, k2, k3]
          simp [lineG]
        · intro i hi
          simp only [List.length_append, List.length_cons, List.length_nil] at hi
          simp only
          by_cases h1 : i < gs.length
          · rw [List.getElem_append_left h1]; exact hg i h1
          · have : i = gs.length := by omega
            subst this
            simpa using k1
      · cases hl
  · rw [hi] at his; cases his
theorem inv_run : ∀ (bs : List (List UInt8)) (i : Nat) (s s' : St) (pre : List (List UInt8)), Inv s pre → runB bs i s = .ok s' → Inv s' (pre ++ bs)
  | [], i, s, s', pre, h, hr => by cases hr; simpa using h
  | x :: r, i, s, s', pre, h, hr => by
    simp only [runB] at hr
    cases hl : lineP s x with
    | none => rw [hl] at hr; cases hr
    | some t =>
      rw [hl] at hr
      simp only at hr
      have := inv_run r (i + 1) t s' (pre ++ [x]) (inv_step h hl) hr
      simpa using this
theorem parse_ok {l : List UInt8} {P : Int} {gs : List GT} {os : List Int} {k : Int} (h : parseP l = (P, gs, os, k, 0)) : k = 0 ∧ GoodC P gs os ∧ l = formatT P gs os := by
  unfold parseP at h
  split at h
  · simp at h
  · next s hr =>
    split at h
    · next hc =>
      obtain ⟨ht, hi⟩ := hc
      simp only [Prod.mk.injEq] at h
      obtain ⟨rfl, rfl, rfl, h1, _⟩ := h
      have hv := inv_run _ 0 St0 s [] (Or.inl ⟨rfl, rfl⟩) hr
      simp only [List.nil_append] at hv
      rcases hv with ⟨_, rfl⟩ | ⟨_, h2, _⟩ | ⟨_, h2, h3⟩
      · simp [St0] at hi
      · rw [h2] at hi; cases hi
      · refine ⟨h1.symm, h3, ?_⟩
        conv => lhs; rw [text_bodies l]
        rw [ht, List.append_nil, h2, format_lines]
    · simp at h
end Go.Proofs.YtmnleabeipmhmaaDoor.P
end
