/- What is proved here: a part of the proof of CircuitParse: Crn, Px6, Cr1, Px19, Px20, Px14, Px21, Cr2. No conditions beside those that each theorem states. -/
import Derived.Test.YtmnleabeipmhmaaDoorKCPse41
import Derived.Test.YtmnleabeipmhmaaDoorKCPse5
import Derived.Test.YtmnleabeipmhmaaDoorKCPse27
import Derived.Test.YtmnleabeipmhmaaDoorKCPse37
import Derived.Test.YtmnleabeipmhmaaDoorKCPse10
import Derived.Test.YtmnleabeipmhmaaDoorKCPse9
section
set_option linter.unusedVariables false
set_option linter.unusedSimpArgs false
namespace Go.Proofs.YtmnleabeipmhmaaDoor.P
open Go.RowKit Go.Proofs.YtmnleabeipmhmaaDoorW.PrintWords Go.Proofs.YtmnleabeipmhmaaDoorW.PrintLast Go.Proofs.YtmnleabeipmhmaaDoorW.PrintMore
def lineG (g : GT) : List UInt8 := lineT (zcv g) (zcx g)
def lineH (P : Int) : List UInt8 := lineT [112, 114, 105, 109, 101] [P]
def lineO (os : List Int) : List UInt8 := lineT [111, 117, 116] (os.map IntKind.u64.wrap)
def linesOf (P : Int) (gs : List GT) (os : List Int) : List (List UInt8) := lineH P :: gs.map lineG ++ [lineO os]
theorem format_lines (P : Int) (gs : List GT) (os : List Int) : formatT P gs os = textB (linesOf P gs os) := by
  have hg : ∀ l : List GT, gatesT l = textB (l.map lineG) := by
    intro l
    simp only [gatesT, textB, List.flatMap_map]
    congr 1
  unfold formatT linesOf
  rw [hg]
  simp [textB, headT, outsT, lineH, lineO]
structure GoodC (P : Int) (gs : List GT) (os : List Int) : Prop where
  p : expF P ≠ 0
  n : gs.length ≤ 20000
  m : os.length ≤ 1000
  g : ∀ (i : Nat) (h : i < gs.length), GK P i gs[i]
  o : ∀ x ∈ os, 0 ≤ x ∧ x < gs.length
theorem exp_range (P : Int) (h : expF P ≠ 0) : 31 ≤ P ∧ P < 2305843009213693952 := by
  simp only [expF, expL, zcc] at h
  repeat' (split at h)
  all_goals (first | (exfalso; exact h rfl) | skip)
  all_goals simp_all
theorem goodG_iff (P : Int) : ∀ (gs : List GT) (i : Nat), (∀ g ∈ gs, 0 ≤ g.f4) → (goodG P gs (i : Int) = true ↔ ∀ (j : Nat) (h : j < gs.length), GK P ((i + j : Nat) : Int) gs[j])
  | [], i, _ => by simp [goodG]
  | g :: r, i, hu => by
    have ih := goodG_iff P r (i + 1) (fun x hx => hu x (List.mem_cons_of_mem _ hx))
    simp only [goodG, Bool.and_eq_true]
    rw [show ((i : Int) + 1) = ((i + 1 : Nat) : Int) by omega, ih]
    constructor
    · rintro ⟨h1, h2⟩ j hj
      cases j with
      | zero => simpa using right_gk P i g (hu g (List.mem_cons_self ..)) h1
      | succ j =>
        have := h2 j (by simpa using hj)
        rw [show i + 1 + j = i + (j + 1) by omega] at this
        simpa using this
    · intro h
      refine ⟨?_, fun j hj => ?_⟩
      · have := h 0 (by simp)
        exact gk_right P i g (by simpa using this)
      · have := h (j + 1) (by simpa using hj)
        rw [show i + (j + 1) = i + 1 + j by omega] at this
        simpa using this
theorem valid_good (P : Int) (gs : List GT) (os : List Int) (hu : ∀ g ∈ gs, 0 ≤ g.f4) : validF P gs os = true ↔ GoodC P gs os := by
  unfold validF
  simp only [Bool.and_eq_true, bne_iff_ne, decide_eq_true_eq, Bool.not_eq_true']
  have hg := goodG_iff P gs 0 hu
  have ho : (os.any (outF gs.length)) = false ↔ ∀ x ∈ os, 0 ≤ x ∧ x < gs.length := by
    rw [List.any_eq_false]
    constructor
    · intro h x hx
      have := h x hx
      simp [outF] at this
      omega
    · intro h x hx
      have := h x hx
      simp [outF]
      omega
  constructor
  · rintro ⟨⟨⟨⟨h1, h2⟩, h3⟩, h4⟩, h5⟩
    exact ⟨h1, h2, h3, fun i hi => by have := hg.1 (by simpa using h4) i hi; simpa using this, ho.1 h5⟩
  · rintro ⟨h1, h2, h3, h4, h5⟩
    exact ⟨⟨⟨⟨h1, h2⟩, h3⟩, by have := hg.2 (fun j hj => by simpa using h4 j hj); simpa using this⟩, ho.2 h5⟩
def Inv (s : St) (pre : List (List UInt8)) : Prop :=
  (pre = [] ∧ s = St0) ∨
  (s.begun = true ∧ s.is = false ∧ s.os = [] ∧ pre = lineH s.P :: s.gs.map lineG ∧ expF s.P ≠ 0 ∧ s.gs.length ≤ 20000 ∧ ∀ (i : Nat) (h : i < s.gs.length), GK s.P i s.gs[i]) ∨
  (s.is = true ∧ pre = linesOf s.P s.gs s.os ∧ GoodC s.P s.gs s.os)
theorem outs_inv (n : Nat) (hn : n ≤ 20000) : ∀ (ns acc os : List Int), U64 ns → outsF n ns acc = some os → ∃ r, os = acc ++ r ∧ ns = r.map IntKind.u64.wrap ∧ r.length = ns.length ∧ ∀ x ∈ r, 0 ≤ x ∧ x < n
  | [], acc, os, _, h => by
    simp only [outsF, Option.some.injEq] at h
    exact ⟨[], by simp [h], rfl, rfl, fun x hx => by cases hx⟩
  | y :: r, acc, os, hu, h => by
    simp only [outsF] at h
    split at h
    · cases h
    · next hc =>
      have hy := hu y (List.mem_cons_self ..)
      have h0 : 0 ≤ zbi y := by omega
      obtain ⟨h1, h2⟩ := zdk y hy.1 h0
      rw [h1] at hc h
      obtain ⟨q, hq1, hq2, hq3, hq4⟩ := outs_inv n hn r (acc ++ [y]) os (fun x hx => hu x (List.mem_cons_of_mem _ hx)) h
      refine ⟨y :: q, by rw [hq1]; simp, ?_, by simp [hq3], ?_⟩
      · simp only [List.map_cons]; rw [zbw y hy.1 hy.2, ← hq2]
      · intro x hx
        rcases List.mem_cons.1 hx with hx | hx
        · subst hx; omega
        · exact hq4 x hx
theorem inv_step {s s' : St} {pre : List (List UInt8)} {x : List UInt8} (h : Inv s pre) (hl : lineP s x = some s') : Inv s' (pre ++ [x]) := by
  unfold lineP at hl
  split at hl
  case isFalse => cases hl
  case isTrue h0 =>
  obtain ⟨hok, his⟩ := h0
  obtain ⟨w, ns, hw⟩ : ∃ w ns, zct x = (w, ns, true) := ⟨(zct x).1, (zct x).2.1, by rw [← hok]⟩
  obtain ⟨hx, hu⟩ := split_inv x w ns hw
  rw [hw] at hl
  simp only at hl
  rcases h with ⟨rfl, rfl⟩ | ⟨hb, _, ho, hp, he, hn, hg⟩ | ⟨hi, _⟩
  · rw [if_neg (by simp [St0])] at hl
    split at hl
    · next hw0 =>
      split at hl
      · next y =>
        split at hl
        · next hE =>
          cases hl
          right; left
          refine ⟨rfl, rfl, rfl, ?_, by simpa using hE, by simp [St0], fun i hi => by simp [St0] at hi⟩
          simp only [St0, List.map_nil, List.nil_append]
          rw [hx, hw0]; rfl
        · cases hl
      · cases hl
    · cases hl
  · rw [if_pos hb] at hl
    obtain ⟨P, gs, os, begun, is⟩ := s
    simp only at hb his ho hp he hn hg hl
    subst hb his ho
    have hP := exp_range P he
    split at hl
    · next hwo =>
      split at hl
      · next hm =>
        rw [Option.map_eq_some_iff] at hl
        obtain ⟨os, ho, rfl⟩ := hl
        obtain ⟨r, hr1, hr2, hr3, hr4⟩ := outs_inv gs.length hn ns [] os hu ho
        simp only [List.nil_append] at hr1
        subst hr1
        right; right
        refine ⟨rfl, ?_, he, hn, (show os.length ≤ 1000 by omega), hg, hr4⟩
        simp only
        rw [hp, hx, hwo, hr2]
        simp [linesOf, lineO]
      · cases hl
    · split at hl
      · next hgd =>
        cases hl
        obtain ⟨hgd1, hgd2⟩ := hgd
        obtain ⟨g, hmg⟩ : ∃ g, madeP P w ns gs.length = (g, true) := ⟨(madeP P w ns gs.length).1, by rw [← hgd1]⟩
        rw [hmg]
        obtain ⟨k1, k2, k3⟩ := made_inv P gs.length w ns g hmg hu
        right; left
        refine ⟨rfl, rfl, rfl, ?_, he, by simp; omega, ?_⟩
        · simp only
          rw [hp, hx, k2, k3]
          simp [lineG]
        · intro i hi
          simp only [List.length_append, List.length_cons, List.length_nil] at hi
          simp only
          by_cases h1 : i < gs.length
          · rw [List.getElem_append_left h1]; exact hg i h1
          · have : i = gs.length := by omega
            subst this
            simpa using k1
      · cases hl
  · rw [hi] at his; cases his
theorem inv_run : ∀ (bs : List (List UInt8)) (i : Nat) (s s' : St) (pre : List (List UInt8)), Inv s pre → runB bs i s = .ok s' → Inv s' (pre ++ bs)
  | [], i, s, s', pre, h, hr => by cases hr; simpa using h
  | x :: r, i, s, s', pre, h, hr => by
    simp only [runB] at hr
    cases hl : lineP s x with
    | none => rw [hl] at hr; cases hr
    | some t =>
      rw [hl] at hr
      simp only at hr
      have := inv_run r (i + 1) t s' (pre ++ [x]) (inv_step h hl) hr
      simpa using this
theorem parse_ok {l : List UInt8} {P : Int} {gs : List GT} {os : List Int} {k : Int} (h : zdl l = (P, gs, os, k, 0)) : k = 0 ∧ GoodC P gs os ∧ l = formatT P gs os := by
  unfold zdl at h
  split at h
  · simp at h
  · next s hr =>
    split at h
    · next hc =>
      obtain ⟨ht, hi⟩ := hc
      simp only [Prod.mk.injEq] at h
      obtain ⟨rfl, rfl, rfl, h1, _⟩ := h
      have hv := inv_run _ 0 St0 s [] (Or.inl ⟨rfl, rfl⟩) hr
      simp only [List.nil_append] at hv
      rcases hv with ⟨_, rfl⟩ | ⟨_, h2, _⟩ | ⟨_, h2, h3⟩
      · simp [St0] at hi
      · rw [h2] at hi; cases hi
      · refine ⟨h1.symm, h3, ?_⟩
        conv => lhs; rw [text_bodies l]
        rw [ht, List.append_nil, h2, format_lines]
    · simp at h
theorem parse_err (l : List UInt8) : (zdl l).2.2.2.2 = 0 ∨ (zdl l).2.2.2.2 = 3 := by
  unfold zdl
  split
  · right; rfl
  · split
    · left; rfl
    · right; rfl
theorem run_is : ∀ (bs : List (List UInt8)) (i : Nat) (s : St), s.is = true → bs ≠ [] → runB bs i s = .error (i + 1)
  | [], _, _, _, h => absurd rfl h
  | x :: r, i, s, hs, _ => by
    simp only [runB]
    have : lineP s x = none := by unfold lineP; rw [if_neg (by rintro ⟨_, h⟩; rw [hs] at h; cases h)]
    rw [this]
end Go.Proofs.YtmnleabeipmhmaaDoor.P
end
section
namespace Go.Proofs.YtmnleabeipmhmaaDoor.P
open Go.RowKit Go.Proofs.YtmnleabeipmhmaaDoorW.PrintWords Go.Proofs.YtmnleabeipmhmaaDoorW.PrintLast Go.Proofs.YtmnleabeipmhmaaDoorW.PrintMore
attribute [local go_sem] zb0 zbz zcd zce zbr zbs zb1 zb3   -- for this text's walks alone
set_option linter.unusedVariables false
set_option linter.unusedSimpArgs false
def zcr.T6 : Bool × List (List Nat × List Nat) := (true, [([], []), ([0], [0]), ([], []), ([], []), ([3], [3]), ([], []), ([4, 5], [4, 5]), ([6], [6]), ([1, 2, 7], [1, 2, 7]), ([8], [8])])
def zcr.B6 : List Nat := [0, 1, 0, 0, 8, 0, 56, 120, 255, 511]
theorem zcr.tab6 : rtab .any (opsOf Tryd.f11 6) = zcr.T6 := by kernel_rfl
theorem zcr.bits6 : waitsOk zcr.T6.2 zcr.B6 = true := by kernel_rfl
end Go.Proofs.YtmnleabeipmhmaaDoor.P
end
section
set_option linter.unusedVariables false
set_option linter.unusedSimpArgs false
namespace Go.Proofs.YtmnleabeipmhmaaDoor.P
open Go.RowKit Go.Proofs.YtmnleabeipmhmaaDoorW.PrintWords Go.Proofs.YtmnleabeipmhmaaDoorW.PrintLast Go.Proofs.YtmnleabeipmhmaaDoorW.PrintMore
theorem rdG (l : List GT) (i : Nat) (h : i < l.length) : zb5 l (i : Int) = l[i] := by simp [zb5, h]
theorem exp_st (P : Int) (k i : Nat) (q m : Int) (hi : i < 7) (hq : rd [5, 7, 13, 17, 19, 31, 61] (i : Int) = q) (h0 : 0 ≤ IntKind.u64.wrap q) (hm : IntKind.u64.wrap ((shl .u64 1 (IntKind.u64.wrap q)) - 1) = m) :
    zbc.l0 (k + 1) P [5, 7, 13, 17, 19, 31, 61] (i : Int) = if P = m then some q else zbc.l0 k P [5, 7, 13, 17, 19, 31, 61] ((i + 1 : Nat) : Int) := by
  simp only [zbc.l0]
  rw [if_pos (by simp; omega), if_pos (by omega), hq, if_pos h0, hm, zdd (n := 7) hi (by omega)]
theorem refExp (P : Int) : Ev (fun k => zbc.f k P) (expF P) := by
  show Ev (fun k => zbc.l0 k P [5, 7, 13, 17, 19, 31, 61] ((0 : Nat) : Int)) _
  refine Ev.step (fun k => exp_st P k 0 5 31 (by decide) rfl (by decide) (by decide)) ?_
  by_cases h0 : P = 31
  · rw [show expF P = 5 from by simp [expF, expL, zcc, h0]]
    exact Ev.congr (fun k => if_pos h0) (Ev.now _)
  refine Ev.congr (fun k => if_neg h0) ?_
  refine Ev.step (fun k => exp_st P k 1 7 127 (by decide) rfl (by decide) (by decide)) ?_
  by_cases h1 : P = 127
  · rw [show expF P = 7 from by simp [expF, expL, zcc, h1]]
    exact Ev.congr (fun k => if_pos h1) (Ev.now _)
  refine Ev.congr (fun k => if_neg h1) ?_
  refine Ev.step (fun k => exp_st P k 2 13 8191 (by decide) rfl (by decide) (by decide)) ?_
  by_cases h2 : P = 8191
  · rw [show expF P = 13 from by simp [expF, expL, zcc, h2]]
    exact Ev.congr (fun k => if_pos h2) (Ev.now _)
  refine Ev.congr (fun k => if_neg h2) ?_
  refine Ev.step (fun k => exp_st P k 3 17 131071 (by decide) rfl (by decide) (by decide)) ?_
  by_cases h3 : P = 131071
  · rw [show expF P = 17 from by simp [expF, expL, zcc, h3]]
    exact Ev.congr (fun k => if_pos h3) (Ev.now _)
  refine Ev.congr (fun k => if_neg h3) ?_
  refine Ev.step (fun k => exp_st P k 4 19 524287 (by decide) rfl (by decide) (by decide)) ?_
  by_cases h4 : P = 524287
  · rw [show expF P = 19 from by simp [expF, expL, zcc, h4]]
    exact Ev.congr (fun k => if_pos h4) (Ev.now _)
  refine Ev.congr (fun k => if_neg h4) ?_
  refine Ev.step (fun k => exp_st P k 5 31 2147483647 (by decide) rfl (by decide) (by decide)) ?_
  by_cases h5 : P = 2147483647
  · rw [show expF P = 31 from by simp [expF, expL, zcc, h5]]
    exact Ev.congr (fun k => if_pos h5) (Ev.now _)
  refine Ev.congr (fun k => if_neg h5) ?_
  refine Ev.step (fun k => exp_st P k 6 61 2305843009213693951 (by decide) rfl (by decide) (by decide)) ?_
  by_cases h6 : P = 2305843009213693951
  · rw [show expF P = 61 from by simp [expF, expL, zcc, h6]]
    exact Ev.congr (fun k => if_pos h6) (Ev.now _)
  refine Ev.congr (fun k => if_neg h6) ?_
  rw [show expF P = 0 from by simp [expF, expL, zcc, h0, h1, h2, h3, h4, h5, h6]]
  exact Ev.step (f := fun _ => some 0) (fun k => by simp only [zbc.l0]; rw [if_neg (by decide)]) (Ev.now _)
theorem exp_pos (P : Int) : decide (expF P > 0) = (expF P != 0) := by
  have h : 0 ≤ expF P := by
    simp only [expF, expL, zcc]
    repeat' split
    all_goals decide
  rw [Bool.eq_iff_iff]
  simp
  omega
theorem refSupported (P : Int) : Ev (fun k => zbm.f k P) (expF P != 0) := by
  unfold zbm.f
  refine Ev.bind (refExp P) ?_
  rw [← exp_pos]
  exact Ev.now _
theorem of_other (k e : Int) (h1 : k ≠ 1) (h2 : k ≠ 2) (h3 : k ≠ 3) (h4 : k ≠ 4) (h5 : k ≠ 5) (h6 : k ≠ 6) : (ofF k e).2 = false := by
  have : forms.find? (fun f => f.fits k e) = none := by
    rw [List.find?_eq_none]
    intro f hf
    rw [forms_eq] at hf
    simp only [List.mem_cons, List.not_mem_nil, or_false] at hf
    rcases hf with rfl | rfl | rfl | rfl | rfl | rfl | rfl <;> simp [Form.fits, fIn, fBit, zc3, fAdd, fSub, zdf, fMul] <;> omega
  unfold ofF
  rw [this]
theorem nestc (a : Prop) [Decidable a] (x : Option Bool) (r : Bool) (h : x = some r) (q : Bool) (hq : q = (decide a && r)) : (if a then x else some false) = some q := by
  subst hq
  by_cases ha : a <;> simp [ha, h]
theorem refGate (P at_ : Int) (g : GT) (hK : 0 ≤ g.f4) : zah.f P at_ g.f0 g.f1 g.f2 g.f3 g.f4 = some (zcw P at_ g.f0 g.f1 g.f2 g.f3 g.f4) := by
  have hiff : zcw P at_ g.f0 g.f1 g.f2 g.f3 g.f4 = true ↔ GK P at_ g := ⟨right_gk P at_ g hK, gk_right P at_ g⟩
  obtain ⟨k, b, c, d, e⟩ := g
  simp only at hK hiff ⊢
  have fin : ∀ q : Bool, (q = true ↔ GK P at_ (⟨k, b, c, d, e⟩ : GT)) → some q = some (zcw P at_ k b c d e) := by
    intro q hq
    congr 1
    rw [Bool.eq_iff_iff, hq, hiff]
  unfold zah.f
  by_cases h1 : k = 1
  · rw [if_pos h1]
    rw [nestc _ _ _ (nestc _ _ _ (nestc _ _ _ rfl _ rfl) _ rfl) _ rfl]
    refine fin _ ⟨fun hq => ?_, fun hg => ?_⟩
    · subst h1
      simp at hq
      obtain ⟨⟨rfl, rfl⟩, h2, h3, h4⟩ := hq
      by_cases he : e = 0
      · exact Or.inl ⟨b, by omega, by omega, by rw [he]⟩
      · exact Or.inr (Or.inl ⟨b, by omega, by omega, by rw [show e = 1 by omega]⟩)
    · subst h1
      unfold GK at hg
      rcases hg with ⟨x, h2, h3, h⟩ | ⟨x, h2, h3, h⟩ | ⟨K, h2, h3, h⟩ | ⟨a, b', h2, h3, h⟩ | ⟨a, b', h2, h3, h⟩ | ⟨K, a, h2, h3, h⟩ | ⟨a, b', h2, h3, h⟩ <;> simp only [S43.mk.injEq] at h <;> (first | (exfalso; omega) | (obtain ⟨-, rfl, rfl, rfl, rfl⟩ := h; simp; omega))
  rw [if_neg h1]
  by_cases h2 : k = 2
  · rw [if_pos h2]
    rw [nestc _ _ _ rfl _ rfl]
    refine fin _ ⟨fun hq => ?_, fun hg => ?_⟩
    · subst h2
      simp at hq
      obtain ⟨⟨rfl, rfl, rfl⟩, h2⟩ := hq
      exact Or.inr (Or.inr (Or.inl ⟨e, by omega, by omega, rfl⟩))
    · subst h2
      unfold GK at hg
      rcases hg with ⟨x, h2, h3, h⟩ | ⟨x, h2, h3, h⟩ | ⟨K, h2, h3, h⟩ | ⟨a, b', h2, h3, h⟩ | ⟨a, b', h2, h3, h⟩ | ⟨K, a, h2, h3, h⟩ | ⟨a, b', h2, h3, h⟩ <;> simp only [S43.mk.injEq] at h <;> (first | (exfalso; omega) | (obtain ⟨-, rfl, rfl, rfl, rfl⟩ := h; simp; omega))
  rw [if_neg h2]
  by_cases h5 : k = 5
  · rw [if_pos h5]
    rw [nestc _ _ _ (nestc _ _ _ (nestc _ _ _ rfl _ rfl) _ rfl) _ rfl]
    refine fin _ ⟨fun hq => ?_, fun hg => ?_⟩
    · subst h5
      simp at hq
      obtain ⟨⟨rfl, rfl⟩, h2, h3, h4⟩ := hq
      exact Or.inr (Or.inr (Or.inr (Or.inr (Or.inr (Or.inl ⟨e, c, ⟨by omega, by omega⟩, ⟨by omega, by omega⟩, rfl⟩)))))
    · subst h5
      unfold GK at hg
      rcases hg with ⟨x, h2, h3, h⟩ | ⟨x, h2, h3, h⟩ | ⟨K, h2, h3, h⟩ | ⟨a, b', h2, h3, h⟩ | ⟨a, b', h2, h3, h⟩ | ⟨K, a, h2, h3, h⟩ | ⟨a, b', h2, h3, h⟩ <;> simp only [S43.mk.injEq] at h <;> (first | (exfalso; omega) | (obtain ⟨-, rfl, rfl, rfl, rfl⟩ := h; simp; omega))
  rw [if_neg h5]
  by_cases h3 : k = 3
  · rw [if_pos h3]
    rw [nestc _ _ _ (nestc _ _ _ (nestc _ _ _ (nestc _ _ _ rfl _ rfl) _ rfl) _ rfl) _ rfl]
    refine fin _ ⟨fun hq => ?_, fun hg => ?_⟩
    · subst h3
      simp at hq
      obtain ⟨⟨rfl, rfl⟩, h2, h3, h4, h5⟩ := hq
      exact Or.inr (Or.inr (Or.inr (Or.inl ⟨c, d, ⟨by omega, by omega⟩, ⟨by omega, by omega⟩, rfl⟩)))
    · subst h3
      unfold GK at hg
      rcases hg with ⟨x, h2, h3, h⟩ | ⟨x, h2, h3, h⟩ | ⟨K, h2, h3, h⟩ | ⟨a, b', h2, h3, h⟩ | ⟨a, b', h2, h3, h⟩ | ⟨K, a, h2, h3, h⟩ | ⟨a, b', h2, h3, h⟩ <;> simp only [S43.mk.injEq] at h <;> (first | (exfalso; omega) | (obtain ⟨-, rfl, rfl, rfl, rfl⟩ := h; simp; omega))
  rw [if_neg h3]
  by_cases h4 : k = 4
  · rw [if_pos h4]
    rw [nestc _ _ _ (nestc _ _ _ (nestc _ _ _ (nestc _ _ _ rfl _ rfl) _ rfl) _ rfl) _ rfl]
    refine fin _ ⟨fun hq => ?_, fun hg => ?_⟩
    · subst h4
      simp at hq
      obtain ⟨⟨rfl, rfl⟩, h2, h3, h4, h5⟩ := hq
      exact Or.inr (Or.inr (Or.inr (Or.inr (Or.inl ⟨c, d, ⟨by omega, by omega⟩, ⟨by omega, by omega⟩, rfl⟩))))
    · subst h4
      unfold GK at hg
      rcases hg with ⟨x, h2, h3, h⟩ | ⟨x, h2, h3, h⟩ | ⟨K, h2, h3, h⟩ | ⟨a, b', h2, h3, h⟩ | ⟨a, b', h2, h3, h⟩ | ⟨K, a, h2, h3, h⟩ | ⟨a, b', h2, h3, h⟩ <;> simp only [S43.mk.injEq] at h <;> (first | (exfalso; omega) | (obtain ⟨-, rfl, rfl, rfl, rfl⟩ := h; simp; omega))
  rw [if_neg h4]
  by_cases h6 : k = 6
  · rw [if_pos h6]
    rw [nestc _ _ _ (nestc _ _ _ (nestc _ _ _ (nestc _ _ _ rfl _ rfl) _ rfl) _ rfl) _ rfl]
    refine fin _ ⟨fun hq => ?_, fun hg => ?_⟩
    · subst h6
      simp at hq
      obtain ⟨⟨rfl, rfl⟩, h2, h3, h4, h5⟩ := hq
      exact Or.inr (Or.inr (Or.inr (Or.inr (Or.inr (Or.inr ⟨c, d, ⟨by omega, by omega⟩, ⟨by omega, by omega⟩, rfl⟩)))))
    · subst h6
      unfold GK at hg
      rcases hg with ⟨x, h2, h3, h⟩ | ⟨x, h2, h3, h⟩ | ⟨K, h2, h3, h⟩ | ⟨a, b', h2, h3, h⟩ | ⟨a, b', h2, h3, h⟩ | ⟨K, a, h2, h3, h⟩ | ⟨a, b', h2, h3, h⟩ <;> simp only [S43.mk.injEq] at h <;> (first | (exfalso; omega) | (obtain ⟨-, rfl, rfl, rfl, rfl⟩ := h; simp; omega))
  rw [if_neg h6]
  congr 1
  unfold zcw
  rw [of_other k e h1 h2 h3 h4 h5 h6]
  rfl
end Go.Proofs.YtmnleabeipmhmaaDoor.P
end
section
namespace Go.Proofs.YtmnleabeipmhmaaDoor.P
open Go.RowKit Go.Proofs.YtmnleabeipmhmaaDoorW.PrintWords Go.Proofs.YtmnleabeipmhmaaDoorW.PrintLast Go.Proofs.YtmnleabeipmhmaaDoorW.PrintMore
attribute [local go_sem] zb0 zbz zcd zce zbr zbs zb1 zb3   -- for this text's walks alone
set_option linter.unusedVariables false
set_option linter.unusedSimpArgs false
end Go.Proofs.YtmnleabeipmhmaaDoor.P
end
section
namespace Go.Proofs.YtmnleabeipmhmaaDoor.P
open Go.RowKit Go.Proofs.YtmnleabeipmhmaaDoorW.PrintWords Go.Proofs.YtmnleabeipmhmaaDoorW.PrintLast Go.Proofs.YtmnleabeipmhmaaDoorW.PrintMore
attribute [local go_sem] zb0 zbz zcd zce zbr zbs zb1 zb3   -- for this text's walks alone
set_option linter.unusedVariables false
set_option linter.unusedSimpArgs false
end Go.Proofs.YtmnleabeipmhmaaDoor.P
end
section
namespace Go.Proofs.YtmnleabeipmhmaaDoor.P
open Go.RowKit Go.Proofs.YtmnleabeipmhmaaDoorW.PrintWords Go.Proofs.YtmnleabeipmhmaaDoorW.PrintLast Go.Proofs.YtmnleabeipmhmaaDoorW.PrintMore
attribute [local go_sem] zb0 zbz zcd zce zbr zbs zb1 zb3   -- for this text's walks alone
set_option linter.unusedVariables false
set_option linter.unusedSimpArgs false
end Go.Proofs.YtmnleabeipmhmaaDoor.P
end
section
namespace Go.Proofs.YtmnleabeipmhmaaDoor.P
open Go.RowKit Go.Proofs.YtmnleabeipmhmaaDoorW.PrintWords Go.Proofs.YtmnleabeipmhmaaDoorW.PrintLast Go.Proofs.YtmnleabeipmhmaaDoorW.PrintMore
attribute [local go_sem] zb0 zbz zcd zce zbr zbs zb1 zb3   -- for this text's walks alone
set_option linter.unusedVariables false
set_option linter.unusedSimpArgs false
end Go.Proofs.YtmnleabeipmhmaaDoor.P
end
section
set_option linter.unusedVariables false
set_option linter.unusedSimpArgs false
namespace Go.Proofs.YtmnleabeipmhmaaDoor.P
open Go.RowKit Go.Proofs.YtmnleabeipmhmaaDoorW.PrintWords Go.Proofs.YtmnleabeipmhmaaDoorW.PrintLast Go.Proofs.YtmnleabeipmhmaaDoorW.PrintMore
theorem gk_earlier {P : Int} {i : Nat} {g : GT} (h : GK P i g) : earlier g i = true := by
  rcases h with ⟨x, h1, h2, rfl⟩ | ⟨x, h1, h2, rfl⟩ | ⟨K, h1, h2, rfl⟩ | ⟨a, b, h1, h2, rfl⟩ | ⟨a, b, h1, h2, rfl⟩ | ⟨K, a, h1, h2, rfl⟩ | ⟨a, b, h1, h2, rfl⟩
  · simp [earlier, of_in, fIn]
  · simp [earlier, of_bit, fBit]
  · simp [earlier, of_const, zc3]
  · simp [earlier, of_add, fAdd, h1.1, h1.2, h2.1, h2.2]
  · simp [earlier, of_sub, fSub, h1.1, h1.2, h2.1, h2.2]
  · simp [earlier, of_scale, zdf, h2.1, h2.2]
  · simp [earlier, of_mul, fMul, h1.1, h1.2, h2.1, h2.2]
theorem backward_of : ∀ (gs : List GT) (i : Nat), (∀ (j : Nat) (h : j < gs.length), earlier gs[j] (i + j) = true) → backward i gs = true
  | [], _, _ => rfl
  | g :: r, i, h => by
    simp only [backward, Bool.and_eq_true]
    refine ⟨by have := h 0 (by simp); simpa using this, backward_of r (i + 1) (fun j hj => ?_)⟩
    have := h (j + 1) (by simpa using hj)
    rw [show i + 1 + j = i + (j + 1) by omega]
    simpa using this
theorem depth_c {P : Int} {gs : List GT} {os : List Int} (h : GoodC P gs os) : zb7.f P gs os = some (maxAll (deps gs)) := by
  unfold zb7.f
  rw [if_pos ⟨by have := h.n; omega, backward_of gs 0 (fun j hj => by rw [Nat.zero_add]; exact gk_earlier (h.g j hj))⟩]
theorem mul_c (P : Int) (gs : List GT) (os : List Int) : zbx.f P gs os = some ((gs.filter (fun g => g.f0 == 6)).length : Int) := by
  unfold zbx.f; rw [gate_eq, if_pos rfl]
theorem in_c (P : Int) (gs : List GT) (os : List Int) (q : Int) : zba.f P gs os q = some ((gs.filter (fun g => (g.f0 == 1) && (g.f1 == q))).length : Int) := by
  unfold zba.f; rw [gate_eq, if_pos rfl]
theorem valid_c (P : Int) (gs : List GT) (os : List Int) : zbl.f P gs os = some (validF P gs os) := by
  unfold zbl.f; rw [gate_eq, if_pos rfl]
end Go.Proofs.YtmnleabeipmhmaaDoor.P
end
