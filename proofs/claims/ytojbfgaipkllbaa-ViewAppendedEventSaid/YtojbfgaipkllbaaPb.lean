/- What is proved: in plain Lean: what the printed functions on views answer: comparison, first difference, encodings of a coalition. -/
import Derived.Test.YtojbfgaipkllbaaPa
import Derived.Test.YtojbfgaipkllbaaGivb
import Derived.Test.YtojbfgaipkllbaaPx4
import Derived.Test.YtojbfgaipkllbaaPx6
import Derived.Test.YtojbfgaipkllbaaPx7
import Derived.Test.YtojbfgaipkllbaaPx11
import Derived.Test.YtojbfgaipkllbaaPx12
import Derived.Test.YtojbfgaipkllbaaPx13
import Derived.Test.YtojbfgaipkllbaaPx15
import Derived.Test.YtojbfgaipkllbaaPx17
import Derived.Test.YtojbfgaipkllbaaPx20
set_option linter.unusedVariables false
set_option linter.unusedSimpArgs false
namespace Go.Proofs.Ytojbfgaipkllbaa.P
open Go.RowKit Go.Proofs.YtojbfgaipkllbaaW.PrintWords Go.Proofs.YtojbfgaipkllbaaW.PrintLast Go.Proofs.YtojbfgaipkllbaaW.PrintMore

theorem toList_loop (s : ByteArray) (d : Nat) : ∀ (i : Nat) (r : List UInt8), s.size - i = d → ByteArray.toList.loop s i r = r.reverse ++ s.data.toList.drop i := by
  induction d with
  | zero =>
    intro i r h
    rw [ByteArray.toList.loop, if_neg (by omega), List.drop_of_length_le (by rw [Array.length_toList]; show s.size ≤ i; omega), List.append_nil]
  | succ d ih =>
    intro i r h
    have hlt : i < s.size := by omega
    rw [ByteArray.toList.loop, if_pos hlt, ih _ _ (by omega), List.reverse_cons, List.append_assoc]
    rw [List.drop_eq_getElem_cons (show i < s.data.toList.length by rw [Array.length_toList]; exact hlt)]
    simp only [ByteArray.get!]
    rw [getElem!_pos s.data i hlt]
    rfl
theorem toList_eq (s : ByteArray) : s.toList = s.data.toList := by
  rw [ByteArray.toList, toList_loop s _ 0 [] rfl]; simp
theorem toList_mk (l : List UInt8) : (ByteArray.mk l.toArray).toList = l := by rw [toList_eq]

theorem sameLoop (a b : List Int) (hab : a.length = b.length) (hl : a.length ≤ 9223372036854775807) (d : Nat) : ∀ (i : Nat), a.length - i = d → i ≤ a.length → Ev (fun k => privityref05_Same.l0 k a b (i : Int)) (decide (a.drop i = b.drop i)) := by
  induction d with
  | zero =>
    intro i hd hi
    refine Ev.step (fun k => by simp only [privityref05_Same.l0]; rw [if_neg (by omega)]) ?_
    rw [List.drop_of_length_le (by omega), List.drop_of_length_le (by omega)]
    exact Ev.now _
  | succ d ih =>
    intro i hd hi
    have hlt : i < a.length := by omega
    have hlt' : i < b.length := by omega
    rw [List.drop_eq_getElem_cons hlt, List.drop_eq_getElem_cons hlt']
    by_cases he : a[i] = b[i]
    · refine Ev.step (fun k => by simp only [privityref05_Same.l0]; rw [if_pos (by omega), if_pos (by omega), if_pos (by omega), rd_nat _ _ hlt, rd_nat _ _ hlt', if_pos he, wrap_nat hlt hl]) ?_
      have := ih (i + 1) (by omega) (by omega)
      rw [show decide (a[i] :: a.drop (i + 1) = b[i] :: b.drop (i + 1)) = decide (a.drop (i + 1) = b.drop (i + 1)) from by rw [he]; exact decide_eq_decide.2 ⟨fun h => (List.cons.inj h).2, fun h => by rw [h]⟩]
      exact this
    · refine Ev.step (fun k => by simp only [privityref05_Same.l0]; rw [if_pos (by omega), if_pos (by omega), if_pos (by omega), rd_nat _ _ hlt, rd_nat _ _ hlt', if_neg he]) ?_
      rw [show decide (a[i] :: a.drop (i + 1) = b[i] :: b.drop (i + 1)) = false from decide_eq_false fun h => he (List.cons.inj h).1]
      exact Ev.now _
theorem refSame (a b : List Int) (hl : a.length ≤ 9223372036854775807) : Ev (fun k => privityref05_Same.f k a b) (decide (a = b)) := by
  unfold privityref05_Same.f
  by_cases h : a.length = b.length
  · simp only [h, if_true]
    have := sameLoop a b h hl a.length 0 (by omega) (by omega)
    simpa using this
  · have hne : a ≠ b := fun e => h (by rw [e])
    have h' : ¬ ((a.length : Int) = (b.length : Int)) := by omega
    simp only [h', if_false, hne, decide_false]
    exact Ev.now _

theorem eqLoop (a b : List Int) (hab : a.length = b.length) (hl : a.length ≤ 9223372036854775807) (d : Nat) : ∀ (i : Nat), a.length - i = d → i ≤ a.length → Ev (fun k => slices_Equal_uint64_uint64.l0 k a b (a.length : Int) (i : Int)) (decide (a.drop i = b.drop i)) := by
  induction d with
  | zero =>
    intro i hd hi
    refine Ev.step (fun k => by simp only [slices_Equal_uint64_uint64.l0]; rw [if_neg (by omega)]) ?_
    rw [List.drop_of_length_le (by omega), List.drop_of_length_le (by omega)]
    exact Ev.now _
  | succ d ih =>
    intro i hd hi
    have hlt : i < a.length := by omega
    have hlt' : i < b.length := by omega
    rw [List.drop_eq_getElem_cons hlt, List.drop_eq_getElem_cons hlt']
    by_cases he : a[i] = b[i]
    · refine Ev.step (fun k => by simp only [slices_Equal_uint64_uint64.l0]; rw [if_pos (by omega), if_pos (by omega), if_pos (by omega), if_pos (by omega), rd_nat _ _ hlt, rd_nat _ _ hlt', if_pos he, wrap_nat hlt hl]) ?_
      have := ih (i + 1) (by omega) (by omega)
      rw [show decide (a[i] :: a.drop (i + 1) = b[i] :: b.drop (i + 1)) = decide (a.drop (i + 1) = b.drop (i + 1)) from by rw [he]; exact decide_eq_decide.2 ⟨fun h => (List.cons.inj h).2, fun h => by rw [h]⟩]
      exact this
    · refine Ev.step (fun k => by simp only [slices_Equal_uint64_uint64.l0]; rw [if_pos (by omega), if_pos (by omega), if_pos (by omega), if_pos (by omega), rd_nat _ _ hlt, rd_nat _ _ hlt', if_neg he]) ?_
      rw [show decide (a[i] :: a.drop (i + 1) = b[i] :: b.drop (i + 1)) = false from decide_eq_false fun h => he (List.cons.inj h).1]
      exact Ev.now _
theorem slEqual (a b : List Int) (hl : a.length ≤ 9223372036854775807) : Ev (fun k => slices_Equal_uint64_uint64.f k a b) (decide (a = b)) := by
  unfold slices_Equal_uint64_uint64.f
  by_cases h : a.length = b.length
  · have h' : (a.length : Int) = (b.length : Int) := by omega
    simp only [h', if_true]
    have := eqLoop a b h hl a.length 0 (by omega) (by omega)
    rw [h'] at this
    simpa using this
  · have hne : a ≠ b := fun e => h (by rw [e])
    have h' : ¬ ((a.length : Int) = (b.length : Int)) := by omega
    simp only [h', if_false, hne, decide_false]
    exact Ev.now _

abbrev Ve := S36
/-- Two events are equal. -/
def evs (x y : Ve) : Bool := decide (x.f0 = y.f0 ∧ x.f1 = y.f1 ∧ x.f2 = y.f2)
theorem evs_iff (x y : Ve) : evs x y = true ↔ x = y := by
  cases x; cases y; simp [evs]
theorem alike_ev (x y : Ve) (hl : x.f2.length ≤ 9223372036854775807) : Ev (fun k => view_alike.f k x.f0 x.f1 x.f2 y.f0 y.f1 y.f2) (evs x y) := by
  unfold view_alike.f evs
  by_cases h0 : x.f0 = y.f0
  · by_cases h1 : x.f1 = y.f1
    · simp only [h0, h1, if_true, true_and]
      exact Ev.bind (slEqual _ _ hl) (Ev.now _)
    · simp only [h0, h1, if_true, if_false, true_and, false_and, decide_false]
      exact Ev.now _
  · simp only [h0, if_false, false_and, decide_false]
    exact Ev.now _
theorem sameEvent_ev (x y : Ve) (hl : x.f2.length ≤ 9223372036854775807) : Ev (fun k => privityref15_SameEvent.f k x.f0 x.f1 x.f2 y.f0 y.f1 y.f2) (evs x y) := by
  unfold privityref15_SameEvent.f evs
  by_cases h0 : x.f0 = y.f0
  · by_cases h1 : x.f1 = y.f1
    · simp only [h0, h1, if_true, true_and]
      exact Ev.bind (refSame _ _ hl) (Ev.now _)
    · simp only [h0, h1, if_true, if_false, true_and, false_and, decide_false]
      exact Ev.now _
  · simp only [h0, if_false, false_and, decide_false]
    exact Ev.now _

theorem rdT (l : List Ve) (i : Nat) (h : i < l.length) : rd_T36 l (i : Int) = l[i] := by simp [rd_T36, h]

/-- How many events agree from the begin on. -/
def cp : List Ve → List Ve → Nat
  | x :: a, y :: b => if evs x y = true then cp a b + 1 else 0
  | _, _ => 0
def fdAt (a b : List Ve) (i : Nat) : Int := if i + cp (a.drop i) (b.drop i) = a.length ∧ a.length = b.length then -1 else ((i + cp (a.drop i) (b.drop i) : Nat) : Int)
def fd (a b : List Ve) : Int := fdAt a b 0
theorem cp_nil_l (b : List Ve) : cp [] b = 0 := by cases b <;> rfl
theorem cp_nil_r (a : List Ve) : cp a [] = 0 := by cases a <;> rfl
theorem cp_le (a : List Ve) : ∀ b, cp a b ≤ a.length ∧ cp a b ≤ b.length := by
  induction a with
  | nil => intro b; rw [cp_nil_l]; simp
  | cons x a ih =>
    intro b
    cases b with
    | nil => rw [cp_nil_r]; simp
    | cons y b =>
      rw [cp]
      split
      · have := ih b; simp; omega
      · simp
theorem fdAt_end (a b : List Ve) (i : Nat) (h : i = a.length ∨ i = b.length) (ha : i ≤ a.length) (hb : i ≤ b.length) : fdAt a b i = if a.length = b.length then -1 else (i : Int) := by
  have h0 : cp (a.drop i) (b.drop i) = 0 := by
    rcases h with h | h
    · rw [List.drop_of_length_le (l := a) (by omega), cp_nil_l]
    · rw [List.drop_of_length_le (l := b) (by omega), cp_nil_r]
  unfold fdAt
  rw [h0]
  by_cases e : a.length = b.length
  · rw [if_pos ⟨by omega, e⟩, if_pos e]
  · rw [if_neg (fun h => e h.2), if_neg e]; rfl
theorem fdAt_yes (a b : List Ve) (i : Nat) (ha : i < a.length) (hb : i < b.length) (h : evs a[i] b[i] = true) : fdAt a b i = fdAt a b (i + 1) := by
  unfold fdAt
  rw [List.drop_eq_getElem_cons ha, List.drop_eq_getElem_cons hb, cp, if_pos h, show i + (cp (a.drop (i + 1)) (b.drop (i + 1)) + 1) = i + 1 + cp (a.drop (i + 1)) (b.drop (i + 1)) from by omega]
theorem fdAt_no (a b : List Ve) (i : Nat) (ha : i < a.length) (hb : i < b.length) (h : ¬ evs a[i] b[i] = true) : fdAt a b i = (i : Int) := by
  unfold fdAt
  rw [List.drop_eq_getElem_cons ha, List.drop_eq_getElem_cons hb, cp, if_neg h, if_neg (fun h => by omega)]; rfl

def Fits (a : List Ve) : Prop := a.length ≤ 9223372036854775807 ∧ ∀ e ∈ a, e.f2.length ≤ 9223372036854775807

theorem fdLoop (a b : List Ve) (ha : Fits a) (hb : b.length ≤ 9223372036854775807) (d : Nat) : ∀ (i : Nat), min a.length b.length - i = d → i ≤ a.length → i ≤ b.length →
    Ev (fun k => view_FirstDifference.l0 k a b ((min a.length b.length : Nat) : Int) ((min a.length b.length : Nat) : Int) (i : Int)) (fdAt a b i) := by
  induction d with
  | zero =>
    intro i hd hia hib
    rw [fdAt_end a b i (by omega) hia hib]
    refine Ev.step (fun k => by simp only [view_FirstDifference.l0]; rw [if_neg (by omega)]) ?_
    by_cases e : a.length = b.length
    · have e' : (a.length : Int) = (b.length : Int) := by omega
      simp only [e, if_true]
      exact Ev.now _
    · have e' : ¬ ((a.length : Int) = (b.length : Int)) := by omega
      simp only [e, e', if_false]
      rw [show min a.length b.length = i from by omega]
      exact Ev.now _
  | succ d ih =>
    intro i hd hia hib
    have h1 : i < a.length := by omega
    have h2 : i < b.length := by omega
    refine Ev.step (fun k => by simp only [view_FirstDifference.l0]; rw [if_pos (by omega), if_pos (by omega), if_pos (by omega), if_pos (by omega), rdT _ _ h1, rdT _ _ h2]) ?_
    refine Ev.bind (alike_ev _ _ (ha.2 _ (List.getElem_mem h1))) ?_
    by_cases he : evs a[i] b[i] = true
    · simp only [he, if_true]
      rw [fdAt_yes a b i h1 h2 he, show (fun n => view_FirstDifference.l0 n a b ((min a.length b.length : Nat) : Int) ((min a.length b.length : Nat) : Int) (wrap64 ((i : Int) + 1))) = (fun n => view_FirstDifference.l0 n a b ((min a.length b.length : Nat) : Int) ((min a.length b.length : Nat) : Int) ((i + 1 : Nat) : Int)) from by rw [wrap_nat h1 ha.1]]
      exact ih (i + 1) (by omega) (by omega) (by omega)
    · simp only [he]
      rw [fdAt_no a b i h1 h2 he]
      exact Ev.now _
theorem fd_ev (a b : List Ve) (ha : Fits a) (hb : b.length ≤ 9223372036854775807) : Ev (fun k => view_FirstDifference.f k a b) (fd a b) := by
  have := fdLoop a b ha hb (min a.length b.length) 0 (by omega) (by omega) (by omega)
  unfold view_FirstDifference.f
  rw [show mn (a.length : Int) (b.length : Int) = ((min a.length b.length : Nat) : Int) from by unfold mn; split <;> omega]
  exact this

theorem rfdLoop (a b : List Ve) (ha : Fits a) (hb : b.length ≤ 9223372036854775807) (d : Nat) : ∀ (i : Nat), min a.length b.length - i = d → i ≤ a.length → i ≤ b.length →
    Ev (fun k => privityref15_FirstDifference.l0 k a b (i : Int)) (fdAt a b i) := by
  induction d with
  | zero =>
    intro i hd hia hib
    rw [fdAt_end a b i (by omega) hia hib]
    have hj : Ev (fun k => privityref15_FirstDifference.j1 k a b (i : Int) false) (if a.length = b.length then -1 else (i : Int)) := by
      refine Ev.step (fun k => by simp only [privityref15_FirstDifference.j1, Bool.false_eq_true, if_false]; rfl) ?_
      by_cases e : a.length = b.length
      · have e' : (a.length : Int) = (b.length : Int) := by omega
        simp only [e, if_true]
        exact Ev.now _
      · have e' : ¬ ((a.length : Int) = (b.length : Int)) := by omega
        simp only [e, e', if_false]
        by_cases hlt : (a.length : Int) < (b.length : Int)
        · simp only [hlt, if_true]
          rw [show i = a.length from by omega]
          exact Ev.now _
        · simp only [hlt, if_false]
          rw [show i = b.length from by omega]
          exact Ev.now _
    by_cases h1 : (i : Int) < (a.length : Int)
    · refine Ev.step (fun k => by simp only [privityref15_FirstDifference.l0]; rw [if_pos h1, decide_eq_false (show ¬ (i : Int) < (b.length : Int) by omega)]) hj
    · refine Ev.step (fun k => by simp only [privityref15_FirstDifference.l0]; rw [if_neg h1]) hj
  | succ d ih =>
    intro i hd hia hib
    have h1 : i < a.length := by omega
    have h2 : i < b.length := by omega
    refine Ev.step (fun k => by simp only [privityref15_FirstDifference.l0]; rw [if_pos (by omega), decide_eq_true (show (i : Int) < (b.length : Int) by omega)]) ?_
    refine Ev.step (fun k => by simp only [privityref15_FirstDifference.j1, if_true]; rw [if_pos (by omega), if_pos (by omega), if_pos (by omega), rdT _ _ h1, rdT _ _ h2]) ?_
    refine Ev.bind (sameEvent_ev _ _ (ha.2 _ (List.getElem_mem h1))) ?_
    by_cases he : evs a[i] b[i] = true
    · simp only [he, if_true]
      rw [fdAt_yes a b i h1 h2 he, wrap_nat h1 ha.1]
      exact ih (i + 1) (by omega) (by omega) (by omega)
    · simp only [he]
      rw [fdAt_no a b i h1 h2 he]
      exact Ev.now _
theorem rfd_ev (a b : List Ve) (ha : Fits a) (hb : b.length ≤ 9223372036854775807) : Ev (fun k => privityref15_FirstDifference.f k a b) (fd a b) :=
  rfdLoop a b ha hb (min a.length b.length) 0 (by omega) (by omega) (by omega)

theorem cp_comm (a : List Ve) : ∀ b, cp a b = cp b a := by
  induction a with
  | nil => intro b; rw [cp_nil_l, cp_nil_r]
  | cons x a ih =>
    intro b
    cases b with
    | nil => rw [cp_nil_l, cp_nil_r]
    | cons y b =>
      rw [cp, cp, ih b]
      have : evs x y = evs y x := by
        rw [Bool.eq_iff_iff, evs_iff, evs_iff]; exact eq_comm
      rw [this]
theorem fd_comm (a b : List Ve) : fd a b = fd b a := by
  unfold fd fdAt
  simp only [List.drop_zero, Nat.zero_add, cp_comm b a]
  by_cases h : a.length = b.length
  · simp [h]
  · rw [if_neg (fun x => h x.2), if_neg (fun x => h x.2.symm)]
theorem cp_self (a : List Ve) : cp a a = a.length := by
  induction a with
  | nil => rfl
  | cons x a ih => rw [cp, if_pos ((evs_iff x x).2 rfl), ih]; rfl
theorem cp_full (a : List Ve) : ∀ b, cp a b = a.length → a.length = b.length → a = b := by
  induction a with
  | nil => intro b _ h; cases b with
    | nil => rfl
    | cons y b => simp at h
  | cons x a ih =>
    intro b h h'
    cases b with
    | nil => simp at h'
    | cons y b =>
      rw [cp] at h
      split at h
      · next he => rw [(evs_iff x y).1 he, ih b (by simpa using h) (by simpa using h')]
      · simp at h
theorem fd_eq (a b : List Ve) : fd a b = -1 ↔ a = b := by
  unfold fd fdAt
  simp only [List.drop_zero, Nat.zero_add]
  constructor
  · intro h
    split at h
    · next h' => exact cp_full a b h'.1 h'.2
    · omega
  · rintro rfl
    rw [cp_self, if_pos ⟨rfl, rfl⟩]
theorem fd_neg (a b : List Ve) : fd a b < 0 ↔ a = b := by
  rw [← fd_eq]
  unfold fd fdAt
  split <;> omega
theorem same_ev (a b : List Ve) (ha : Fits a) (hb : b.length ≤ 9223372036854775807) : Ev (fun k => privityref15_Same.f k a b) (decide (fd a b < 0)) := by
  unfold privityref15_Same.f
  exact Ev.bind (rfd_ev a b ha hb) (Ev.now _)

end Go.Proofs.Ytojbfgaipkllbaa.P
