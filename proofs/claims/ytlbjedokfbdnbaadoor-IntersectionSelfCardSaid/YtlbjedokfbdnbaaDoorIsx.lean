/- What is proved: in plain Lean: the five laws on intersections answer true. -/
import Derived.Test.YtlbjedokfbdnbaaDoorIsw
import Derived.Test.YtlbjedokfbdnbaaDoorPx9
import Derived.Test.YtlbjedokfbdnbaaDoorPx10
import Derived.Test.YtlbjedokfbdnbaaDoorPx12
import Derived.Test.YtlbjedokfbdnbaaDoorPx13
import Derived.Test.YtlbjedokfbdnbaaDoorPx14
set_option linter.unusedVariables false
set_option linter.unusedSimpArgs false
namespace Go.Proofs.YtlbjedokfbdnbaaDoor.P
open Go.RowKit Go.Proofs.YtlbjedokfbdnbaaDoorW.PrintWords Go.Proofs.YtlbjedokfbdnbaaDoorW.PrintLast Go.Proofs.YtlbjedokfbdnbaaDoorW.PrintMore

theorem has_go (y : List Int) (a : Int) (hl : y.length ≤ 9223372036854775807) (d : Nat) : ∀ i : Nat, y.length - i = d → i ≤ y.length → Ev (fun k => privityref52_has.l0 k y a (i : Int)) (decide (a ∈ y.drop i)) := by
  induction d with
  | zero =>
    intro i hd hi
    obtain rfl : i = y.length := by omega
    rw [List.drop_length]
    exact Ev.step (f := fun _ => some false) (fun k => by simp only [privityref52_has.l0]; rw [if_neg (by omega)]) (Ev.now _)
  | succ d ih =>
    intro i hd hi
    have hlt : i < y.length := by omega
    have h1 := ih (i + 1) (by omega) (by omega)
    rw [List.drop_eq_getElem_cons hlt]
    by_cases hc : y[i] = a
    · rw [show decide (a ∈ y[i] :: y.drop (i + 1)) = true from decide_eq_true (by rw [hc]; exact List.mem_cons_self)]
      exact Ev.step (f := fun _ => some true) (fun k => by simp only [privityref52_has.l0]; rw [if_pos (by omega), if_pos (by omega), rd_nat _ _ hlt, if_pos hc]) (Ev.now _)
    · rw [show decide (a ∈ y[i] :: y.drop (i + 1)) = decide (a ∈ y.drop (i + 1)) from decide_eq_decide.2 ⟨fun h => (List.mem_cons.1 h).resolve_left (fun e => hc e.symm), fun h => List.mem_cons_of_mem _ h⟩]
      exact Ev.step (fun k => by simp only [privityref52_has.l0]; rw [if_pos (by omega), if_pos (by omega), rd_nat _ _ hlt, if_neg hc, wrap_nat hlt hl]) h1
theorem has_ev (y : List Int) (a : Int) (hl : y.length ≤ 9223372036854775807) : Ev (fun k => privityref52_has.f k y a) (decide (a ∈ y)) := has_go y a hl y.length 0 (by omega) (by omega)

theorem ref_go (x y : List Int) (hx : x.length ≤ 1000000) (hy : y.length ≤ 9223372036854775807) (d : Nat) : ∀ i : Nat, x.length - i = d → i ≤ x.length →
    Ev (fun k => privityref52_Intersect.l0 k x y (marks (x.take i) y) (cnt (x.take i) y : Int) (i : Int)) (inter x y) := by
  induction d with
  | zero =>
    intro i hd hi
    obtain rfl : i = x.length := by omega
    rw [List.take_length]
    exact Ev.step (f := fun _ => some (inter x y)) (fun k => by simp only [privityref52_Intersect.l0]; rw [if_neg (by omega), if_pos (by rw [marks_length]; omega)]; rfl) (Ev.now _)
  | succ d ih =>
    intro i hd hi
    have hlt : i < x.length := by omega
    have h1 := ih (i + 1) (by omega) (by omega)
    rw [List.take_succ_eq_append_getElem hlt, marks_append, cnt_append] at h1
    have hc := cnt_le (x.take i) y
    rw [List.length_take] at hc
    refine Ev.step (f := fun k => (privityref52_has.f k y x[i]).bind fun t145 => (if t145 = true then (if (marks (x.take i) y).length < 17592186044416 then (privityref52_Intersect.l0 k x y (marks (x.take i) y ++ [1]) (IntKind.u64.wrap ((cnt (x.take i) y : Int) + 1)) ((i + 1 : Nat) : Int)) else (none)) else (if (marks (x.take i) y).length < 17592186044416 then (privityref52_Intersect.l0 k x y (marks (x.take i) y ++ [0]) (cnt (x.take i) y : Int) ((i + 1 : Nat) : Int)) else (none)))) (fun k => by
      simp only [privityref52_Intersect.l0]; rw [if_pos (by omega), if_pos (by omega), rd_nat _ _ hlt, wrap_nat hlt (by omega)]) ?_
    refine Ev.bind (has_ev y x[i] hy) ?_
    have hm : (marks (x.take i) y).length < 17592186044416 := by rw [marks_length, List.length_take]; omega
    by_cases hmem : x[i] ∈ y
    · refine Ev.congr (fun k => by rw [if_pos (by simpa using hmem), if_pos hm, show IntKind.u64.wrap ((cnt (x.take i) y : Int) + 1) = ((cnt (x.take i) y + cnt [x[i]] y : Nat) : Int) from by simp [cnt, hmem, IntKind.wrap, IntKind.bits, IntKind.signed] at hc ⊢; omega]) ?_
      rw [show marks [x[i]] y = [1] from by simp [marks, hmem]] at h1
      exact h1
    · refine Ev.congr (fun k => by rw [if_neg (by simpa using hmem), if_pos hm, show (cnt (x.take i) y : Int) = ((cnt (x.take i) y + cnt [x[i]] y : Nat) : Int) from by simp [cnt, hmem]]) ?_
      rw [show marks [x[i]] y = [0] from by simp [marks, hmem]] at h1
      exact h1
theorem ref_ev (x y : List Int) (hx : x.length ≤ 1000000) (hy : y.length ≤ 9223372036854775807) : Ev (fun k => privityref52_Intersect.f k x y) (inter x y) := ref_go x y hx hy x.length 0 (by omega) (by omega)

theorem intersectLaw (x y : List Int) : Ev (fun k => privitylaw52_IntersectionIntersect.f k x y) true := by
  have far : Ev (fun k => privitylaw52_IntersectionIntersect.j0 k x y true) true := Ev.step (fun k => by simp only [privitylaw52_IntersectionIntersect.j0]; rw [if_pos trivial]) (Ev.bind awake_ev (Ev.now _))
  unfold privitylaw52_IntersectionIntersect.f
  by_cases h : (x.length : Int) > 40
  · exact Ev.congr (fun k => by rw [if_pos h]) far
  · by_cases h2 : (y.length : Int) > 40
    · exact Ev.congr (fun k => by rw [if_neg h, decide_eq_true h2]) far
    · refine Ev.congr (fun k => by rw [if_neg h, decide_eq_false h2]) ?_
      refine Ev.step (fun k => by simp only [privitylaw52_IntersectionIntersect.j0]; rw [if_neg (by decide)]) (Ev.bind awake_ev ?_)
      simp only [if_true]
      refine Ev.bind (inter_ev x y (by omega) (by omega)) (Ev.bind (ref_ev x y (by omega) (by omega)) ?_)
      have s := same_ev (inter x y) (inter x y) (by rw [inter_length]; omega)
      rw [decide_eq_true rfl] at s
      exact Ev.bind s (Ev.now _)

theorem inter_congr (x y z : List Int) (h : ∀ a, a ∈ z ↔ a ∈ y) : inter x z = inter x y := by
  unfold inter marks cnt
  rw [show (fun a => decide (a ∈ z)) = (fun a => decide (a ∈ y)) from funext fun a => decide_eq_decide.2 (h a)]
  congr 1
  apply List.map_congr_left
  intro a _
  simp [h a]

theorem order_go (x y : List Int) (hx : x.length ≤ 40) (hy : y.length ≤ 20) (m : Nat) : ∀ acc : List Int, m ≤ y.length → acc.length = 2 * (y.length - m) → (∀ a, a ∈ acc ↔ a ∈ y.drop m) →
    Ev (fun k => privitylaw52_IntersectionOrderIrrelevant.l0 k x y acc ((m : Int) - 1)) true := by
  induction m with
  | zero =>
    intro acc hm hl ha
    refine Ev.step (fun k => by simp only [privitylaw52_IntersectionOrderIrrelevant.l0]; rw [if_neg (by omega)]) (Ev.bind awake_ev ?_)
    simp only [if_true]
    refine Ev.bind (inter_ev x y (by omega) (by omega)) (Ev.bind (inter_ev x acc (by omega) (by omega)) ?_)
    rw [inter_congr x y acc (by simpa using ha)]
    have s := same_ev (inter x y) (inter x y) (by rw [inter_length]; omega)
    rw [decide_eq_true rfl] at s
    exact Ev.bind s (Ev.now _)
  | succ m ih =>
    intro acc hm hl ha
    have hlt : m < y.length := by omega
    refine Ev.step (f := fun k => privitylaw52_IntersectionOrderIrrelevant.l0 k x y (acc ++ [y[m], y[m]]) ((m : Int) - 1)) (fun k => by
      simp only [privitylaw52_IntersectionOrderIrrelevant.l0]
      rw [show (((m + 1 : Nat) : Int) - 1) = (m : Int) from by omega, if_pos (by omega), if_pos (by omega), if_pos (by omega), rd_nat _ _ hlt]
      simp only [Option.bind_some]
      rw [if_pos (by simp; omega), show wrap64 ((m : Int) - 1) = (m : Int) - 1 from by unfold wrap64; omega]) (ih (acc ++ [y[m], y[m]]) (by omega) (by simp only [List.length_append, List.length_cons, List.length_nil]; omega) ?_)
    intro a
    rw [List.drop_eq_getElem_cons hlt, List.mem_append, ha]
    simp only [List.mem_cons, List.not_mem_nil, or_false, or_self]
    exact Or.comm

theorem orderLaw (x y : List Int) : Ev (fun k => privitylaw52_IntersectionOrderIrrelevant.f k x y) true := by
  have far : Ev (fun k => privitylaw52_IntersectionOrderIrrelevant.j0 k x y true) true := Ev.step (fun k => by simp only [privitylaw52_IntersectionOrderIrrelevant.j0]; rw [if_pos trivial]) (Ev.bind awake_ev (Ev.now _))
  unfold privitylaw52_IntersectionOrderIrrelevant.f
  by_cases h : (x.length : Int) > 40
  · exact Ev.congr (fun k => by rw [if_pos h]) far
  · by_cases h2 : (y.length : Int) > 20
    · exact Ev.congr (fun k => by rw [if_neg h, decide_eq_true h2]) far
    · refine Ev.congr (fun k => by rw [if_neg h, decide_eq_false h2]) ?_
      refine Ev.step (fun k => by simp only [privitylaw52_IntersectionOrderIrrelevant.j0]; rw [if_neg (by decide), show wrap64 ((y.length : Int) - 1) = (y.length : Int) - 1 from by unfold wrap64; omega]) ?_
      exact order_go x y (by omega) (by omega) y.length [] (by omega) (by simp) (by simp)

theorem nodup_le {l : List Int} (h : l.Nodup) : ∀ {m : List Int}, (∀ a ∈ l, a ∈ m) → l.length ≤ m.length := by
  induction l with
  | nil => intro m _; simp
  | cons a l ih =>
    intro m hs
    obtain ⟨hn, hd⟩ := List.nodup_cons.1 h
    have h1 := ih hd (m := m.erase a) (fun b hb => (List.mem_erase_of_ne (fun e => hn (by rw [← e]; exact hb))).2 (hs b (List.mem_cons_of_mem _ hb)))
    have h2 := List.length_erase_of_mem (hs a List.mem_cons_self)
    have h3 : 0 < m.length := List.length_pos_of_mem (hs a List.mem_cons_self)
    simp only [List.length_cons]
    omega
theorem cnt_symm {x y : List Int} (hx : x.Nodup) (hy : y.Nodup) : cnt x y = cnt y x := by
  have k1 : cnt x y ≤ cnt y x := nodup_le (hx.filter _) (fun a ha => by simp only [List.mem_filter, decide_eq_true_eq] at ha ⊢; exact ⟨ha.2, ha.1⟩)
  have k2 : cnt y x ≤ cnt x y := nodup_le (hy.filter _) (fun a ha => by simp only [List.mem_filter, decide_eq_true_eq] at ha ⊢; exact ⟨ha.2, ha.1⟩)
  omega

theorem once_go (l : List Int) (hl : l.length ≤ 40) (d : Nat) : ∀ i : Nat, l.length - i = d → i ≤ l.length → (l.take i).Nodup → ∃ b, Ev (fun k => privityref52_Once.l0 k l (i : Int)) b ∧ (b = true → l.Nodup) := by
  induction d with
  | zero =>
    intro i hd hi hn
    obtain rfl : i = l.length := by omega
    rw [List.take_length] at hn
    exact ⟨true, Ev.step (f := fun _ => some true) (fun k => by simp only [privityref52_Once.l0]; rw [if_neg (by omega)]) (Ev.now _), fun _ => hn⟩
  | succ d ih =>
    intro i hd hi hn
    have hlt : i < l.length := by omega
    have hst : ∀ k, privityref52_Once.l0 (k + 1) l (i : Int) = (privityref52_has.f k (l.take i) l[i]).bind fun t183 => (if t183 = true then (some false) else (privityref52_Once.l0 k l ((i + 1 : Nat) : Int))) := fun k => by
      simp only [privityref52_Once.l0]; rw [if_pos (by omega), if_pos (by omega), if_pos (by omega), rd_nat _ _ hlt, wrap_nat hlt (by omega), Int.toNat_natCast]
    have hh := has_ev (l.take i) l[i] (by rw [List.length_take]; omega)
    by_cases hm : l[i] ∈ l.take i
    · refine ⟨false, Ev.step hst (Ev.bind hh ?_), fun e => by cases e⟩
      rw [decide_eq_true hm]; simp only [if_true]; exact Ev.now _
    · obtain ⟨b, h1, h2⟩ := ih (i + 1) (by omega) (by omega) (by
        rw [List.take_succ_eq_append_getElem hlt, List.nodup_append]
        exact ⟨hn, by simp, fun a ha b hb e => hm (by rw [List.mem_singleton] at hb; rw [← hb, ← e]; exact ha)⟩)
      refine ⟨b, Ev.step hst (Ev.bind hh ?_), h2⟩
      rw [decide_eq_false hm]; simp only [Bool.false_eq_true, if_false]; exact h1

theorem symmetricLaw (x y : List Int) : Ev (fun k => privitylaw52_IntersectionSymmetric.f k x y) true := by
  have far : Ev (fun k => privitylaw52_IntersectionSymmetric.j0 k x y true) true := Ev.step (fun k => by simp only [privitylaw52_IntersectionSymmetric.j0]; rw [if_pos trivial]) (Ev.bind awake_ev (Ev.now _))
  unfold privitylaw52_IntersectionSymmetric.f
  by_cases h : (x.length : Int) > 40
  · exact Ev.congr (fun k => by rw [if_pos h]) far
  · by_cases h2 : (y.length : Int) > 40
    · exact Ev.congr (fun k => by rw [if_neg h, if_pos h2]) far
    · refine Ev.congr (fun k => by rw [if_neg h, if_neg h2]) ?_
      obtain ⟨b, b1, b2⟩ := once_go x (by omega) x.length 0 (by omega) (by omega) (by simp)
      obtain ⟨c, c1, c2⟩ := once_go y (by omega) y.length 0 (by omega) (by omega) (by simp)
      refine Ev.bind (a := b) b1 ?_
      cases b with
      | false => exact Ev.congr (fun k => by rw [if_neg (by decide)]) far
      | true =>
        replace c1 : Ev (fun k => privityref52_Once.f k y) c := c1
        simp only [if_true]
        refine Ev.bind (a := c) c1 ?_
        cases c with
        | false => exact far
        | true =>
          refine Ev.step (fun k => by simp only [privitylaw52_IntersectionSymmetric.j0]; rw [if_neg (by decide)]) (Ev.bind (inter_ev x y (by omega) (by omega)) (Ev.bind (inter_ev y x (by omega) (by omega)) ?_))
          refine Ev.congr (fun k => by
            rw [if_pos (by rw [inter_length, wrap_nat (n := x.length + 1) (by omega) (by omega)]), if_pos (by rw [inter_length, wrap_nat (n := y.length + 1) (by omega) (by omega)])]) (Ev.bind awake_ev ?_)
          simp only [if_true]
          refine Ev.congr (fun k => by rw [if_pos (by omega), if_pos (by rw [inter_length]; omega), if_pos (by omega), if_pos (by rw [inter_length]; omega), inter_last, inter_last, cnt_symm (b2 rfl) (c2 rfl)]) ?_
          simp; exact Ev.now _

theorem concatLaw (x m y : List Int) : Ev (fun k => privitylaw52_IntersectionConcatenation.f k x m y) true := by
  have far : Ev (fun k => privitylaw52_IntersectionConcatenation.j0 k x m y true) true := Ev.step (fun k => by simp only [privitylaw52_IntersectionConcatenation.j0]; rw [if_pos trivial]) (Ev.bind awake_ev (Ev.now _))
  unfold privitylaw52_IntersectionConcatenation.f
  by_cases h : (x.length : Int) > 20
  · exact Ev.congr (fun k => by rw [if_pos h]) far
  · by_cases h1 : (m.length : Int) > 20
    · exact Ev.congr (fun k => by rw [if_neg h, if_pos h1]) far
    · by_cases h2 : (y.length : Int) > 40
      · exact Ev.congr (fun k => by rw [if_neg h, if_neg h1, decide_eq_true h2]) far
      · refine Ev.congr (fun k => by rw [if_neg h, if_neg h1, decide_eq_false h2]) ?_
        refine Ev.step (fun k => by simp only [privitylaw52_IntersectionConcatenation.j0]; rw [if_neg (by decide)]) (Ev.bind (inter_ev x y (by omega) (by omega)) (Ev.bind (inter_ev m y (by omega) (by omega)) ?_))
        refine Ev.congr (fun k => by
          simp only [Option.bind_some, List.nil_append, List.length_nil]
          rw [if_pos (by omega), if_pos (by omega)]) (Ev.bind (inter_ev (x ++ m) y (by rw [List.length_append]; omega) (by omega)) ?_)
        refine Ev.congr (fun k => by
          rw [if_pos (by rw [inter_length, wrap_nat (n := x.length + 1) (by omega) (by omega)]), show (((inter m y).length : Int) != wrap64 ((m.length : Int) + 1)) = false from bne_eq_false_iff_eq.2 (by rw [inter_length, wrap_nat (n := m.length + 1) (by omega) (by omega)])]) ?_
        have t1 : (inter x y).take x.length = marks x y := by unfold inter; exact List.take_left' (marks_length x y)
        have t2 : (inter m y).take m.length = marks m y := by unfold inter; exact List.take_left' (marks_length m y)
        refine Ev.step (f := fun k => (privitylaw52_awake.f k).bind fun t232 => (if t232 = true then ((privityref03_Same.f k (inter (x ++ m) y) (marks x y ++ marks m y ++ [IntKind.u64.wrap ((cnt x y : Int) + (cnt m y : Int))])).bind fun t238 => (some t238)) else (some false))) (fun k => by
          simp only [privitylaw52_IntersectionConcatenation.j1]
          rw [if_neg (by decide)]
          simp only [Option.bind_some, List.nil_append, List.length_nil, Int.toNat_natCast, t1, t2, marks_length, inter_length, inter_last, List.length_append]
          rw [if_pos (by omega), if_pos (by omega), if_pos (by omega), if_pos (by omega), if_pos (by omega), if_pos (by omega), if_pos (by omega), if_pos (by omega), if_pos (by omega)]) (Ev.bind awake_ev ?_)
        simp only [if_true]
        have e : marks x y ++ marks m y ++ [IntKind.u64.wrap ((cnt x y : Int) + (cnt m y : Int))] = inter (x ++ m) y := by
          have q1 := cnt_le x y; have q2 := cnt_le m y
          unfold inter
          rw [marks_append, cnt_append, show IntKind.u64.wrap ((cnt x y : Int) + (cnt m y : Int)) = ((cnt x y + cnt m y : Nat) : Int) from by simp [IntKind.wrap, IntKind.bits, IntKind.signed]; omega]
        rw [e]
        have s := same_ev (inter (x ++ m) y) (inter (x ++ m) y) (by rw [inter_length, List.length_append]; omega)
        rw [decide_eq_true rfl] at s
        exact Ev.bind s (Ev.now _)

theorem cnt_self (x : List Int) : cnt x x = x.length := by
  unfold cnt
  rw [List.filter_eq_self.2 (fun a ha => decide_eq_true ha)]
theorem cnt_zero (x y : List Int) : cnt x y = 0 ↔ ∀ a ∈ x, a ∉ y := by
  unfold cnt
  rw [List.length_eq_zero_iff, List.filter_eq_nil_iff]
  simp

theorem self_in (x y : List Int) (hx : x.length ≤ 40) (hy : y.length ≤ 40) (i : Nat) (hi : i < x.length) (d : Nat) : ∀ (n : Nat) (a : Bool), y.length - n = d → n ≤ y.length →
    Ev (fun k => privitylaw52_IntersectionSelf.l0 k x y (a && decide (x[i] ∉ y.drop n)) ((i + 1 : Nat) : Int)) true → Ev (fun k => privitylaw52_IntersectionSelf.l1 k x y a (i : Int) (n : Int)) true := by
  induction d with
  | zero =>
    intro n a hd hn hK
    obtain rfl : n = y.length := by omega
    rw [List.drop_length] at hK
    refine Ev.step (fun k => by simp only [privitylaw52_IntersectionSelf.l1]; rw [if_neg (by omega), wrap_nat hi (by omega)]) ?_
    simpa using hK
  | succ d ih =>
    intro n a hd hn hK
    have hlt : n < y.length := by omega
    have e : decide (x[i] ∉ y.drop n) = (decide (x[i] ≠ y[n]) && decide (x[i] ∉ y.drop (n + 1))) := by
      rw [List.drop_eq_getElem_cons hlt, Bool.eq_iff_iff]
      simp only [decide_eq_true_eq, Bool.and_eq_true, List.mem_cons, not_or, ne_eq]
    rw [e, ← Bool.and_assoc] at hK
    have h1 := ih (n + 1) (a && decide (x[i] ≠ y[n])) (by omega) (by omega) hK
    cases a with
    | false =>
      refine Ev.step (fun k => by simp only [privitylaw52_IntersectionSelf.l1]; rw [if_pos (by omega), if_neg (by decide), wrap_nat hlt (by omega)]) ?_
      simpa using h1
    | true =>
      refine Ev.step (fun k => by simp only [privitylaw52_IntersectionSelf.l1]; rw [if_pos (by omega), if_pos trivial, if_pos (by omega), if_pos (by omega), if_pos (by omega), rd_nat _ _ hi, rd_nat _ _ hlt, wrap_nat hlt (by omega)]) ?_
      rw [show (x[i] != y[n]) = (true && decide (x[i] ≠ y[n])) from by by_cases q : x[i] = y[n] <;> simp [q]]
      exact h1

theorem self_out (x y : List Int) (hx : x.length ≤ 40) (hy : y.length ≤ 40) (d : Nat) : ∀ (i : Nat) (a : Bool), x.length - i = d → i ≤ x.length → (a = true ↔ ∀ b ∈ x.take i, b ∉ y) → Ev (fun k => privitylaw52_IntersectionSelf.l0 k x y a (i : Int)) true := by
  induction d with
  | zero =>
    intro i a hd hi ha
    obtain rfl : i = x.length := by omega
    rw [List.take_length, ← cnt_zero] at ha
    refine Ev.step (fun k => by simp only [privitylaw52_IntersectionSelf.l0]; rw [if_neg (by omega)]) (Ev.bind (inter_ev x y (by omega) (by omega)) (Ev.bind awake_ev ?_))
    simp only [if_true]
    refine Ev.congr (fun k => by rw [if_pos (by rw [inter_length, wrap_nat (n := x.length + 1) (by omega) (by omega)]), if_pos (by omega), if_pos (by rw [inter_length]; omega), inter_last]) ?_
    rw [show (((cnt x y : Int) == 0) == a) = true from by
      by_cases q : cnt x y = 0
      · rw [ha.2 q, q]; rfl
      · rw [show a = false from by cases a with | false => rfl | true => exact absurd (ha.1 rfl) q]
        simp [q]]
    exact Ev.now _
  | succ d ih =>
    intro i a hd hi ha
    have hlt : i < x.length := by omega
    refine Ev.step (fun k => by simp only [privitylaw52_IntersectionSelf.l0]; rw [if_pos (by omega)]) ?_
    refine self_in x y hx hy i hlt y.length 0 a (by omega) (by omega) (ih (i + 1) _ (by omega) (by omega) ?_)
    rw [List.drop_zero, List.take_succ_eq_append_getElem hlt, Bool.and_eq_true, ha, decide_eq_true_eq]
    constructor
    · rintro ⟨h1, h2⟩ b hb
      rcases List.mem_append.1 hb with hb | hb
      · exact h1 b hb
      · rw [List.mem_singleton.1 hb]; exact h2
    · intro h
      exact ⟨fun b hb => h b (List.mem_append_left _ hb), h _ (List.mem_append_right _ (List.mem_singleton.2 rfl))⟩

theorem selfLaw (x y : List Int) : Ev (fun k => privitylaw52_IntersectionSelf.f k x y) true := by
  have far : Ev (fun k => privitylaw52_IntersectionSelf.j0 k x y true) true := Ev.step (fun k => by simp only [privitylaw52_IntersectionSelf.j0]; rw [if_pos trivial]) (Ev.bind awake_ev (Ev.now _))
  unfold privitylaw52_IntersectionSelf.f
  by_cases h : (x.length : Int) > 40
  · exact Ev.congr (fun k => by rw [if_pos h]) far
  · by_cases h2 : (y.length : Int) > 40
    · exact Ev.congr (fun k => by rw [if_neg h, decide_eq_true h2]) far
    · refine Ev.congr (fun k => by rw [if_neg h, decide_eq_false h2]) ?_
      refine Ev.step (fun k => by simp only [privitylaw52_IntersectionSelf.j0]; rw [if_neg (by decide)]) (Ev.bind (inter_ev x x (by omega) (by omega)) ?_)
      refine Ev.congr (fun k => by
        rw [if_pos (by rw [inter_length, wrap_nat (n := x.length + 1) (by omega) (by omega)]), if_pos (by omega), if_pos (by rw [inter_length]; omega), inter_last, cnt_self, show ((x.length : Int) != IntKind.u64.wrap (x.length : Int)) = false from bne_eq_false_iff_eq.2 (by simp [IntKind.wrap, IntKind.bits, IntKind.signed]; omega)]) ?_
      refine Ev.step (fun k => by simp only [privitylaw52_IntersectionSelf.j1]; rw [if_neg (by decide)]) ?_
      exact self_out x y (by omega) (by omega) x.length 0 true (by omega) (by omega) (by simp)

end Go.Proofs.YtlbjedokfbdnbaaDoor.P
