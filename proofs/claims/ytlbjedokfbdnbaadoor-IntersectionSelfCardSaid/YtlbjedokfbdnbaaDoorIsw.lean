/- What is proved: what Intersect answers, in plain words; the fixed results that every law on intersections checks first hold. -/
import Derived.Test.YtlbjedokfbdnbaaDoorPx6
set_option linter.unusedVariables false
set_option linter.unusedSimpArgs false
namespace Go.Proofs.YtlbjedokfbdnbaaDoor.P
open Go.RowKit Go.Proofs.YtlbjedokfbdnbaaDoorW.PrintWords Go.Proofs.YtlbjedokfbdnbaaDoorW.PrintLast Go.Proofs.YtlbjedokfbdnbaaDoorW.PrintMore

theorem wrap_nat {i n : Nat} (h : i < n) (hn : n ≤ 9223372036854775807) : wrap64 ((i : Int) + 1) = ((i + 1 : Nat) : Int) := by unfold wrap64; omega
theorem rd_nat (l : List Int) (i : Nat) (h : i < l.length) : rd l (i : Int) = l[i] := by simp [rd, h]

theorem index_ev (y : List Int) (a : Int) (hl : y.length ≤ 9223372036854775807) (d : Nat) : ∀ i : Nat, y.length - i = d → i ≤ y.length →
    ∃ r, Ev (fun k => slices_Index_uint64_uint64.l0 k y a (y.length : Int) (i : Int)) r ∧ (0 ≤ r ↔ a ∈ y.drop i) := by
  induction d with
  | zero =>
    intro i hd hi
    obtain rfl : i = y.length := by omega
    exact ⟨-1, Ev.step (f := fun _ => some (-1)) (fun k => by simp only [slices_Index_uint64_uint64.l0]; rw [if_neg (by omega)]) (Ev.now _), by simp⟩
  | succ d ih =>
    intro i hd hi
    have hlt : i < y.length := by omega
    obtain ⟨r, h1, h2⟩ := ih (i + 1) (by omega) (by omega)
    by_cases hc : a = y[i]
    · refine ⟨(i : Int), Ev.step (f := fun _ => some (i : Int)) (fun k => by simp only [slices_Index_uint64_uint64.l0]; rw [if_pos (by omega), if_pos (by omega), if_pos (by omega), rd_nat _ _ hlt, if_pos hc]) (Ev.now _), ?_⟩
      rw [List.drop_eq_getElem_cons hlt, hc]
      exact ⟨fun _ => List.mem_cons_self, fun _ => by omega⟩
    · refine ⟨r, Ev.step (fun k => by simp only [slices_Index_uint64_uint64.l0]; rw [if_pos (by omega), if_pos (by omega), if_pos (by omega), rd_nat _ _ hlt, if_neg hc, wrap_nat hlt hl]) h1, ?_⟩
      rw [List.drop_eq_getElem_cons hlt, List.mem_cons, h2]
      exact ⟨.inr, fun h => h.resolve_left hc⟩

theorem contains_ev (y : List Int) (a : Int) (hl : y.length ≤ 9223372036854775807) : Ev (fun k => slices_Contains_uint64_uint64.f k y a) (decide (a ∈ y)) := by
  obtain ⟨r, h1, h2⟩ := index_ev y a hl y.length 0 (by omega) (by omega)
  unfold slices_Contains_uint64_uint64.f slices_Index_uint64_uint64.f
  refine Ev.bind h1 ?_
  rw [List.drop_zero] at h2
  rw [show decide (r ≥ 0) = decide (a ∈ y) from decide_eq_decide.2 h2]
  exact Ev.now _

/-- How many of x's elements occur in y; the answer of Intersect. -/
def cnt (x y : List Int) : Nat := (x.filter fun a => decide (a ∈ y)).length
def marks (x y : List Int) : List Int := x.map fun a => if a ∈ y then 1 else 0
def inter (x y : List Int) : List Int := marks x y ++ [(cnt x y : Int)]
theorem cnt_le (x y : List Int) : cnt x y ≤ x.length := List.length_filter_le _ _
theorem marks_length (x y : List Int) : (marks x y).length = x.length := by simp [marks]
theorem inter_length (x y : List Int) : (inter x y).length = x.length + 1 := by simp [inter, marks]
theorem cnt_append (a b y : List Int) : cnt (a ++ b) y = cnt a y + cnt b y := by simp [cnt]
theorem marks_append (a b y : List Int) : marks (a ++ b) y = marks a y ++ marks b y := by simp [marks]
theorem inter_last (x y : List Int) : rd (inter x y) (x.length : Int) = (cnt x y : Int) := by
  rw [rd_nat _ _ (by rw [inter_length]; omega)]
  simp [inter, marks]

theorem inter_go (x y : List Int) (hx : x.length ≤ 1000000) (hy : y.length ≤ 9223372036854775807) (d : Nat) : ∀ i : Nat, x.length - i = d → i ≤ x.length →
    Ev (fun k => intersection_Intersect.l0 k y (marks (x.take i) y) (cnt (x.take i) y : Int) x (x.length : Int) (i : Int)) (inter x y) := by
  induction d with
  | zero =>
    intro i hd hi
    obtain rfl : i = x.length := by omega
    rw [List.take_length]
    exact Ev.step (f := fun _ => some (inter x y)) (fun k => by simp only [intersection_Intersect.l0]; rw [if_neg (by omega), if_pos (by rw [marks_length]; omega)]; rfl) (Ev.now _)
  | succ d ih =>
    intro i hd hi
    have hlt : i < x.length := by omega
    have h1 := ih (i + 1) (by omega) (by omega)
    rw [List.take_succ_eq_append_getElem hlt, marks_append, cnt_append] at h1
    have hc := cnt_le (x.take i) y
    rw [List.length_take] at hc
    refine Ev.step (f := fun k => (slices_Contains_uint64_uint64.f k y x[i]).bind fun t106 => (if t106 = true then (if (marks (x.take i) y).length < 17592186044416 then (intersection_Intersect.l0 k y (marks (x.take i) y ++ [1]) (IntKind.u64.wrap ((cnt (x.take i) y : Int) + 1)) x (x.length : Int) ((i + 1 : Nat) : Int)) else (none)) else (if (marks (x.take i) y).length < 17592186044416 then (intersection_Intersect.l0 k y (marks (x.take i) y ++ [0]) (IntKind.u64.wrap ((cnt (x.take i) y : Int) + 0)) x (x.length : Int) ((i + 1 : Nat) : Int)) else (none)))) (fun k => by
      simp only [intersection_Intersect.l0]; rw [if_pos (by omega), if_pos (by omega), if_pos (by omega), rd_nat _ _ hlt, wrap_nat hlt (by omega)]) ?_
    refine Ev.bind (contains_ev y x[i] hy) ?_
    have hm : (marks (x.take i) y).length < 17592186044416 := by rw [marks_length, List.length_take]; omega
    by_cases hmem : x[i] ∈ y
    · refine Ev.congr (fun k => by rw [if_pos (by simpa using hmem), if_pos hm, show IntKind.u64.wrap ((cnt (x.take i) y : Int) + 1) = ((cnt (x.take i) y + cnt [x[i]] y : Nat) : Int) from by simp [cnt, hmem, IntKind.wrap, IntKind.bits, IntKind.signed] at hc ⊢; omega]) ?_
      rw [show marks [x[i]] y = [1] from by simp [marks, hmem]] at h1
      exact h1
    · refine Ev.congr (fun k => by rw [if_neg (by simpa using hmem), if_pos hm, show IntKind.u64.wrap ((cnt (x.take i) y : Int) + 0) = ((cnt (x.take i) y + cnt [x[i]] y : Nat) : Int) from by simp [cnt, hmem, IntKind.wrap, IntKind.bits, IntKind.signed] at hc ⊢; omega]) ?_
      rw [show marks [x[i]] y = [0] from by simp [marks, hmem]] at h1
      exact h1

theorem inter_ev (x y : List Int) (hx : x.length ≤ 1000000) (hy : y.length ≤ 9223372036854775807) : Ev (fun k => intersection_Intersect.f k x y) (inter x y) := inter_go x y hx hy x.length 0 (by omega) (by omega)

theorem same_go (a b : List Int) (h : a.length = b.length) (hl : a.length ≤ 9223372036854775807) (d : Nat) : ∀ i : Nat, a.length - i = d → i ≤ a.length →
    Ev (fun k => privityref03_Same.l0 k a b (i : Int)) (decide (a.drop i = b.drop i)) := by
  induction d with
  | zero =>
    intro i hd hi
    obtain rfl : i = a.length := by omega
    rw [List.drop_length, h, List.drop_length]
    exact Ev.step (f := fun _ => some true) (fun k => by simp only [privityref03_Same.l0]; rw [if_neg (by omega)]) (Ev.now _)
  | succ d ih =>
    intro i hd hi
    have hlt : i < a.length := by omega
    have hlt2 : i < b.length := by omega
    rw [List.drop_eq_getElem_cons hlt, List.drop_eq_getElem_cons hlt2]
    by_cases hc : a[i] = b[i]
    · have h1 := ih (i + 1) (by omega) (by omega)
      rw [show decide (a[i] :: a.drop (i + 1) = b[i] :: b.drop (i + 1)) = decide (a.drop (i + 1) = b.drop (i + 1)) from decide_eq_decide.2 ⟨fun e => (List.cons.inj e).2, fun e => by rw [hc, e]⟩]
      exact Ev.step (fun k => by simp only [privityref03_Same.l0]; rw [if_pos (by omega), if_pos (by omega), if_pos (by omega), rd_nat _ _ hlt, rd_nat _ _ hlt2, if_pos hc, wrap_nat hlt hl]) h1
    · rw [show decide (a[i] :: a.drop (i + 1) = b[i] :: b.drop (i + 1)) = false from decide_eq_false (fun e => hc (List.cons.inj e).1)]
      exact Ev.step (f := fun _ => some false) (fun k => by simp only [privityref03_Same.l0]; rw [if_pos (by omega), if_pos (by omega), if_pos (by omega), rd_nat _ _ hlt, rd_nat _ _ hlt2, if_neg hc]) (Ev.now _)
theorem same_ev (a b : List Int) (hl : a.length ≤ 9223372036854775807) : Ev (fun k => privityref03_Same.f k a b) (decide (a = b)) := by
  unfold privityref03_Same.f
  by_cases h : a.length = b.length
  · exact Ev.congr (fun k => by rw [if_pos (by omega)]; rfl) (same_go a b h hl a.length 0 (by omega) (by omega))
  · rw [show decide (a = b) = false from by simp; intro e; exact h (by rw [e])]
    exact Ev.congr (fun k => by rw [if_neg (by omega)]) (Ev.now _)

theorem awake_ev : Ev (fun k => privitylaw52_awake.f k) true := by
  have c1 := inter_ev [3, 5, 5] [5, 1] (by decide) (by decide)
  have c2 := inter_ev [] [1] (by decide) (by decide)
  have c3 : intersection_Program.f 2 3 4 = some (⟨(Isc.progL 2 3 4).toArray⟩, 0) := by unfold intersection_Program.f; rw [gate_eq, if_pos (by decide)]; rfl
  have c4 : intersection_Program.f 0 3 4 = some (⟨#[]⟩, 2) := by unfold intersection_Program.f; rw [gate_eq, if_neg (by decide), if_pos (by decide)]
  have c5 : ((⟨(Isc.progL 2 3 4).toArray⟩ : ByteArray).size : Int) > 0 := by
    show ((Isc.progL 2 3 4).length : Int) > 0
    simp [Isc.progL, Isc.lastL]
    omega
  have s1 := same_ev (inter [3, 5, 5] [5, 1]) [0, 1, 1, 2] (by decide)
  have s2 := same_ev (inter [] [1]) [0] (by decide)
  rw [show decide (inter [3, 5, 5] [5, 1] = [0, 1, 1, 2]) = true from by decide] at s1
  rw [show decide (inter [] [1] = [0]) = true from by decide] at s2
  unfold privitylaw52_awake.f
  simp only [c3, c4, Option.bind_some]
  refine Ev.bind c1 (Ev.bind s1 ?_)
  simp only [if_true]
  refine Ev.bind c2 (Ev.bind s2 ?_)
  simp only [if_true, if_pos c5]
  exact Ev.now _

theorem privitylaw52_awake.calls (k : Nat) (r : Bool) (w : World) (h : privitylaw52_awake.f k = some r) :
    Calls Tryd.prog 8 #[] w fun e w' => e = .returned (.bool r) ∧ Below w.heap.size w w' := by
  obtain ⟨K, hK⟩ := awake_ev
  have h1 := hK (max K k) (Nat.le_max_left _ _)
  have h2 := at_rounds (g := fun k => privitylaw52_awake.f k) (fun k => privitylaw52_awake.mono k) (Nat.le_max_right K k) h
  exact privitylaw52_awake.callsT k r w (Option.some.inj (h2.symm.trans h1)) h

end Go.Proofs.YtlbjedokfbdnbaaDoor.P
