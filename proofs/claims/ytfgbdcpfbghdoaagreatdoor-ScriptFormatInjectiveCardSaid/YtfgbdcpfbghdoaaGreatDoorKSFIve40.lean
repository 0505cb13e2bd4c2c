/- What is proved here: a part of the proof of ScriptFormatInjective: Ssm. No conditions beside those that each theorem states. -/
import Derived.Test.YtfgbdcpfbghdoaaGreatDoorKSFIve39
import Derived.Test.YtfgbdcpfbghdoaaGreatDoorKSFIve37
import Derived.Test.YtfgbdcpfbghdoaaGreatDoorKSFIve32
import Derived.Test.YtfgbdcpfbghdoaaGreatDoorKSFIve33
section
set_option linter.unusedVariables false
set_option linter.unusedSimpArgs false
namespace Go.Proofs.YtfgbdcpfbghdoaaGreatDoor.P
open Go.RowKit Go.Proofs.YtfgbdcpfbghdoaaGreatDoorW.PrintWords Go.Proofs.YtfgbdcpfbghdoaaGreatDoorW.PrintLast Go.Proofs.YtfgbdcpfbghdoaaGreatDoorW.PrintMore
theorem toList_data (a : ByteArray) : a.toList = a.data.toList := by
  have := ba_toList a.data.toList
  rwa [show (⟨a.data.toList.toArray⟩ : ByteArray) = a from mkB_of a] at this
theorem toList_inj {a b : ByteArray} : a.toList = b.toList ↔ a = b := by
  rw [toList_data, toList_data]
  constructor
  · intro h
    rw [← mkB_of a, ← mkB_of b, h]
  · intro h; rw [h]
theorem cmd_ext {x y : S36} (h0 : x.f0 = y.f0) (h1 : x.f1 = y.f1) : x = y := by
  cases x; cases y; cases h0; cases h1; rfl
theorem same_words (A B : List S36) (i : Nat) (hi : i < A.length) (hi2 : i < B.length) (hw : A[i].f1.length = B[i].f1.length) (hn : A[i].f1.length ≤ 1000000000000000) (r : Bool) : ∀ (d j : Nat), A[i].f1.length - j = d → j ≤ A[i].f1.length →
    (r = true → A[i].f1.drop j = B[i].f1.drop j) → (A[i].f1.drop j = B[i].f1.drop j → Ev (fun k => privityref53_Same.l0 k A B (wrap64 ((i : Int) + 1))) r) → Ev (fun k => privityref53_Same.l1 k A B (i : Int) (j : Int)) r := by
  have c1 : 0 ≤ (i : Int) := by omega
  have c2 : (i : Int) < (A.length : Int) := by omega
  have c2' : (i : Int) < (B.length : Int) := by omega
  intro d
  induction d with
  | zero =>
    intro j hd hj h1 h2
    have c3 : ¬ (j : Int) < (A[i].f1.length : Int) := by omega
    have e : A[i].f1.drop j = B[i].f1.drop j := by rw [List.drop_of_length_le (by omega), List.drop_of_length_le (by omega)]
    refine Ev.step (fun k => ?_) (h2 e)
    rw [privityref53_Same.l1, if_pos c1, if_pos c2, rd36 A i hi, if_neg c3]
  | succ d ih =>
    intro j hd hj h1 h2
    have hjl : j < A[i].f1.length := by omega
    have hjl2 : j < B[i].f1.length := by omega
    have c3 : (j : Int) < (A[i].f1.length : Int) := by omega
    have c3' : (j : Int) < (B[i].f1.length : Int) := by omega
    have c4 : 0 ≤ (j : Int) := by omega
    have hwj := wrap64_nat j (by omega)
    have hle : j + 1 ≤ A[i].f1.length := hjl
    have hd' : A[i].f1.length - (j + 1) = d := by omega
    rw [List.drop_eq_getElem_cons hjl, List.drop_eq_getElem_cons hjl2] at h1 h2
    by_cases he : A[i].f1[j] = B[i].f1[j]
    · rw [he] at h1 h2
      have hx := ih (j + 1) hd' hle (fun h => (List.cons.inj (h1 h)).2) (fun h => h2 (by rw [h]))
      refine Ev.step (fun k => ?_) hx
      rw [privityref53_Same.l1, if_pos c1, if_pos c2, rd36 A i hi, if_pos c3, if_pos c4, if_pos c2', rd36 B i hi2, if_pos c3', rdW _ j hjl, rdW _ j hjl2, if_pos (toList_inj.2 he), hwj]
    · obtain rfl : r = false := by
        cases r
        · rfl
        · exact absurd (List.cons.inj (h1 rfl)).1 he
      refine Ev.step (f := fun _ => some false) (fun k => ?_) (Ev.now _)
      rw [privityref53_Same.l1, if_pos c1, if_pos c2, rd36 A i hi, if_pos c3, if_pos c4, if_pos c2', rd36 B i hi2, if_pos c3', rdW _ j hjl, rdW _ j hjl2, if_neg (fun h => he (toList_inj.1 h))]
theorem same_go (A B : List S36) (hl : A.length = B.length) (hA : A.length ≤ 1000000000000000) (hn : ∀ x ∈ A, x.f1.length ≤ 1000000000000000) (r : Bool) : ∀ (d i : Nat), A.length - i = d → i ≤ A.length → (r = true ↔ A.drop i = B.drop i) →
    Ev (fun k => privityref53_Same.l0 k A B (i : Int)) r := by
  intro d
  induction d with
  | zero =>
    intro i hd hi hr
    have c1 : ¬ (i : Int) < (A.length : Int) := by omega
    have hr2 : r = true := hr.2 (by rw [List.drop_of_length_le (by omega), List.drop_of_length_le (by omega)])
    subst hr2
    exact Ev.step (f := fun _ => some true) (fun k => by rw [privityref53_Same.l0, if_neg c1]) (Ev.now _)
  | succ d ih =>
    intro i hd hi hr
    have hlt : i < A.length := by omega
    have hlt2 : i < B.length := by omega
    have c1 : (i : Int) < (A.length : Int) := by omega
    have c1' : (i : Int) < (B.length : Int) := by omega
    have c2 : 0 ≤ (i : Int) := by omega
    have hw := wrap64_nat i (by omega)
    have hle : i + 1 ≤ A.length := hlt
    have hd' : A.length - (i + 1) = d := by omega
    rw [List.drop_eq_getElem_cons hlt, List.drop_eq_getElem_cons hlt2] at hr
    have head : ∀ k, privityref53_Same.l0 (k + 1) A B (i : Int) = if A[i].f0.toList = B[i].f0.toList then privityref53_Same.j1 k A B (i : Int) (((A[i].f1).length : Int) != ((B[i].f1).length : Int)) else privityref53_Same.j1 k A B (i : Int) true := by
      intro k
      rw [privityref53_Same.l0, if_pos c1, if_pos c2, if_pos c1', rd36 A i hlt, rd36 B i hlt2]
    have no : (¬ A[i] = B[i]) → Ev (fun k => privityref53_Same.j1 k A B (i : Int) true) r := by
      intro hne
      obtain rfl : r = false := by
        cases r
        · rfl
        · exact absurd (List.cons.inj (hr.1 rfl)).1 hne
      exact Ev.step (f := fun _ => some false) (fun k => by rw [privityref53_Same.j1, if_pos rfl]) (Ev.now _)
    by_cases h0 : A[i].f0 = B[i].f0
    · refine Ev.step (fun k => (head k).trans (if_pos (toList_inj.2 h0))) ?_
      by_cases h1 : A[i].f1.length = B[i].f1.length
      · have hb : (((A[i].f1).length : Int) != ((B[i].f1).length : Int)) = false := by rw [h1]; simp
        rw [hb]
        refine Ev.step (f := fun k => privityref53_Same.l1 k A B (i : Int) 0) (fun k => by rw [privityref53_Same.j1, if_neg (by simp)]) ?_
        refine same_words A B i hlt hlt2 h1 (hn _ (List.getElem_mem hlt)) r _ 0 rfl (Nat.zero_le _) (fun h => ?_) (fun h => ?_)
        · rw [(List.cons.inj (hr.1 h)).1]
        · rw [hw]
          refine ih (i + 1) hd' hle ⟨fun h' => (List.cons.inj (hr.1 h')).2, fun h' => hr.2 ?_⟩
          rw [h', cmd_ext h0 (by simpa using h)]
      · have hb : (((A[i].f1).length : Int) != ((B[i].f1).length : Int)) = true := by simp; omega
        rw [hb]
        exact no (fun h => h1 (by rw [h]))
    · exact Ev.step (fun k => (head k).trans (if_neg (fun h => h0 (toList_inj.1 h)))) (no (fun h => h0 (by rw [h])))
theorem same_ev (A B : List S36) (hA : A.length ≤ 1000000000000000) (hn : ∀ x ∈ A, x.f1.length ≤ 1000000000000000) (r : Bool) (hr : r = true ↔ A = B) : Ev (fun k => privityref53_Same.f k A B) r := by
  by_cases h : A.length = B.length
  · refine Ev.congr (f := fun k => privityref53_Same.l0 k A B 0) (fun k => by rw [privityref53_Same.f, if_pos (by omega)]) ?_
    exact same_go A B h hA hn r _ 0 rfl (Nat.zero_le _) (by simpa using hr)
  · obtain rfl : r = false := by
      cases r
      · rfl
      · exact absurd (by rw [hr.1 rfl]) h
    exact Ev.congr (f := fun _ => some false) (fun k => by rw [privityref53_Same.f, if_neg (by omega)]) (Ev.now _)
def sumS : List ByteArray → Nat
  | [] => 0
  | w :: r => w.size + sumS r
def SmallC (x : S36) : Prop := x.f1.length ≤ 60 ∧ x.f0.size + sumS x.f1 ≤ 200
theorem few_words (L : List S36) (i : Nat) (hi : i < L.length) (hs : ∀ w ∈ L[i].f1, w.size ≤ 140737488355328) (Q : Prop) (H : ∃ b, Ev (fun k => privityref53_Few.l0 k L 20 200 (wrap64 ((i : Int) + 1))) b ∧ (b = true → Q)) : ∀ (d j n : Nat), 61 - j = d → j ≤ 61 → n ≤ (j + 1) * 140737488355328 →
    ∃ b, Ev (fun k => privityref53_Few.l1 k L 20 200 (i : Int) (n : Int) (j : Int)) b ∧ (b = true → Q ∧ L[i].f1.length ≤ 60 ∧ n + sumS (L[i].f1.drop j) ≤ 200) := by
  have c1 : 0 ≤ (i : Int) := by omega
  have c2 : (i : Int) < (L.length : Int) := by omega
  have last : ∀ (j n : Nat), (L[i].f1.length ≤ 60 → L[i].f1.length ≤ j) → ∃ b, Ev (fun k => (if (n : Int) > 200 then (some false) else (if (L[i].f1.length : Int) > 60 then (some false) else (privityref53_Few.l0 k L 20 200 (wrap64 ((i : Int) + 1)))))) b ∧ (b = true → Q ∧ L[i].f1.length ≤ 60 ∧ n + sumS (L[i].f1.drop j) ≤ 200) := by
    intro j n hj
    by_cases h1 : (n : Int) > 200
    · exact ⟨false, Ev.congr (f := fun _ => some false) (fun k => if_pos h1) (Ev.now _), fun h => by cases h⟩
    · by_cases h2 : (L[i].f1.length : Int) > 60
      · exact ⟨false, Ev.congr (f := fun _ => some false) (fun k => by rw [if_neg h1, if_pos h2]) (Ev.now _), fun h => by cases h⟩
      · obtain ⟨b, hb, hq⟩ := H
        have h3 : L[i].f1.length ≤ 60 := by omega
        have h4 := hj h3
        have h5 : n ≤ 200 := by omega
        refine ⟨b, Ev.congr (fun k => by rw [if_neg h1, if_neg h2]) hb, fun h => ⟨hq h, h3, ?_⟩⟩
        rw [List.drop_of_length_le h4]
        exact h5
  intro d
  induction d with
  | zero =>
    intro j n hd hj hn
    obtain rfl : j = 61 := by omega
    obtain ⟨b, hb, hq⟩ := last 61 n (by omega)
    refine ⟨b, Ev.step (fun k => ?_) hb, hq⟩
    rw [privityref53_Few.l1, if_pos c1, if_pos c2, rd36 L i hi]
    by_cases h : ((61 : Nat) : Int) < (L[i].f1.length : Int)
    · rw [if_pos h, if_neg (by decide)]
    · rw [if_neg h]
  | succ d ih =>
    intro j n hd hj hn
    have hj2 : j ≤ 60 := by omega
    by_cases h : j < L[i].f1.length
    · have c3 : (j : Int) < (L[i].f1.length : Int) := by omega
      have c4 : (j : Int) ≤ 60 := by omega
      have c5 : 0 ≤ (j : Int) := by omega
      have hsz := hs _ (List.getElem_mem h)
      have hm : (j + 1) * 140737488355328 ≤ 61 * 140737488355328 := Nat.mul_le_mul_right _ (by omega)
      have hn2 : n + L[i].f1[j].size ≤ (j + 1 + 1) * 140737488355328 := by rw [Nat.add_mul (j + 1) 1]; omega
      have hw1 : wrap64 ((n : Int) + (L[i].f1[j].size : Int)) = ((n + L[i].f1[j].size : Nat) : Int) := by unfold wrap64; omega
      have hw2 := wrap64_nat j (by omega)
      obtain ⟨b, hb, hq⟩ := ih (j + 1) (n + L[i].f1[j].size) (by omega) (by omega) hn2
      refine ⟨b, Ev.step (fun k => ?_) hb, fun h' => ⟨(hq h').1, (hq h').2.1, ?_⟩⟩
      · rw [privityref53_Few.l1, if_pos c1, if_pos c2, rd36 L i hi, if_pos c3, if_pos c4, if_pos c5, rdW _ j h, hw1, hw2]
      · have := (hq h').2.2
        rw [List.drop_eq_getElem_cons h, sumS]
        omega
    · have c3 : ¬ (j : Int) < (L[i].f1.length : Int) := by omega
      obtain ⟨b, hb, hq⟩ := last j n (by omega)
      refine ⟨b, Ev.step (fun k => ?_) hb, hq⟩
      rw [privityref53_Few.l1, if_pos c1, if_pos c2, rd36 L i hi, if_neg c3]
theorem few_go (L : List S36) (hs : ∀ x ∈ L, x.f0.size ≤ 140737488355328 ∧ ∀ w ∈ x.f1, w.size ≤ 140737488355328) : ∀ (d i : Nat), 21 - i = d → i ≤ 21 →
    ∃ b, Ev (fun k => privityref53_Few.l0 k L 20 200 (i : Int)) b ∧ (b = true → L.length ≤ 20 ∧ ∀ x ∈ L.drop i, SmallC x) := by
  have last : ∀ i : Nat, (L.length ≤ 20 → L.length ≤ i) → ∃ b, Ev (fun k => privityref53_Few.j1 k L 20 200 (i : Int) false) b ∧ (b = true → L.length ≤ 20 ∧ ∀ x ∈ L.drop i, SmallC x) := by
    intro i hi
    refine ⟨decide ((L.length : Int) ≤ 20), Ev.step (f := fun _ => some (decide ((L.length : Int) ≤ 20))) (fun k => by rw [privityref53_Few.j1, if_neg (by simp)]) (Ev.now _), fun h => ?_⟩
    have h2 : L.length ≤ 20 := by have := of_decide_eq_true h; omega
    refine ⟨h2, fun x hx => ?_⟩
    rw [List.drop_of_length_le (hi h2)] at hx
    cases hx
  intro d
  induction d with
  | zero =>
    intro i hd hi
    obtain rfl : i = 21 := by omega
    obtain ⟨b, hb, hq⟩ := last 21 (by omega)
    refine ⟨b, Ev.step (fun k => ?_) hb, hq⟩
    rw [privityref53_Few.l0]
    by_cases h : ((21 : Nat) : Int) < (L.length : Int)
    · rw [if_pos h]; rfl
    · rw [if_neg h]
  | succ d ih =>
    intro i hd hi
    by_cases h : i < L.length
    · have c1 : (i : Int) < (L.length : Int) := by omega
      have c2 : 0 ≤ (i : Int) := by omega
      have hw := wrap64_nat i (by omega)
      obtain ⟨s0, s1⟩ := hs _ (List.getElem_mem h)
      obtain ⟨b0, hb0, hq0⟩ := ih (i + 1) (by omega) (by omega)
      rw [← hw] at hb0
      obtain ⟨b, hb, hq⟩ := few_words L i h s1 _ ⟨b0, hb0, hq0⟩ 61 0 L[i].f0.size rfl (by omega) (by omega)
      have c4 : decide ((i : Int) ≤ 20) = true := by simp; omega
      refine ⟨b, Ev.step (f := fun k => privityref53_Few.j1 k L 20 200 (i : Int) true) (fun k => by rw [privityref53_Few.l0, if_pos c1, c4]) (Ev.step (fun k => ?_) hb), fun h' => ?_⟩
      · rw [privityref53_Few.j1, if_pos rfl, if_pos c2, if_pos c1, rd36 L i h]
        rfl
      · obtain ⟨⟨q1, q2⟩, q3, q4⟩ := hq h'
        refine ⟨q1, fun x hx => ?_⟩
        rw [List.drop_eq_getElem_cons h] at hx
        rcases List.mem_cons.1 hx with rfl | hx
        · exact ⟨q3, by simpa using q4⟩
        · exact q2 x hx
    · have c1 : ¬ (i : Int) < (L.length : Int) := by omega
      obtain ⟨b, hb, hq⟩ := last i (by omega)
      exact ⟨b, Ev.step (fun k => by rw [privityref53_Few.l0, if_neg c1]) hb, hq⟩
theorem few_ev (L : List S36) (hs : ∀ x ∈ L, x.f0.size ≤ 140737488355328 ∧ ∀ w ∈ x.f1, w.size ≤ 140737488355328) : ∃ b, Ev (fun k => privityref53_Few.f k L 20 200) b ∧ (b = true → L.length ≤ 20 ∧ ∀ x ∈ L, SmallC x) := by
  obtain ⟨b, hb, hq⟩ := few_go L hs _ 0 rfl (by omega)
  exact ⟨b, hb, by simpa using hq⟩
end Go.Proofs.YtfgbdcpfbghdoaaGreatDoor.P
end
