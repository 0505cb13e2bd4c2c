/- What is proved here: a part of the proof of ScriptConcatenation: Sra, Px22, Px23, Px24, Srg, Px21, Ssm. No conditions beside those that each theorem states. -/
import Derived.Test.YtfgbdcpfbghdoaaGreatDoorKSCon30
import Derived.Test.YtfgbdcpfbghdoaaGreatDoorKSCon32
import Derived.Test.YtfgbdcpfbghdoaaGreatDoorKSCon34
import Derived.Test.YtfgbdcpfbghdoaaGreatDoorKSCon9
import Derived.Test.YtfgbdcpfbghdoaaGreatDoorKSCon25
import Derived.Test.YtfgbdcpfbghdoaaGreatDoorKSCon27
section
namespace Go.Proofs.YtfgbdcpfbghdoaaGreatDoor.P
end Go.Proofs.YtfgbdcpfbghdoaaGreatDoor.P
end
section
namespace Go.Proofs.YtfgbdcpfbghdoaaGreatDoor.P
open Go.RowKit Go.Proofs.YtfgbdcpfbghdoaaGreatDoorW.PrintWords Go.Proofs.YtfgbdcpfbghdoaaGreatDoorW.PrintLast Go.Proofs.YtfgbdcpfbghdoaaGreatDoorW.PrintMore
attribute [local go_sem] max2_int min2_int max_two min_two max_three min_three max_four min_four   -- for this text's walks alone
set_option linter.unusedVariables false
set_option linter.unusedSimpArgs false
end Go.Proofs.YtfgbdcpfbghdoaaGreatDoor.P
end
section
namespace Go.Proofs.YtfgbdcpfbghdoaaGreatDoor.P
open Go.RowKit Go.Proofs.YtfgbdcpfbghdoaaGreatDoorW.PrintWords Go.Proofs.YtfgbdcpfbghdoaaGreatDoorW.PrintLast Go.Proofs.YtfgbdcpfbghdoaaGreatDoorW.PrintMore
attribute [local go_sem] max2_int min2_int max_two min_two max_three min_three max_four min_four   -- for this text's walks alone
set_option linter.unusedVariables false
set_option linter.unusedSimpArgs false
end Go.Proofs.YtfgbdcpfbghdoaaGreatDoor.P
end
section
namespace Go.Proofs.YtfgbdcpfbghdoaaGreatDoor.P
open Go.RowKit Go.Proofs.YtfgbdcpfbghdoaaGreatDoorW.PrintWords Go.Proofs.YtfgbdcpfbghdoaaGreatDoorW.PrintLast Go.Proofs.YtfgbdcpfbghdoaaGreatDoorW.PrintMore
attribute [local go_sem] max2_int min2_int max_two min_two max_three min_three max_four min_four   -- for this text's walks alone
set_option linter.unusedVariables false
set_option linter.unusedSimpArgs false
end Go.Proofs.YtfgbdcpfbghdoaaGreatDoor.P
end
section
set_option linter.unusedVariables false
set_option linter.unusedSimpArgs false
namespace Go.Proofs.YtfgbdcpfbghdoaaGreatDoor.P
open Go.RowKit Go.Proofs.YtfgbdcpfbghdoaaGreatDoorW.PrintWords Go.Proofs.YtfgbdcpfbghdoaaGreatDoorW.PrintLast Go.Proofs.YtfgbdcpfbghdoaaGreatDoorW.PrintMore
theorem mkB_app (o p : List UInt8) : mkB o ++ mkB p = mkB (o ++ p) := by
  apply ByteArray.ext; simp [mkB]
theorem rd36 (l : List S36) (i : Nat) (h : i < l.length) : rd_T36 l (i : Int) = l[i] := by simp [rd_T36, h]
theorem rdW (ws : List ByteArray) (i : Nat) (h : i < ws.length) : rdOf ByteArray.empty ws (i : Int) = ws[i] := by simp [rdOf, List.getD_eq_getElem?_getD, List.getElem?_eq_getElem h]
end Go.Proofs.YtfgbdcpfbghdoaaGreatDoor.P
end
section
namespace Go.Proofs.YtfgbdcpfbghdoaaGreatDoor.P
open Go.RowKit Go.Proofs.YtfgbdcpfbghdoaaGreatDoorW.PrintWords Go.Proofs.YtfgbdcpfbghdoaaGreatDoorW.PrintLast Go.Proofs.YtfgbdcpfbghdoaaGreatDoorW.PrintMore
attribute [local go_sem] max2_int min2_int max_two min_two max_three min_three max_four min_four   -- for this text's walks alone
set_option linter.unusedVariables false
set_option linter.unusedSimpArgs false
end Go.Proofs.YtfgbdcpfbghdoaaGreatDoor.P
end
section
set_option linter.unusedVariables false
set_option linter.unusedSimpArgs false
namespace Go.Proofs.YtfgbdcpfbghdoaaGreatDoor.P
open Go.RowKit Go.Proofs.YtfgbdcpfbghdoaaGreatDoorW.PrintWords Go.Proofs.YtfgbdcpfbghdoaaGreatDoorW.PrintLast Go.Proofs.YtfgbdcpfbghdoaaGreatDoorW.PrintMore
theorem toList_data (a : ByteArray) : a.toList = a.data.toList := by
  have := ba_toList a.data.toList
  rwa [show (⟨a.data.toList.toArray⟩ : ByteArray) = a from mkB_of a] at this
theorem toList_inj {a b : ByteArray} : a.toList = b.toList ↔ a = b := by
  rw [toList_data, toList_data]
  constructor
  · intro h
    rw [← mkB_of a, ← mkB_of b, h]
  · intro h; rw [h]
theorem cmd_ext {x y : S36} (h0 : x.f0 = y.f0) (h1 : x.f1 = y.f1) : x = y := by
  cases x; cases y; cases h0; cases h1; rfl
theorem same_words (A B : List S36) (i : Nat) (hi : i < A.length) (hi2 : i < B.length) (hw : A[i].f1.length = B[i].f1.length) (hn : A[i].f1.length ≤ 1000000000000000) (r : Bool) : ∀ (d j : Nat), A[i].f1.length - j = d → j ≤ A[i].f1.length →
    (r = true → A[i].f1.drop j = B[i].f1.drop j) → (A[i].f1.drop j = B[i].f1.drop j → Ev (fun k => privityref53_Same.l0 k A B (wrap64 ((i : Int) + 1))) r) → Ev (fun k => privityref53_Same.l1 k A B (i : Int) (j : Int)) r := by
  have c1 : 0 ≤ (i : Int) := by omega
  have c2 : (i : Int) < (A.length : Int) := by omega
  have c2' : (i : Int) < (B.length : Int) := by omega
  intro d
  induction d with
  | zero =>
    intro j hd hj h1 h2
    have c3 : ¬ (j : Int) < (A[i].f1.length : Int) := by omega
    have e : A[i].f1.drop j = B[i].f1.drop j := by rw [List.drop_of_length_le (by omega), List.drop_of_length_le (by omega)]
    refine Ev.step (fun k => ?_) (h2 e)
    rw [privityref53_Same.l1, if_pos c1, if_pos c2, rd36 A i hi, if_neg c3]
  | succ d ih =>
    intro j hd hj h1 h2
    have hjl : j < A[i].f1.length := by omega
    have hjl2 : j < B[i].f1.length := by omega
    have c3 : (j : Int) < (A[i].f1.length : Int) := by omega
    have c3' : (j : Int) < (B[i].f1.length : Int) := by omega
    have c4 : 0 ≤ (j : Int) := by omega
    have hwj := wrap64_nat j (by omega)
    have hle : j + 1 ≤ A[i].f1.length := hjl
    have hd' : A[i].f1.length - (j + 1) = d := by omega
    rw [List.drop_eq_getElem_cons hjl, List.drop_eq_getElem_cons hjl2] at h1 h2
    by_cases he : A[i].f1[j] = B[i].f1[j]
    · rw [he] at h1 h2
      have hx := ih (j + 1) hd' hle (fun h => (List.cons.inj (h1 h)).2) (fun h => h2 (by rw [h]))
      refine Ev.step (fun k => ?_) hx
      rw [privityref53_Same.l1, if_pos c1, if_pos c2, rd36 A i hi, if_pos c3, if_pos c4, if_pos c2', rd36 B i hi2, if_pos c3', rdW _ j hjl, rdW _ j hjl2, if_pos (toList_inj.2 he), hwj]
    · obtain rfl : r = false := by
        cases r
        · rfl
        · exact absurd (List.cons.inj (h1 rfl)).1 he
      refine Ev.step (f := fun _ => some false) (fun k => ?_) (Ev.now _)
      rw [privityref53_Same.l1, if_pos c1, if_pos c2, rd36 A i hi, if_pos c3, if_pos c4, if_pos c2', rd36 B i hi2, if_pos c3', rdW _ j hjl, rdW _ j hjl2, if_neg (fun h => he (toList_inj.1 h))]
theorem same_go (A B : List S36) (hl : A.length = B.length) (hA : A.length ≤ 1000000000000000) (hn : ∀ x ∈ A, x.f1.length ≤ 1000000000000000) (r : Bool) : ∀ (d i : Nat), A.length - i = d → i ≤ A.length → (r = true ↔ A.drop i = B.drop i) →
    Ev (fun k => privityref53_Same.l0 k A B (i : Int)) r := by
  intro d
  induction d with
  | zero =>
    intro i hd hi hr
    have c1 : ¬ (i : Int) < (A.length : Int) := by omega
    have hr2 : r = true := hr.2 (by rw [List.drop_of_length_le (by omega), List.drop_of_length_le (by omega)])
    subst hr2
    exact Ev.step (f := fun _ => some true) (fun k => by rw [privityref53_Same.l0, if_neg c1]) (Ev.now _)
  | succ d ih =>
    intro i hd hi hr
    have hlt : i < A.length := by omega
    have hlt2 : i < B.length := by omega
    have c1 : (i : Int) < (A.length : Int) := by omega
    have c1' : (i : Int) < (B.length : Int) := by omega
    have c2 : 0 ≤ (i : Int) := by omega
    have hw := wrap64_nat i (by omega)
    have hle : i + 1 ≤ A.length := hlt
    have hd' : A.length - (i + 1) = d := by omega
    rw [List.drop_eq_getElem_cons hlt, List.drop_eq_getElem_cons hlt2] at hr
    have head : ∀ k, privityref53_Same.l0 (k + 1) A B (i : Int) = if A[i].f0.toList = B[i].f0.toList then privityref53_Same.j1 k A B (i : Int) (((A[i].f1).length : Int) != ((B[i].f1).length : Int)) else privityref53_Same.j1 k A B (i : Int) true := by
      intro k
      rw [privityref53_Same.l0, if_pos c1, if_pos c2, if_pos c1', rd36 A i hlt, rd36 B i hlt2]
    have no : (¬ A[i] = B[i]) → Ev (fun k => privityref53_Same.j1 k A B (i : Int) true) r := by
      intro hne
      obtain rfl : r = false := by
        cases r
        · rfl
        · exact absurd (List.cons.inj (hr.1 rfl)).1 hne
      exact Ev.step (f := fun _ => some false) (fun k => by rw [privityref53_Same.j1, if_pos rfl]) (Ev.now _)
    by_cases h0 : A[i].f0 = B[i].f0
    · refine Ev.step (fun k => (head k).trans (if_pos (toList_inj.2 h0))) ?_
      by_cases h1 : A[i].f1.length = B[i].f1.length
      · have hb : (((A[i].f1).length : Int) != ((B[i].f1).length : Int)) = false := by rw [h1]; simp
        rw [hb]
        refine Ev.step (f := fun k => privityref53_Same.l1 k A B (i : Int) 0) (fun k => by rw [privityref53_Same.j1, if_neg (by simp)]) ?_
        refine same_words A B i hlt hlt2 h1 (hn _ (List.getElem_mem hlt)) r _ 0 rfl (Nat.zero_le _) (fun h => ?_) (fun h => ?_)
        · rw [(List.cons.inj (hr.1 h)).1]
        · rw [hw]
          refine ih (i + 1) hd' hle ⟨fun h' => (List.cons.inj (hr.1 h')).2, fun h' => hr.2 ?_⟩
          rw [h', cmd_ext h0 (by simpa using h)]
      · have hb : (((A[i].f1).length : Int) != ((B[i].f1).length : Int)) = true := by simp; omega
        rw [hb]
        exact no (fun h => h1 (by rw [h]))
    · exact Ev.step (fun k => (head k).trans (if_neg (fun h => h0 (toList_inj.1 h)))) (no (fun h => h0 (by rw [h])))
theorem same_ev (A B : List S36) (hA : A.length ≤ 1000000000000000) (hn : ∀ x ∈ A, x.f1.length ≤ 1000000000000000) (r : Bool) (hr : r = true ↔ A = B) : Ev (fun k => privityref53_Same.f k A B) r := by
  by_cases h : A.length = B.length
  · refine Ev.congr (f := fun k => privityref53_Same.l0 k A B 0) (fun k => by rw [privityref53_Same.f, if_pos (by omega)]) ?_
    exact same_go A B h hA hn r _ 0 rfl (Nat.zero_le _) (by simpa using hr)
  · obtain rfl : r = false := by
      cases r
      · rfl
      · exact absurd (by rw [hr.1 rfl]) h
    exact Ev.congr (f := fun _ => some false) (fun k => by rw [privityref53_Same.f, if_neg (by omega)]) (Ev.now _)
end Go.Proofs.YtfgbdcpfbghdoaaGreatDoor.P
end
