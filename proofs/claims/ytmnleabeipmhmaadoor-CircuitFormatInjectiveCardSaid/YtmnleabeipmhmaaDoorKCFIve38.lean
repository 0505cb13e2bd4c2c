/- What is proved here: a part of the proof of CircuitFormatInjective: Cps. No conditions beside those that each theorem states. -/
import Derived.Test.YtmnleabeipmhmaaDoorKCFIve37
import Derived.Test.YtmnleabeipmhmaaDoorKCFIve32
section
set_option linter.unusedVariables false
set_option linter.unusedSimpArgs false
namespace Go.Proofs.YtmnleabeipmhmaaDoor.P
open Go.RowKit Go.Proofs.YtmnleabeipmhmaaDoorW.PrintWords Go.Proofs.YtmnleabeipmhmaaDoorW.PrintLast Go.Proofs.YtmnleabeipmhmaaDoorW.PrintMore
def mkB (l : List UInt8) : ByteArray := ⟨l.toArray⟩
theorem mkB_list (l : List UInt8) : (mkB l).data.toList = l := by simp [mkB]
theorem mkB_of (s : ByteArray) : mkB s.data.toList = s := by
  apply ByteArray.ext; simp [mkB]
theorem mkB_toList (l : List UInt8) : (mkB l).toList = l := ba_toList l
def spl (c : UInt8) (keep : Bool) : List UInt8 → List (List UInt8)
  | [] => [[]]
  | b :: r => if b = c then (if keep then [b] else []) :: spl c keep r else
      match spl c keep r with
      | [] => [[b]]
      | p :: q => (b :: p) :: q
theorem spl_ne (c : UInt8) (keep : Bool) (l : List UInt8) : spl c keep l ≠ [] := by
  cases l with
  | nil => simp [spl]
  | cons b r =>
    unfold spl
    split
    · simp
    · split <;> simp
theorem index_cons (b c : UInt8) (l : List UInt8) : Lib.index (b :: l) [c] = if b = c then 0 else if Lib.index l [c] = -1 then -1 else Lib.index l [c] + 1 := by
  rw [Lib.index_one, Lib.index_one]
  simp only [Lib.indexByte, beq_iff_eq]
theorem index_count (c : UInt8) : ∀ l : List UInt8, (Lib.index l [c] = -1 ↔ l.count c = 0) ∧ -1 ≤ Lib.index l [c]
  | [] => by rw [Lib.index_one]; simp [Lib.indexByte]
  | b :: r => by
    have ih := index_count c r
    rw [index_cons, List.count_cons]
    by_cases h : b = c
    · rw [if_pos h]; simp [h]
    · rw [if_neg h]
      by_cases h2 : Lib.index r [c] = -1
      · rw [if_pos h2]
        have := ih.1.1 h2
        simp [this, h]
      · rw [if_neg h2]
        have h3 : ¬ r.count c = 0 := fun e => h2 (ih.1.2 e)
        have h4 := ih.2
        refine ⟨⟨fun e => by omega, fun e => by simp [h] at e; omega⟩, by omega⟩
theorem splitK_spl (c : UInt8) (keep : Bool) : ∀ l : List UInt8, Lib.splitK [c] (if keep then 1 else 0) (l.count c) l = spl c keep l
  | [] => by simp [Lib.splitK, spl]
  | b :: r => by
    have ih := splitK_spl c keep r
    rw [List.count_cons]
    unfold spl
    by_cases h : b = c
    · subst h
      rw [if_pos rfl]
      simp only [beq_self_eq_true, if_true]
      unfold Lib.splitK
      have hi : Lib.index (b :: r) [b] = 0 := by rw [index_cons, if_pos rfl]
      rw [hi, if_neg (by decide)]
      have hd : (b :: r).drop ((0 : Int).toNat + [b].length) = r := by simp
      rw [hd, ih]
      cases keep <;> simp
    · rw [if_neg h]
      simp only [beq_iff_eq, h, if_false, Nat.add_zero]
      have ic := index_count c r
      cases hk : r.count c with
      | zero =>
        rw [hk] at ih
        rw [← ih]
        simp [Lib.splitK]
      | succ k =>
        have hne : ¬ Lib.index r [c] = -1 := fun e => by have := ic.1.1 e; omega
        have hge := ic.2
        rw [hk] at ih
        unfold Lib.splitK at ih ⊢
        rw [index_cons, if_neg h, if_neg hne]
        rw [if_neg (by simp; omega)] at ih ⊢
        rw [← ih]
        have e1 : (Lib.index r [c] + 1).toNat = (Lib.index r [c]).toNat + 1 := by omega
        rw [e1]
        simp only [List.length_cons, List.length_nil]
        rw [show (Lib.index r [c]).toNat + 1 + (if keep = true then 1 else 0) = ((Lib.index r [c]).toNat + (if keep = true then 1 else 0)) + 1 by omega, List.take_succ_cons, List.drop_succ_cons]
theorem pieces_spl (s : ByteArray) (c : UInt8) (keep : Bool) : zbl s ⟨#[c]⟩ (if keep then 1 else 0) = (spl c keep s.data.toList).map mkB := by
  have h := Lib.splitB_data ⟨#[c]⟩ (if keep then 1 else 0) (Lib.countB s ⟨#[c]⟩) s
  have hc : Lib.countB s ⟨#[c]⟩ = s.data.toList.count c := by
    show Lib.count s.data.toList [c] = _
    rw [Lib.count_one]
  have h2 : (zbl s ⟨#[c]⟩ (if keep then 1 else 0)).map (·.data.toList) = spl c keep s.data.toList := by
    rw [← splitK_spl, ← hc]; exact h
  rw [← h2, List.map_map]
  conv => lhs; rw [← List.map_id (zbl s ⟨#[c]⟩ (if keep then 1 else 0))]
  apply List.map_congr_left
  intro x _
  simp [mkB_of]
end Go.Proofs.YtmnleabeipmhmaaDoor.P
end
