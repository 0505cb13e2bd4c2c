/- What is proved here: a part of the proof of ScriptFormatInjective: Spb. No conditions beside those that each theorem states. -/
import Derived.Test.YtfgbdcpfbghdoaaGreatDoorKSFIve20
import Derived.Lib.SplitLaws
section
set_option linter.unusedVariables false
set_option linter.unusedSimpArgs false
namespace Go.Proofs.YtfgbdcpfbghdoaaGreatDoor.P
open Go.RowKit Go.Proofs.YtfgbdcpfbghdoaaGreatDoorW.PrintWords Go.Proofs.YtfgbdcpfbghdoaaGreatDoorW.PrintLast Go.Proofs.YtfgbdcpfbghdoaaGreatDoorW.PrintMore
theorem bt_nat (b : List UInt8) (i : Nat) (h : i < b.length) : bt ⟨b.toArray⟩ (i : Int) = (b[i].toNat : Int) := by
  have hs : ((i : Int)).toNat < (ByteArray.mk b.toArray).size := by show _ < b.toArray.size; simpa using h
  rw [← bt_at _ _ hs]
  rfl
theorem sz (b : List UInt8) : (ByteArray.mk b.toArray).size = b.length := by show b.toArray.size = _; simp
theorem ba_toList (b : List UInt8) : (ByteArray.mk b.toArray).toList = b := by
  have key : ∀ (s : ByteArray) (d : Nat) (i : Nat) (r : List UInt8), s.size - i = d → ByteArray.toList.loop s i r = r.reverse ++ s.data.toList.drop i := by
    intro s d
    induction d with
    | zero =>
      intro i r h
      rw [ByteArray.toList.loop, if_neg (by omega), List.drop_of_length_le (by show s.data.toList.length ≤ i; have : s.size = s.data.size := rfl; simp; omega), List.append_nil]
    | succ d ih =>
      intro i r h
      have hi : i < s.data.toList.length := by have : s.size = s.data.size := rfl; simp; omega
      rw [ByteArray.toList.loop, if_pos (by omega), ih (i + 1) _ (by omega), List.drop_eq_getElem_cons hi]
      simp [ByteArray.get!]
      rw [getElem!_pos s.data i (by simpa using hi)]
  have := key ⟨b.toArray⟩ _ 0 [] rfl
  rw [ByteArray.toList, this]; simp
theorem ext_eq (b : List UInt8) (i j : Nat) : (ByteArray.mk b.toArray).extract i j = ⟨((b.drop i).take (j - i)).toArray⟩ := by
  apply ByteArray.ext; simp
theorem wrap_nat {i n : Nat} (h : i < n) (hn : n ≤ 9223372036854775807) : wrap64 ((i : Int) + 1) = ((i + 1 : Nat) : Int) := by unfold wrap64; omega
def mkB (l : List UInt8) : ByteArray := ⟨l.toArray⟩
theorem mkB_list (l : List UInt8) : (mkB l).data.toList = l := by simp [mkB]
theorem mkB_of (s : ByteArray) : mkB s.data.toList = s := by
  apply ByteArray.ext; simp [mkB]
theorem mkB_toList (l : List UInt8) : (mkB l).toList = l := ba_toList l
theorem mkB_size (l : List UInt8) : (mkB l).size = l.length := sz l
def spl (c : UInt8) (keep : Bool) : List UInt8 → List (List UInt8)
  | [] => [[]]
  | b :: r => if b = c then (if keep then [b] else []) :: spl c keep r else
      match spl c keep r with
      | [] => [[b]]
      | p :: q => (b :: p) :: q
theorem index_cons (b c : UInt8) (l : List UInt8) : Lib.index (b :: l) [c] = if b = c then 0 else if Lib.index l [c] = -1 then -1 else Lib.index l [c] + 1 := by
  rw [Lib.index_one, Lib.index_one]
  simp only [Lib.indexByte, beq_iff_eq]
theorem index_count (c : UInt8) : ∀ l : List UInt8, (Lib.index l [c] = -1 ↔ l.count c = 0) ∧ -1 ≤ Lib.index l [c]
  | [] => by rw [Lib.index_one]; simp [Lib.indexByte]
  | b :: r => by
    have ih := index_count c r
    rw [index_cons, List.count_cons]
    by_cases h : b = c
    · rw [if_pos h]; simp [h]
    · rw [if_neg h]
      by_cases h2 : Lib.index r [c] = -1
      · rw [if_pos h2]
        have := ih.1.1 h2
        simp [this, h]
      · rw [if_neg h2]
        have h3 : ¬ r.count c = 0 := fun e => h2 (ih.1.2 e)
        have h4 := ih.2
        refine ⟨⟨fun e => by omega, fun e => by simp [h] at e; omega⟩, by omega⟩
theorem splitK_spl (c : UInt8) (keep : Bool) : ∀ l : List UInt8, Lib.splitK [c] (if keep then 1 else 0) (l.count c) l = spl c keep l
  | [] => by simp [Lib.splitK, spl]
  | b :: r => by
    have ih := splitK_spl c keep r
    rw [List.count_cons]
    unfold spl
    by_cases h : b = c
    · subst h
      rw [if_pos rfl]
      simp only [beq_self_eq_true, if_true]
      unfold Lib.splitK
      have hi : Lib.index (b :: r) [b] = 0 := by rw [index_cons, if_pos rfl]
      rw [hi, if_neg (by decide)]
      have hd : (b :: r).drop ((0 : Int).toNat + [b].length) = r := by simp
      rw [hd, ih]
      cases keep <;> simp
    · rw [if_neg h]
      simp only [beq_iff_eq, h, if_false, Nat.add_zero]
      have ic := index_count c r
      cases hk : r.count c with
      | zero =>
        rw [hk] at ih
        rw [← ih]
        simp [Lib.splitK]
      | succ k =>
        have hne : ¬ Lib.index r [c] = -1 := fun e => by have := ic.1.1 e; omega
        have hge := ic.2
        rw [hk] at ih
        unfold Lib.splitK at ih ⊢
        rw [index_cons, if_neg h, if_neg hne]
        rw [if_neg (by simp; omega)] at ih ⊢
        rw [← ih]
        have e1 : (Lib.index r [c] + 1).toNat = (Lib.index r [c]).toNat + 1 := by omega
        rw [e1]
        simp only [List.length_cons, List.length_nil]
        rw [show (Lib.index r [c]).toNat + 1 + (if keep = true then 1 else 0) = ((Lib.index r [c]).toNat + (if keep = true then 1 else 0)) + 1 by omega, List.take_succ_cons, List.drop_succ_cons]
theorem pieces_spl (s : ByteArray) (c : UInt8) (keep : Bool) : piecesB s ⟨#[c]⟩ (if keep then 1 else 0) = (spl c keep s.data.toList).map mkB := by
  have h := Lib.splitB_data ⟨#[c]⟩ (if keep then 1 else 0) (Lib.countB s ⟨#[c]⟩) s
  have hc : Lib.countB s ⟨#[c]⟩ = s.data.toList.count c := by
    show Lib.count s.data.toList [c] = _
    rw [Lib.count_one]
  have h2 : (piecesB s ⟨#[c]⟩ (if keep then 1 else 0)).map (·.data.toList) = spl c keep s.data.toList := by
    rw [← splitK_spl, ← hc]; exact h
  rw [← h2, List.map_map]
  conv => lhs; rw [← List.map_id (piecesB s ⟨#[c]⟩ (if keep then 1 else 0))]
  apply List.map_congr_left
  intro x _
  simp [mkB_of]
theorem spl_app (c : UInt8) (r : List UInt8) : ∀ l : List UInt8, c ∉ l → spl c false (l ++ c :: r) = l :: spl c false r
  | [], _ => by simp [spl]
  | b :: l, h => by
    simp only [List.mem_cons, not_or] at h
    rw [List.cons_append]
    conv => lhs; unfold spl
    rw [if_neg (fun e => h.1 e.symm), spl_app c r l h.2]
theorem cut_or (c : UInt8) (l : List UInt8) : c ∉ l ∨ ∃ a r, l = a ++ c :: r ∧ c ∉ a := by
  by_cases h : c ∈ l
  · obtain ⟨a, r, h1, h2⟩ := List.eq_append_cons_of_mem h
    exact Or.inr ⟨a, r, h1, h2⟩
  · exact Or.inl h
end Go.Proofs.YtfgbdcpfbghdoaaGreatDoor.P
end
