/- What is proved here: a part of the proof of CircuitAppendMul: Cbs, Px23, Px31, Cdd, Cps. No conditions beside those that each theorem states. -/
import Derived.Test.YtmnleabeipmhmaaDoorKCAMul26
import Derived.Test.YtmnleabeipmhmaaDoorKCAMul6
import Derived.Lib.ItoaLen
import Derived.Test.YtmnleabeipmhmaaDoorKCAMul37
section
set_option linter.unusedVariables false
set_option linter.unusedSimpArgs false
namespace Go.Proofs.YtmnleabeipmhmaaDoor.P
open Go.RowKit Go.Proofs.YtmnleabeipmhmaaDoorW.PrintWords Go.Proofs.YtmnleabeipmhmaaDoorW.PrintLast Go.Proofs.YtmnleabeipmhmaaDoorW.PrintMore
theorem sz (b : List UInt8) : (ByteArray.mk b.toArray).size = b.length := by show b.toArray.size = _; simp
theorem ba_toList (b : List UInt8) : (ByteArray.mk b.toArray).toList = b := by
  have key : ∀ (s : ByteArray) (d : Nat) (i : Nat) (r : List UInt8), s.size - i = d → ByteArray.toList.loop s i r = r.reverse ++ s.data.toList.drop i := by
    intro s d
    induction d with
    | zero =>
      intro i r h
      rw [ByteArray.toList.loop, if_neg (by omega), List.drop_of_length_le (by show s.data.toList.length ≤ i; have : s.size = s.data.size := rfl; simp; omega), List.append_nil]
    | succ d ih =>
      intro i r h
      have hi : i < s.data.toList.length := by have : s.size = s.data.size := rfl; simp; omega
      rw [ByteArray.toList.loop, if_pos (by omega), ih (i + 1) _ (by omega), List.drop_eq_getElem_cons hi]
      simp [ByteArray.get!]
      rw [getElem!_pos s.data i (by simpa using hi)]
  have := key ⟨b.toArray⟩ _ 0 [] rfl
  rw [ByteArray.toList, this]; simp
theorem ext_eq (b : List UInt8) (i j : Nat) : (ByteArray.mk b.toArray).extract i j = ⟨((b.drop i).take (j - i)).toArray⟩ := by
  apply ByteArray.ext; simp
theorem wrap_nat {i n : Nat} (h : i < n) (hn : n ≤ 9223372036854775807) : wrap64 ((i : Int) + 1) = ((i + 1 : Nat) : Int) := by unfold wrap64; omega
theorem rd_nat (l : List Int) (i : Nat) (h : i < l.length) : rd l (i : Int) = l[i] := by simp [rd, h]
end Go.Proofs.YtmnleabeipmhmaaDoor.P
end
section
namespace Go.Proofs.YtmnleabeipmhmaaDoor.P
open Go.RowKit Go.Proofs.YtmnleabeipmhmaaDoorW.PrintWords Go.Proofs.YtmnleabeipmhmaaDoorW.PrintLast Go.Proofs.YtmnleabeipmhmaaDoorW.PrintMore
attribute [local go_sem] zb4 zb2 zcg zcf zby zbz zb6 zb5   -- for this text's walks alone
set_option linter.unusedVariables false
set_option linter.unusedSimpArgs false
end Go.Proofs.YtmnleabeipmhmaaDoor.P
end
section
namespace Go.Proofs.YtmnleabeipmhmaaDoor.P
open Go.RowKit Go.Proofs.YtmnleabeipmhmaaDoorW.PrintWords Go.Proofs.YtmnleabeipmhmaaDoorW.PrintLast Go.Proofs.YtmnleabeipmhmaaDoorW.PrintMore
attribute [local go_sem] zb4 zb2 zcg zcf zby zbz zb6 zb5   -- for this text's walks alone
set_option linter.unusedVariables false
set_option linter.unusedSimpArgs false
end Go.Proofs.YtmnleabeipmhmaaDoor.P
end
section
set_option linter.unusedVariables false
set_option linter.unusedSimpArgs false
namespace Go.Proofs.YtmnleabeipmhmaaDoor.P
open Go.RowKit Go.Proofs.YtmnleabeipmhmaaDoorW.PrintWords Go.Proofs.YtmnleabeipmhmaaDoorW.PrintLast Go.Proofs.YtmnleabeipmhmaaDoorW.PrintMore
open Lib (decDigits)
theorem dd_small (u : Nat) (h : u < 10) : decDigits u = [UInt8.ofNat (48 + u)] := by rw [decDigits, dif_pos h]
theorem dd_big (u : Nat) (h : ¬ u < 10) : decDigits u = decDigits (u / 10) ++ [UInt8.ofNat (48 + u % 10)] := by rw [decDigits, dif_neg h]
theorem valueFrom_append (a b : List UInt8) : ∀ n, Fmt.valueFrom n (a ++ b) = Fmt.valueFrom (Fmt.valueFrom n a) b := by
  induction a with
  | nil => intro n; rfl
  | cons c a ih => intro n; exact ih _
theorem value_snoc (a : List UInt8) (c : UInt8) : Fmt.value (a ++ [c]) = Fmt.value a * 10 + (c.toNat - 48) := by
  unfold Fmt.value; rw [valueFrom_append]; rfl
theorem value_one (c : UInt8) : Fmt.value [c] = c.toNat - 48 := by
  show 0 * 10 + (c.toNat - 48) = _
  omega
theorem headApp (a b : List UInt8) (h : a ≠ []) : (a ++ b).head? = a.head? := by cases a with | nil => exact absurd rfl h | cons x a => rfl
theorem dd_of_value : ∀ (n : Nat) (l : List UInt8), l.length = n → l ≠ [] → Fmt.digitsB l = true → ¬ (1 < l.length ∧ l.head? = some 48) → decDigits (Fmt.value l) = l := by
  intro n
  induction n with
  | zero => intro l hl hne; exact absurd (List.length_eq_zero_iff.1 hl) hne
  | succ n ih =>
    intro l hl hne hd hz
    obtain ⟨t, c, rfl⟩ : ∃ t c, l = t ++ [c] := ⟨l.dropLast, l.getLast hne, (List.dropLast_concat_getLast hne).symm⟩
    simp only [Fmt.digitsB, List.all_append, List.all_cons, List.all_nil, Bool.and_true, Bool.and_eq_true, Fmt.isDigit, decide_eq_true_eq] at hd
    obtain ⟨hdt, hc1, hc2⟩ := hd
    have hc : UInt8.ofNat (48 + (c.toNat - 48)) = c := by rw [show 48 + (c.toNat - 48) = c.toNat from by omega, UInt8.ofNat_toNat]
    by_cases ht : t = []
    · subst ht
      have hv : Fmt.value ([] ++ [c]) = c.toNat - 48 := value_one c
      rw [hv, dd_small _ (by omega), hc]; rfl
    · have hlt : 0 < t.length := List.length_pos_iff.2 ht
      have hh : t.head? ≠ some 48 := by
        intro e
        refine hz ⟨by rw [List.length_append]; simp; omega, ?_⟩
        rw [headApp _ _ ht]; exact e
      have hv : Fmt.value (t ++ [c]) = Fmt.value t * 10 + (c.toNat - 48) := value_snoc t c
      have hpos : 1 ≤ Fmt.value t := by
        cases t with
        | nil => exact absurd rfl ht
        | cons x r =>
          simp only [List.all_cons, Bool.and_eq_true, Fmt.isDigit, decide_eq_true_eq] at hdt
          have hx : x.toNat ≠ 48 := fun e => hh (by rw [List.head?_cons, ← UInt8.toNat_inj.1 (show x.toNat = (48 : UInt8).toNat from e)])
          have := Fmt.valueFrom_mono r (0 * 10 + (x.toNat - 48))
          have e : Fmt.value (x :: r) = Fmt.valueFrom (0 * 10 + (x.toNat - 48)) r := rfl
          omega
      have h1 := ih t (by rw [List.length_append] at hl; simp at hl; omega) ht hdt (fun e => hh e.2)
      rw [hv, dd_big _ (by omega), show (Fmt.value t * 10 + (c.toNat - 48)) / 10 = Fmt.value t from by omega, show (Fmt.value t * 10 + (c.toNat - 48)) % 10 = c.toNat - 48 from by omega, h1, hc]
theorem parse_exact (l : List UInt8) (h : (parseD l).2 = 0) : (parseD l).1 < 18446744073709551616 ∧ decDigits (parseD l).1 = l := by
  unfold parseD at h ⊢
  by_cases h0 : l = []
  · rw [if_pos h0] at h; simp at h
  · rw [if_neg h0] at h ⊢
    by_cases hd : Fmt.digitsB l = true
    · rw [if_pos hd] at h ⊢
      by_cases hz : 1 < l.length ∧ l.head? = some 48
      · rw [if_pos hz] at h; simp at h
      · rw [if_neg hz] at h ⊢
        by_cases hv : Fmt.value l < 18446744073709551616
        · rw [if_pos hv]; exact ⟨hv, dd_of_value _ l rfl h0 hd hz⟩
        · rw [if_neg hv] at h; simp at h
    · rw [if_neg hd] at h; simp at h
end Go.Proofs.YtmnleabeipmhmaaDoor.P
end
section
set_option linter.unusedVariables false
set_option linter.unusedSimpArgs false
namespace Go.Proofs.YtmnleabeipmhmaaDoor.P
open Go.RowKit Go.Proofs.YtmnleabeipmhmaaDoorW.PrintWords Go.Proofs.YtmnleabeipmhmaaDoorW.PrintLast Go.Proofs.YtmnleabeipmhmaaDoorW.PrintMore
def mkB (l : List UInt8) : ByteArray := ⟨l.toArray⟩
theorem mkB_list (l : List UInt8) : (mkB l).data.toList = l := by simp [mkB]
theorem mkB_of (s : ByteArray) : mkB s.data.toList = s := by
  apply ByteArray.ext; simp [mkB]
theorem mkB_toList (l : List UInt8) : (mkB l).toList = l := ba_toList l
def spl (c : UInt8) (keep : Bool) : List UInt8 → List (List UInt8)
  | [] => [[]]
  | b :: r => if b = c then (if keep then [b] else []) :: spl c keep r else
      match spl c keep r with
      | [] => [[b]]
      | p :: q => (b :: p) :: q
theorem spl_ne (c : UInt8) (keep : Bool) (l : List UInt8) : spl c keep l ≠ [] := by
  cases l with
  | nil => simp [spl]
  | cons b r =>
    unfold spl
    split
    · simp
    · split <;> simp
theorem index_cons (b c : UInt8) (l : List UInt8) : Lib.index (b :: l) [c] = if b = c then 0 else if Lib.index l [c] = -1 then -1 else Lib.index l [c] + 1 := by
  rw [Lib.index_one, Lib.index_one]
  simp only [Lib.indexByte, beq_iff_eq]
theorem index_count (c : UInt8) : ∀ l : List UInt8, (Lib.index l [c] = -1 ↔ l.count c = 0) ∧ -1 ≤ Lib.index l [c]
  | [] => by rw [Lib.index_one]; simp [Lib.indexByte]
  | b :: r => by
    have ih := index_count c r
    rw [index_cons, List.count_cons]
    by_cases h : b = c
    · rw [if_pos h]; simp [h]
    · rw [if_neg h]
      by_cases h2 : Lib.index r [c] = -1
      · rw [if_pos h2]
        have := ih.1.1 h2
        simp [this, h]
      · rw [if_neg h2]
        have h3 : ¬ r.count c = 0 := fun e => h2 (ih.1.2 e)
        have h4 := ih.2
        refine ⟨⟨fun e => by omega, fun e => by simp [h] at e; omega⟩, by omega⟩
theorem splitK_spl (c : UInt8) (keep : Bool) : ∀ l : List UInt8, Lib.splitK [c] (if keep then 1 else 0) (l.count c) l = spl c keep l
  | [] => by simp [Lib.splitK, spl]
  | b :: r => by
    have ih := splitK_spl c keep r
    rw [List.count_cons]
    unfold spl
    by_cases h : b = c
    · subst h
      rw [if_pos rfl]
      simp only [beq_self_eq_true, if_true]
      unfold Lib.splitK
      have hi : Lib.index (b :: r) [b] = 0 := by rw [index_cons, if_pos rfl]
      rw [hi, if_neg (by decide)]
      have hd : (b :: r).drop ((0 : Int).toNat + [b].length) = r := by simp
      rw [hd, ih]
      cases keep <;> simp
    · rw [if_neg h]
      simp only [beq_iff_eq, h, if_false, Nat.add_zero]
      have ic := index_count c r
      cases hk : r.count c with
      | zero =>
        rw [hk] at ih
        rw [← ih]
        simp [Lib.splitK]
      | succ k =>
        have hne : ¬ Lib.index r [c] = -1 := fun e => by have := ic.1.1 e; omega
        have hge := ic.2
        rw [hk] at ih
        unfold Lib.splitK at ih ⊢
        rw [index_cons, if_neg h, if_neg hne]
        rw [if_neg (by simp; omega)] at ih ⊢
        rw [← ih]
        have e1 : (Lib.index r [c] + 1).toNat = (Lib.index r [c]).toNat + 1 := by omega
        rw [e1]
        simp only [List.length_cons, List.length_nil]
        rw [show (Lib.index r [c]).toNat + 1 + (if keep = true then 1 else 0) = ((Lib.index r [c]).toNat + (if keep = true then 1 else 0)) + 1 by omega, List.take_succ_cons, List.drop_succ_cons]
theorem pieces_spl (s : ByteArray) (c : UInt8) (keep : Bool) : zb3 s ⟨#[c]⟩ (if keep then 1 else 0) = (spl c keep s.data.toList).map mkB := by
  have h := Lib.splitB_data ⟨#[c]⟩ (if keep then 1 else 0) (Lib.countB s ⟨#[c]⟩) s
  have hc : Lib.countB s ⟨#[c]⟩ = s.data.toList.count c := by
    show Lib.count s.data.toList [c] = _
    rw [Lib.count_one]
  have h2 : (zb3 s ⟨#[c]⟩ (if keep then 1 else 0)).map (·.data.toList) = spl c keep s.data.toList := by
    rw [← splitK_spl, ← hc]; exact h
  rw [← h2, List.map_map]
  conv => lhs; rw [← List.map_id (zb3 s ⟨#[c]⟩ (if keep then 1 else 0))]
  apply List.map_congr_left
  intro x _
  simp [mkB_of]
end Go.Proofs.YtmnleabeipmhmaaDoor.P
end
