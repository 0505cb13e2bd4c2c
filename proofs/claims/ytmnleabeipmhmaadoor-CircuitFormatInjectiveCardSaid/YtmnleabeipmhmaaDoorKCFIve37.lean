/- What is proved here: a part of the proof of CircuitFormatInjective: Cbs, Px23, Px31, Cdd. No conditions beside those that each theorem states. -/
import Derived.Test.YtmnleabeipmhmaaDoorKCFIve19
import Derived.Test.YtmnleabeipmhmaaDoorKCFIve5
import Derived.Lib.ItoaLen
section
set_option linter.unusedVariables false
set_option linter.unusedSimpArgs false
namespace Go.Proofs.YtmnleabeipmhmaaDoor.P
open Go.RowKit Go.Proofs.YtmnleabeipmhmaaDoorW.PrintWords Go.Proofs.YtmnleabeipmhmaaDoorW.PrintLast Go.Proofs.YtmnleabeipmhmaaDoorW.PrintMore
theorem sz (b : List UInt8) : (ByteArray.mk b.toArray).size = b.length := by show b.toArray.size = _; simp
theorem ba_toList (b : List UInt8) : (ByteArray.mk b.toArray).toList = b := by
  have key : ∀ (s : ByteArray) (d : Nat) (i : Nat) (r : List UInt8), s.size - i = d → ByteArray.toList.loop s i r = r.reverse ++ s.data.toList.drop i := by
    intro s d
    induction d with
    | zero =>
      intro i r h
      rw [ByteArray.toList.loop, if_neg (by omega), List.drop_of_length_le (by show s.data.toList.length ≤ i; have : s.size = s.data.size := rfl; simp; omega), List.append_nil]
    | succ d ih =>
      intro i r h
      have hi : i < s.data.toList.length := by have : s.size = s.data.size := rfl; simp; omega
      rw [ByteArray.toList.loop, if_pos (by omega), ih (i + 1) _ (by omega), List.drop_eq_getElem_cons hi]
      simp [ByteArray.get!]
      rw [getElem!_pos s.data i (by simpa using hi)]
  have := key ⟨b.toArray⟩ _ 0 [] rfl
  rw [ByteArray.toList, this]; simp
theorem ext_eq (b : List UInt8) (i j : Nat) : (ByteArray.mk b.toArray).extract i j = ⟨((b.drop i).take (j - i)).toArray⟩ := by
  apply ByteArray.ext; simp
theorem wrap_nat {i n : Nat} (h : i < n) (hn : n ≤ 9223372036854775807) : wrap64 ((i : Int) + 1) = ((i + 1 : Nat) : Int) := by unfold wrap64; omega
theorem rd_nat (l : List Int) (i : Nat) (h : i < l.length) : rd l (i : Int) = l[i] := by simp [rd, h]
end Go.Proofs.YtmnleabeipmhmaaDoor.P
end
section
namespace Go.Proofs.YtmnleabeipmhmaaDoor.P
open Go.RowKit Go.Proofs.YtmnleabeipmhmaaDoorW.PrintWords Go.Proofs.YtmnleabeipmhmaaDoorW.PrintLast Go.Proofs.YtmnleabeipmhmaaDoorW.PrintMore
attribute [local go_sem] zbg zbf zbp zbm za9 zba zbh zbi   -- for this text's walks alone
set_option linter.unusedVariables false
set_option linter.unusedSimpArgs false
end Go.Proofs.YtmnleabeipmhmaaDoor.P
end
section
namespace Go.Proofs.YtmnleabeipmhmaaDoor.P
open Go.RowKit Go.Proofs.YtmnleabeipmhmaaDoorW.PrintWords Go.Proofs.YtmnleabeipmhmaaDoorW.PrintLast Go.Proofs.YtmnleabeipmhmaaDoorW.PrintMore
attribute [local go_sem] zbg zbf zbp zbm za9 zba zbh zbi   -- for this text's walks alone
set_option linter.unusedVariables false
set_option linter.unusedSimpArgs false
end Go.Proofs.YtmnleabeipmhmaaDoor.P
end
section
set_option linter.unusedVariables false
set_option linter.unusedSimpArgs false
namespace Go.Proofs.YtmnleabeipmhmaaDoor.P
open Go.RowKit Go.Proofs.YtmnleabeipmhmaaDoorW.PrintWords Go.Proofs.YtmnleabeipmhmaaDoorW.PrintLast Go.Proofs.YtmnleabeipmhmaaDoorW.PrintMore
open Lib (decDigits)
theorem dd_small (u : Nat) (h : u < 10) : decDigits u = [UInt8.ofNat (48 + u)] := by rw [decDigits, dif_pos h]
theorem dd_big (u : Nat) (h : ¬ u < 10) : decDigits u = decDigits (u / 10) ++ [UInt8.ofNat (48 + u % 10)] := by rw [decDigits, dif_neg h]
theorem dig (n : Nat) (h : n < 10) : (UInt8.ofNat (48 + n)).toNat = 48 + n := by rw [UInt8.toNat_ofNat']; omega
theorem dd_digits (u : Nat) : Fmt.digitsB (decDigits u) = true := by
  induction u using Nat.strongRecOn with
  | ind u ih =>
    by_cases h : u < 10
    · rw [dd_small u h]; simp only [Fmt.digitsB, List.all_cons, List.all_nil, Fmt.isDigit, dig u h]; simp; omega
    · rw [dd_big u h]
      have := ih (u / 10) (by omega)
      simp only [Fmt.digitsB] at this ⊢
      rw [List.all_append, this]
      simp only [List.all_cons, List.all_nil, Fmt.isDigit, dig (u % 10) (by omega)]; simp; omega
theorem valueFrom_append (a b : List UInt8) : ∀ n, Fmt.valueFrom n (a ++ b) = Fmt.valueFrom (Fmt.valueFrom n a) b := by
  induction a with
  | nil => intro n; rfl
  | cons c a ih => intro n; exact ih _
theorem value_snoc (a : List UInt8) (c : UInt8) : Fmt.value (a ++ [c]) = Fmt.value a * 10 + (c.toNat - 48) := by
  unfold Fmt.value; rw [valueFrom_append]; rfl
theorem value_one (c : UInt8) : Fmt.value [c] = c.toNat - 48 := by
  show 0 * 10 + (c.toNat - 48) = _
  omega
theorem dd_value (u : Nat) : Fmt.value (decDigits u) = u := by
  induction u using Nat.strongRecOn with
  | ind u ih =>
    by_cases h : u < 10
    · have hd := dig u h
      rw [dd_small u h, value_one, hd]; omega
    · have hv := ih (u / 10) (by omega)
      have hd := dig (u % 10) (by omega)
      have e := value_snoc (decDigits (u / 10)) (UInt8.ofNat (48 + u % 10))
      rw [hv, hd] at e
      rw [dd_big u h, e]
      omega
theorem dd_ne (u : Nat) : decDigits u ≠ [] := by
  by_cases h : u < 10
  · rw [dd_small u h]; simp
  · rw [dd_big u h]; simp
theorem headApp (a b : List UInt8) (h : a ≠ []) : (a ++ b).head? = a.head? := by cases a with | nil => exact absurd rfl h | cons x a => rfl
theorem dd_head (u : Nat) (hu : 0 < u) : (decDigits u).head? ≠ some 48 := by
  induction u using Nat.strongRecOn with
  | ind u ih =>
    by_cases h : u < 10
    · rw [dd_small u h]
      simp only [List.head?_cons, ne_eq, Option.some.injEq]
      intro e
      have := congrArg UInt8.toNat e
      rw [dig u h] at this
      have e48 : (48 : UInt8).toNat = 48 := rfl
      omega
    · rw [dd_big u h, headApp _ _ (dd_ne _)]
      exact ih (u / 10) (by omega) (by omega)
theorem dd_len (u : Nat) (h : 1 < (decDigits u).length) : 0 < u := by
  by_cases h0 : u < 10
  · rw [dd_small u h0] at h; simp at h
  · omega
theorem parse_dd (u : Nat) (h : u < 18446744073709551616) : parseD (decDigits u) = (u, 0) := by
  unfold parseD
  rw [if_neg (dd_ne u), if_pos (dd_digits u), if_neg (fun e => dd_head u (dd_len u e.1) e.2), dd_value, if_pos h]
theorem dd_of_value : ∀ (n : Nat) (l : List UInt8), l.length = n → l ≠ [] → Fmt.digitsB l = true → ¬ (1 < l.length ∧ l.head? = some 48) → decDigits (Fmt.value l) = l := by
  intro n
  induction n with
  | zero => intro l hl hne; exact absurd (List.length_eq_zero_iff.1 hl) hne
  | succ n ih =>
    intro l hl hne hd hz
    obtain ⟨t, c, rfl⟩ : ∃ t c, l = t ++ [c] := ⟨l.dropLast, l.getLast hne, (List.dropLast_concat_getLast hne).symm⟩
    simp only [Fmt.digitsB, List.all_append, List.all_cons, List.all_nil, Bool.and_true, Bool.and_eq_true, Fmt.isDigit, decide_eq_true_eq] at hd
    obtain ⟨hdt, hc1, hc2⟩ := hd
    have hc : UInt8.ofNat (48 + (c.toNat - 48)) = c := by rw [show 48 + (c.toNat - 48) = c.toNat from by omega, UInt8.ofNat_toNat]
    by_cases ht : t = []
    · subst ht
      have hv : Fmt.value ([] ++ [c]) = c.toNat - 48 := value_one c
      rw [hv, dd_small _ (by omega), hc]; rfl
    · have hlt : 0 < t.length := List.length_pos_iff.2 ht
      have hh : t.head? ≠ some 48 := by
        intro e
        refine hz ⟨by rw [List.length_append]; simp; omega, ?_⟩
        rw [headApp _ _ ht]; exact e
      have hv : Fmt.value (t ++ [c]) = Fmt.value t * 10 + (c.toNat - 48) := value_snoc t c
      have hpos : 1 ≤ Fmt.value t := by
        cases t with
        | nil => exact absurd rfl ht
        | cons x r =>
          simp only [List.all_cons, Bool.and_eq_true, Fmt.isDigit, decide_eq_true_eq] at hdt
          have hx : x.toNat ≠ 48 := fun e => hh (by rw [List.head?_cons, ← UInt8.toNat_inj.1 (show x.toNat = (48 : UInt8).toNat from e)])
          have := Fmt.valueFrom_mono r (0 * 10 + (x.toNat - 48))
          have e : Fmt.value (x :: r) = Fmt.valueFrom (0 * 10 + (x.toNat - 48)) r := rfl
          omega
      have h1 := ih t (by rw [List.length_append] at hl; simp at hl; omega) ht hdt (fun e => hh e.2)
      rw [hv, dd_big _ (by omega), show (Fmt.value t * 10 + (c.toNat - 48)) / 10 = Fmt.value t from by omega, show (Fmt.value t * 10 + (c.toNat - 48)) % 10 = c.toNat - 48 from by omega, h1, hc]
theorem parse_exact (l : List UInt8) (h : (parseD l).2 = 0) : (parseD l).1 < 18446744073709551616 ∧ decDigits (parseD l).1 = l := by
  unfold parseD at h ⊢
  by_cases h0 : l = []
  · rw [if_pos h0] at h; simp at h
  · rw [if_neg h0] at h ⊢
    by_cases hd : Fmt.digitsB l = true
    · rw [if_pos hd] at h ⊢
      by_cases hz : 1 < l.length ∧ l.head? = some 48
      · rw [if_pos hz] at h; simp at h
      · rw [if_neg hz] at h ⊢
        by_cases hv : Fmt.value l < 18446744073709551616
        · rw [if_pos hv]; exact ⟨hv, dd_of_value _ l rfl h0 hd hz⟩
        · rw [if_neg hv] at h; simp at h
    · rw [if_neg hd] at h; simp at h
end Go.Proofs.YtmnleabeipmhmaaDoor.P
end
