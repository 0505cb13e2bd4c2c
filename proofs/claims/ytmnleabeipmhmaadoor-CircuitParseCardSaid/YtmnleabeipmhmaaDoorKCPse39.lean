/- What is proved here: a part of the proof of CircuitParse: Cbs, Cdd, Cps. No conditions beside those that each theorem states. -/
import Derived.Test.YtmnleabeipmhmaaDoorKCPse14
import Derived.Lib.ItoaLen
import Derived.Test.YtmnleabeipmhmaaDoorKCPse28
import Derived.Test.YtmnleabeipmhmaaDoorKCPse29
import Derived.Test.YtmnleabeipmhmaaDoorKCPse23
section
set_option linter.unusedVariables false
set_option linter.unusedSimpArgs false
namespace Go.Proofs.YtmnleabeipmhmaaDoor.P
open Go.RowKit Go.Proofs.YtmnleabeipmhmaaDoorW.PrintWords Go.Proofs.YtmnleabeipmhmaaDoorW.PrintLast Go.Proofs.YtmnleabeipmhmaaDoorW.PrintMore
theorem wrapU_nat (n : Nat) (h : n < 18446744073709551616) : IntKind.u64.wrap (n : Int) = (n : Int) := by
  simp [IntKind.wrap, IntKind.bits, IntKind.signed]; omega
def bi (l : List UInt8) : List Int := l.map fun b => (b.toNat : Int)
theorem str_bi (l : List UInt8) : strOfNums (bi l) = ⟨l.toArray⟩ := by
  simp [strOfNums, bi, Function.comp_def]
theorem bt_nat (b : List UInt8) (i : Nat) (h : i < b.length) : bt ⟨b.toArray⟩ (i : Int) = (b[i].toNat : Int) := by
  have hs : ((i : Int)).toNat < (ByteArray.mk b.toArray).size := by show _ < b.toArray.size; simpa using h
  rw [← bt_at _ _ hs]
  rfl
theorem sz (b : List UInt8) : (ByteArray.mk b.toArray).size = b.length := by show b.toArray.size = _; simp
theorem ba_toList (b : List UInt8) : (ByteArray.mk b.toArray).toList = b := by
  have key : ∀ (s : ByteArray) (d : Nat) (i : Nat) (r : List UInt8), s.size - i = d → ByteArray.toList.loop s i r = r.reverse ++ s.data.toList.drop i := by
    intro s d
    induction d with
    | zero =>
      intro i r h
      rw [ByteArray.toList.loop, if_neg (by omega), List.drop_of_length_le (by show s.data.toList.length ≤ i; have : s.size = s.data.size := rfl; simp; omega), List.append_nil]
    | succ d ih =>
      intro i r h
      have hi : i < s.data.toList.length := by have : s.size = s.data.size := rfl; simp; omega
      rw [ByteArray.toList.loop, if_pos (by omega), ih (i + 1) _ (by omega), List.drop_eq_getElem_cons hi]
      simp [ByteArray.get!]
      rw [getElem!_pos s.data i (by simpa using hi)]
  have := key ⟨b.toArray⟩ _ 0 [] rfl
  rw [ByteArray.toList, this]; simp
theorem ext_eq (b : List UInt8) (i j : Nat) : (ByteArray.mk b.toArray).extract i j = ⟨((b.drop i).take (j - i)).toArray⟩ := by
  apply ByteArray.ext; simp
theorem zdd {i n : Nat} (h : i < n) (hn : n ≤ 9223372036854775807) : wrap64 ((i : Int) + 1) = ((i + 1 : Nat) : Int) := by unfold wrap64; omega
theorem rd_nat (l : List Int) (i : Nat) (h : i < l.length) : rd l (i : Int) = l[i] := by simp [rd, h]
end Go.Proofs.YtmnleabeipmhmaaDoor.P
end
section
set_option linter.unusedVariables false
set_option linter.unusedSimpArgs false
namespace Go.Proofs.YtmnleabeipmhmaaDoor.P
open Go.RowKit Go.Proofs.YtmnleabeipmhmaaDoorW.PrintWords Go.Proofs.YtmnleabeipmhmaaDoorW.PrintLast Go.Proofs.YtmnleabeipmhmaaDoorW.PrintMore
open Lib (decDigits)
theorem dd_small (u : Nat) (h : u < 10) : decDigits u = [UInt8.ofNat (48 + u)] := by rw [decDigits, dif_pos h]
theorem dd_big (u : Nat) (h : ¬ u < 10) : decDigits u = decDigits (u / 10) ++ [UInt8.ofNat (48 + u % 10)] := by rw [decDigits, dif_neg h]
theorem dig (n : Nat) (h : n < 10) : (UInt8.ofNat (48 + n)).toNat = 48 + n := by rw [UInt8.toNat_ofNat']; omega
theorem valueFrom_append (a b : List UInt8) : ∀ n, Fmt.valueFrom n (a ++ b) = Fmt.valueFrom (Fmt.valueFrom n a) b := by
  induction a with
  | nil => intro n; rfl
  | cons c a ih => intro n; exact ih _
theorem value_snoc (a : List UInt8) (c : UInt8) : Fmt.value (a ++ [c]) = Fmt.value a * 10 + (c.toNat - 48) := by
  unfold Fmt.value; rw [valueFrom_append]; rfl
theorem value_one (c : UInt8) : Fmt.value [c] = c.toNat - 48 := by
  show 0 * 10 + (c.toNat - 48) = _
  omega
theorem dd_ne (u : Nat) : decDigits u ≠ [] := by
  by_cases h : u < 10
  · rw [dd_small u h]; simp
  · rw [dd_big u h]; simp
theorem headApp (a b : List UInt8) (h : a ≠ []) : (a ++ b).head? = a.head? := by cases a with | nil => exact absurd rfl h | cons x a => rfl
theorem dd_length (u : Nat) (h : u < 18446744073709551616) : (decDigits u).length ≤ 20 := by rw [Lib.decDigits_length]; exact Lib.nDigits_le20 u h
theorem dd_of_value : ∀ (n : Nat) (l : List UInt8), l.length = n → l ≠ [] → Fmt.digitsB l = true → ¬ (1 < l.length ∧ l.head? = some 48) → decDigits (Fmt.value l) = l := by
  intro n
  induction n with
  | zero => intro l hl hne; exact absurd (List.length_eq_zero_iff.1 hl) hne
  | succ n ih =>
    intro l hl hne hd hz
    obtain ⟨t, c, rfl⟩ : ∃ t c, l = t ++ [c] := ⟨l.dropLast, l.getLast hne, (List.dropLast_concat_getLast hne).symm⟩
    simp only [Fmt.digitsB, List.all_append, List.all_cons, List.all_nil, Bool.and_true, Bool.and_eq_true, Fmt.isDigit, decide_eq_true_eq] at hd
    obtain ⟨hdt, hc1, hc2⟩ := hd
    have hc : UInt8.ofNat (48 + (c.toNat - 48)) = c := by rw [show 48 + (c.toNat - 48) = c.toNat from by omega, UInt8.ofNat_toNat]
    by_cases ht : t = []
    · subst ht
      have hv : Fmt.value ([] ++ [c]) = c.toNat - 48 := value_one c
      rw [hv, dd_small _ (by omega), hc]; rfl
    · have hlt : 0 < t.length := List.length_pos_iff.2 ht
      have hh : t.head? ≠ some 48 := by
        intro e
        refine hz ⟨by rw [List.length_append]; simp; omega, ?_⟩
        rw [headApp _ _ ht]; exact e
      have hv : Fmt.value (t ++ [c]) = Fmt.value t * 10 + (c.toNat - 48) := value_snoc t c
      have hpos : 1 ≤ Fmt.value t := by
        cases t with
        | nil => exact absurd rfl ht
        | cons x r =>
          simp only [List.all_cons, Bool.and_eq_true, Fmt.isDigit, decide_eq_true_eq] at hdt
          have hx : x.toNat ≠ 48 := fun e => hh (by rw [List.head?_cons, ← UInt8.toNat_inj.1 (show x.toNat = (48 : UInt8).toNat from e)])
          have := Fmt.valueFrom_mono r (0 * 10 + (x.toNat - 48))
          have e : Fmt.value (x :: r) = Fmt.valueFrom (0 * 10 + (x.toNat - 48)) r := rfl
          omega
      have h1 := ih t (by rw [List.length_append] at hl; simp at hl; omega) ht hdt (fun e => hh e.2)
      rw [hv, dd_big _ (by omega), show (Fmt.value t * 10 + (c.toNat - 48)) / 10 = Fmt.value t from by omega, show (Fmt.value t * 10 + (c.toNat - 48)) % 10 = c.toNat - 48 from by omega, h1, hc]
theorem parse_exact (l : List UInt8) (h : (zc5 l).2 = 0) : (zc5 l).1 < 18446744073709551616 ∧ decDigits (zc5 l).1 = l := by
  unfold zc5 at h ⊢
  by_cases h0 : l = []
  · rw [if_pos h0] at h; simp at h
  · rw [if_neg h0] at h ⊢
    by_cases hd : Fmt.digitsB l = true
    · rw [if_pos hd] at h ⊢
      by_cases hz : 1 < l.length ∧ l.head? = some 48
      · rw [if_pos hz] at h; simp at h
      · rw [if_neg hz] at h ⊢
        by_cases hv : Fmt.value l < 18446744073709551616
        · rw [if_pos hv]; exact ⟨hv, dd_of_value _ l rfl h0 hd hz⟩
        · rw [if_neg hv] at h; simp at h
    · rw [if_neg hd] at h; simp at h
theorem app_eq (a b : List UInt8) : (ByteArray.mk a.toArray) ++ (⟨b.toArray⟩ : ByteArray) = ⟨(a ++ b).toArray⟩ := by apply ByteArray.ext; simp
theorem fmt_digit (m : Nat) (h : m < 18446744073709551616) : strOfNums [(IntKind.u64.wrap (48 + (Int.tmod (m : Int) 10))) % 256] = ⟨[UInt8.ofNat (48 + m % 10)].toArray⟩ := by
  have e : Int.tmod (m : Int) 10 = ((m % 10 : Nat) : Int) := by rw [Int.tmod_eq_emod_of_nonneg (by omega)]; omega
  have e2 : IntKind.u64.wrap (48 + (Int.tmod (m : Int) 10)) % 256 = ((UInt8.ofNat (48 + m % 10)).toNat : Int) := by
    rw [e, dig _ (by omega), show (48 : Int) + ((m % 10 : Nat) : Int) = ((48 + m % 10 : Nat) : Int) from by omega, wrapU_nat _ (by omega)]; omega
  rw [e2]
  exact str_bi [UInt8.ofNat (48 + m % 10)]
theorem fmt_div (m : Nat) (h : m < 18446744073709551616) : IntKind.u64.wrap (Int.tdiv (m : Int) 10) = ((m / 10 : Nat) : Int) := by
  have e : Int.tdiv (m : Int) 10 = ((m / 10 : Nat) : Int) := by rw [Int.tdiv_eq_ediv_of_nonneg (by omega)]; omega
  rw [e, wrapU_nat _ (by omega)]
theorem rf_go (n : Nat) : n < 18446744073709551616 → ∀ acc : List UInt8, acc.length + (decDigits n).length ≤ 1000 →
    Ev (fun k => zay.l0 k (n : Int) ⟨acc.toArray⟩) ⟨((if n < 10 then [] else decDigits (n / 10)) ++ acc).toArray⟩ := by
  induction n using Nat.strongRecOn with
  | ind n ih =>
    intro hn acc ha
    by_cases h : n < 10
    · rw [if_pos h, List.nil_append]
      exact Ev.step (f := fun _ => some (⟨acc.toArray⟩ : ByteArray)) (fun k => by simp only [zay.l0]; rw [if_neg (by omega)]) (Ev.now _)
    · rw [if_neg h]
      rw [dd_big n h, List.length_append] at ha
      have hl := dd_ne (n / 10)
      have hl2 : 0 < (decDigits (n / 10)).length := List.length_pos_iff.2 hl
      simp only [List.length_cons, List.length_nil] at ha
      refine Ev.step (fun k => by
        simp only [zay.l0]
        rw [if_pos (by omega), fmt_div n hn, Option.bind_some, fmt_digit _ (by omega), if_pos (by rw [sz, sz]; simp only [List.length_cons, List.length_nil]; omega), app_eq]) ?_
      have h1 := ih (n / 10) (by omega) (by omega) ([UInt8.ofNat (48 + n / 10 % 10)] ++ acc) (by simp only [List.length_append, List.length_cons, List.length_nil]; omega)
      rw [show decDigits (n / 10) ++ acc = (if n / 10 < 10 then [] else decDigits (n / 10 / 10)) ++ ([UInt8.ofNat (48 + n / 10 % 10)] ++ acc) from by
        by_cases h2 : n / 10 < 10
        · rw [if_pos h2, dd_small _ h2, Nat.mod_eq_of_lt h2]; rfl
        · rw [if_neg h2, dd_big _ h2, List.append_assoc]]
      exact h1
theorem refFormat (n : Nat) (hn : n < 18446744073709551616) : Ev (fun k => zay.f k (n : Int)) ⟨(decDigits n).toArray⟩ := by
  have hl := dd_length n hn
  have h := rf_go n hn [UInt8.ofNat (48 + n % 10)] (by simp only [List.length_cons, List.length_nil]; omega)
  refine Ev.congr (fun k => by simp only [zay.f]; rw [fmt_digit n hn]) ?_
  rw [show decDigits n = (if n < 10 then [] else decDigits (n / 10)) ++ [UInt8.ofNat (48 + n % 10)] from by
    by_cases h2 : n < 10
    · rw [if_pos h2, dd_small _ h2, Nat.mod_eq_of_lt h2]; rfl
    · rw [if_neg h2]; exact dd_big _ h2]
  exact h
theorem rp_sum (b : List UInt8) (hb : b.length ≤ 1000000) (hd : Fmt.digitsB b = true) (d : Nat) : ∀ (i acc : Nat), b.length - i = d → i ≤ b.length → acc < 18446744073709551616 →
    Ev (fun k => zai.l1 k ⟨b.toArray⟩ (acc : Int) (i : Int)) (if Fmt.valueFrom acc (b.drop i) < 18446744073709551616 then ((Fmt.valueFrom acc (b.drop i) : Int), 0) else (0, 2)) := by
  induction d with
  | zero =>
    intro i acc hdd hi ha
    obtain rfl : i = b.length := by omega
    rw [List.drop_length]
    refine Ev.step (f := fun _ => some ((acc : Int), (0 : Int))) (fun k => by simp only [zai.l1]; rw [if_neg (by rw [sz]; omega)]) ?_
    rw [show Fmt.valueFrom acc [] = acc from rfl, if_pos ha]
    exact Ev.now _
  | succ d ih =>
    intro i acc hdd hi ha
    have hlt : i < b.length := by omega
    have hdi : 48 ≤ b[i].toNat ∧ b[i].toNat ≤ 57 := by
      have := List.all_eq_true.1 hd b[i] (List.getElem_mem hlt)
      simpa [Fmt.isDigit] using this
    rw [List.drop_eq_getElem_cons hlt]
    have hv : Fmt.valueFrom acc (b[i] :: b.drop (i + 1)) = Fmt.valueFrom (acc * 10 + (b[i].toNat - 48)) (b.drop (i + 1)) := rfl
    rw [hv]
    have hb2 := bt_nat b i hlt
    by_cases hov : acc * 10 + (b[i].toNat - 48) < 18446744073709551616
    · have h1 := ih (i + 1) (acc * 10 + (b[i].toNat - 48)) (by omega) (by omega) hov
      refine Ev.step (fun k => by
        simp only [zai.l1]
        rw [if_pos (by rw [sz]; omega), if_pos (by omega), hb2, if_neg (by omega), zdd hlt (by omega),
          show (acc : Int) * 10 = ((acc * 10 : Nat) : Int) from by omega, wrapU_nat (acc * 10) (by omega),
          show ((acc * 10 : Nat) : Int) + ((b[i].toNat : Int) - 48) % 256 = ((acc * 10 + (b[i].toNat - 48) : Nat) : Int) from by omega, wrapU_nat _ hov]) ?_
      exact h1
    · have hm := Fmt.valueFrom_mono (b.drop (i + 1)) (acc * 10 + (b[i].toNat - 48))
      rw [if_neg (by omega)]
      refine Ev.step (f := fun _ => some ((0 : Int), (2 : Int))) (fun k => by
        simp only [zai.l1]
        rw [if_pos (by rw [sz]; omega), if_pos (by omega), hb2, if_pos (by omega)]) (Ev.now _)
theorem rp_scan (b : List UInt8) (hb : b.length ≤ 1000000) (R : Int × Int) (hR : Fmt.digitsB b = true → Ev (fun k => zai.l1 k ⟨b.toArray⟩ 0 0) R) (d : Nat) : ∀ i : Nat, b.length - i = d → i ≤ b.length → Fmt.digitsB (b.take i) = true →
    Ev (fun k => zai.l0 k ⟨b.toArray⟩ (i : Int)) (if Fmt.digitsB b = true then R else (0, 3)) := by
  induction d with
  | zero =>
    intro i hdd hi ht
    obtain rfl : i = b.length := by omega
    rw [List.take_length] at ht
    refine Ev.step (fun k => by simp only [zai.l0]; rw [if_neg (by rw [sz]; omega)]) ?_
    rw [if_pos ht]
    exact hR ht
  | succ d ih =>
    intro i hdd hi ht
    have hlt : i < b.length := by omega
    have hb2 := bt_nat b i hlt
    by_cases hdi : 48 ≤ b[i].toNat ∧ b[i].toNat ≤ 57
    · have h1 := ih (i + 1) (by omega) (by omega) (by
        rw [List.take_succ_eq_append_getElem hlt]
        simp only [Fmt.digitsB] at ht ⊢
        rw [List.all_append, ht]
        simp [Fmt.isDigit, hdi.1, hdi.2])
      refine Ev.step (fun k => by
        simp only [zai.l0]
        rw [if_pos (by rw [sz]; omega), if_pos (by omega), hb2, if_neg (by omega), if_neg (by omega), zdd hlt (by omega)]) ?_
      exact h1
    · have hn : Fmt.digitsB b = false := by
        rw [Fmt.digitsB, List.all_eq_false]
        refine ⟨b[i], List.getElem_mem hlt, ?_⟩
        simp only [Fmt.isDigit, Bool.and_eq_true, decide_eq_true_eq]
        exact hdi
      rw [hn]
      by_cases h48 : b[i].toNat < 48
      · exact Ev.step (f := fun _ => some ((0 : Int), (3 : Int))) (fun k => by
          simp only [zai.l0]
          rw [if_pos (by rw [sz]; omega), if_pos (by omega), hb2, if_pos (by omega)]) (Ev.now _)
      · exact Ev.step (f := fun _ => some ((0 : Int), (3 : Int))) (fun k => by
          simp only [zai.l0]
          rw [if_pos (by rw [sz]; omega), if_pos (by omega), hb2, if_neg (by omega), if_pos (by omega)]) (Ev.now _)
theorem refParse (b : List UInt8) (hb : b.length ≤ 1000000) : Ev (fun k => zai.f k ⟨b.toArray⟩) (((zc5 b).1 : Int), (zc5 b).2) := by
  by_cases h0 : b = []
  · subst h0
    refine Ev.congr (fun k => by simp only [zai.f]; rw [if_pos (by rw [ba_toList])]) ?_
    exact Ev.step (f := fun _ => some ((0 : Int), (3 : Int))) (fun k => by simp only [zai.j0]; rfl) (Ev.now _)
  · have hpos : 0 < b.length := List.length_pos_iff.2 h0
    have hscan : ¬ (1 < b.length ∧ b.head? = some 48) → Ev (fun k => zai.j0 k ⟨b.toArray⟩ false) (((zc5 b).1 : Int), (zc5 b).2) := by
      intro hz
      refine Ev.step (f := fun k => zai.l0 k ⟨b.toArray⟩ 0) (fun k => by simp only [zai.j0, Bool.false_eq_true, if_false]) ?_
      have h1 := rp_scan b hb (if Fmt.value b < 18446744073709551616 then ((Fmt.value b : Int), 0) else (0, 2)) (fun hd => rp_sum b hb hd b.length 0 0 (by omega) (by omega) (by omega)) b.length 0 (by omega) (by omega) rfl
      unfold zc5
      rw [if_neg h0]
      by_cases hd : Fmt.digitsB b = true
      · rw [if_pos hd] at h1 ⊢
        rw [if_neg hz]
        by_cases hv : Fmt.value b < 18446744073709551616
        · rw [if_pos hv] at h1 ⊢; exact h1
        · rw [if_neg hv] at h1 ⊢; exact h1
      · rw [if_neg hd] at h1 ⊢; exact h1
    by_cases h1 : 1 < b.length
    · have hb0 : bt (⟨b.toArray⟩ : ByteArray) 0 = (b[0].toNat : Int) := bt_nat b 0 hpos
      by_cases h48 : b[0].toNat = 48
      · have hh : b.head? = some 48 := by rw [List.head?_eq_getElem?, List.getElem?_eq_getElem hpos, UInt8.toNat_inj.1 (show b[0].toNat = (48 : UInt8).toNat from h48)]
        refine Ev.congr (fun k => by simp only [zai.f]; rw [if_neg (by rw [ba_toList]; exact h0), if_pos (by rw [sz]; omega), if_pos (by rw [sz]; omega), hb0, show ((b[0].toNat : Int) == 48) = true from beq_iff_eq.2 (by omega)]) ?_
        have hr : (((zc5 b).1 : Int), (zc5 b).2) = (0, 3) := by
          unfold zc5
          rw [if_neg h0]
          split
          · rw [if_pos ⟨h1, hh⟩]; rfl
          · rfl
        rw [hr]
        exact Ev.step (f := fun _ => some ((0 : Int), (3 : Int))) (fun k => by simp only [zai.j0]; rfl) (Ev.now _)
      · refine Ev.congr (fun k => by simp only [zai.f]; rw [if_neg (by rw [ba_toList]; exact h0), if_pos (by rw [sz]; omega), if_pos (by rw [sz]; omega), hb0, show ((b[0].toNat : Int) == 48) = false from beq_eq_false_iff_ne.2 (by omega)]) (hscan ?_)
        rintro ⟨_, hh⟩
        rw [List.head?_eq_getElem?, List.getElem?_eq_getElem hpos, Option.some.injEq] at hh
        exact h48 (by rw [hh]; rfl)
    · refine Ev.congr (fun k => by simp only [zai.f]; rw [if_neg (by rw [ba_toList]; exact h0), if_neg (by rw [sz]; omega)]) (hscan (fun e => h1 e.1))
end Go.Proofs.YtmnleabeipmhmaaDoor.P
end
section
set_option linter.unusedVariables false
set_option linter.unusedSimpArgs false
namespace Go.Proofs.YtmnleabeipmhmaaDoor.P
open Go.RowKit Go.Proofs.YtmnleabeipmhmaaDoorW.PrintWords Go.Proofs.YtmnleabeipmhmaaDoorW.PrintLast Go.Proofs.YtmnleabeipmhmaaDoorW.PrintMore
def mkB (l : List UInt8) : ByteArray := ⟨l.toArray⟩
theorem mkB_list (l : List UInt8) : (mkB l).data.toList = l := by simp [mkB]
theorem mkB_of (s : ByteArray) : mkB s.data.toList = s := by
  apply ByteArray.ext; simp [mkB]
theorem zda (l : List UInt8) : (mkB l).toList = l := ba_toList l
theorem mkB_size (l : List UInt8) : (mkB l).size = l.length := sz l
def spl (c : UInt8) (keep : Bool) : List UInt8 → List (List UInt8)
  | [] => [[]]
  | b :: r => if b = c then (if keep then [b] else []) :: spl c keep r else
      match spl c keep r with
      | [] => [[b]]
      | p :: q => (b :: p) :: q
theorem spl_ne (c : UInt8) (keep : Bool) (l : List UInt8) : spl c keep l ≠ [] := by
  cases l with
  | nil => simp [spl]
  | cons b r =>
    unfold spl
    split
    · simp
    · split <;> simp
theorem index_cons (b c : UInt8) (l : List UInt8) : Lib.index (b :: l) [c] = if b = c then 0 else if Lib.index l [c] = -1 then -1 else Lib.index l [c] + 1 := by
  rw [Lib.index_one, Lib.index_one]
  simp only [Lib.indexByte, beq_iff_eq]
theorem index_count (c : UInt8) : ∀ l : List UInt8, (Lib.index l [c] = -1 ↔ l.count c = 0) ∧ -1 ≤ Lib.index l [c]
  | [] => by rw [Lib.index_one]; simp [Lib.indexByte]
  | b :: r => by
    have ih := index_count c r
    rw [index_cons, List.count_cons]
    by_cases h : b = c
    · rw [if_pos h]; simp [h]
    · rw [if_neg h]
      by_cases h2 : Lib.index r [c] = -1
      · rw [if_pos h2]
        have := ih.1.1 h2
        simp [this, h]
      · rw [if_neg h2]
        have h3 : ¬ r.count c = 0 := fun e => h2 (ih.1.2 e)
        have h4 := ih.2
        refine ⟨⟨fun e => by omega, fun e => by simp [h] at e; omega⟩, by omega⟩
theorem splitK_spl (c : UInt8) (keep : Bool) : ∀ l : List UInt8, Lib.splitK [c] (if keep then 1 else 0) (l.count c) l = spl c keep l
  | [] => by simp [Lib.splitK, spl]
  | b :: r => by
    have ih := splitK_spl c keep r
    rw [List.count_cons]
    unfold spl
    by_cases h : b = c
    · subst h
      rw [if_pos rfl]
      simp only [beq_self_eq_true, if_true]
      unfold Lib.splitK
      have hi : Lib.index (b :: r) [b] = 0 := by rw [index_cons, if_pos rfl]
      rw [hi, if_neg (by decide)]
      have hd : (b :: r).drop ((0 : Int).toNat + [b].length) = r := by simp
      rw [hd, ih]
      cases keep <;> simp
    · rw [if_neg h]
      simp only [beq_iff_eq, h, if_false, Nat.add_zero]
      have ic := index_count c r
      cases hk : r.count c with
      | zero =>
        rw [hk] at ih
        rw [← ih]
        simp [Lib.splitK]
      | succ k =>
        have hne : ¬ Lib.index r [c] = -1 := fun e => by have := ic.1.1 e; omega
        have hge := ic.2
        rw [hk] at ih
        unfold Lib.splitK at ih ⊢
        rw [index_cons, if_neg h, if_neg hne]
        rw [if_neg (by simp; omega)] at ih ⊢
        rw [← ih]
        have e1 : (Lib.index r [c] + 1).toNat = (Lib.index r [c]).toNat + 1 := by omega
        rw [e1]
        simp only [List.length_cons, List.length_nil]
        rw [show (Lib.index r [c]).toNat + 1 + (if keep = true then 1 else 0) = ((Lib.index r [c]).toNat + (if keep = true then 1 else 0)) + 1 by omega, List.take_succ_cons, List.drop_succ_cons]
theorem pieces_spl (s : ByteArray) (c : UInt8) (keep : Bool) : zck s ⟨#[c]⟩ (if keep then 1 else 0) = (spl c keep s.data.toList).map mkB := by
  have h := Lib.splitB_data ⟨#[c]⟩ (if keep then 1 else 0) (Lib.countB s ⟨#[c]⟩) s
  have hc : Lib.countB s ⟨#[c]⟩ = s.data.toList.count c := by
    show Lib.count s.data.toList [c] = _
    rw [Lib.count_one]
  have h2 : (zck s ⟨#[c]⟩ (if keep then 1 else 0)).map (·.data.toList) = spl c keep s.data.toList := by
    rw [← splitK_spl, ← hc]; exact h
  rw [← h2, List.map_map]
  conv => lhs; rw [← List.map_id (zck s ⟨#[c]⟩ (if keep then 1 else 0))]
  apply List.map_congr_left
  intro x _
  simp [mkB_of]
end Go.Proofs.YtmnleabeipmhmaaDoor.P
end
