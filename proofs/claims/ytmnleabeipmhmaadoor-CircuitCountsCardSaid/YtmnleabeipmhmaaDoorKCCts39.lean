/- What is proved here: a part of the proof of CircuitCounts: Px21, Cbs, Px23, Px31, Cdd. No conditions beside those that each theorem states. -/
import Derived.Test.YtmnleabeipmhmaaDoorKCCts5
import Derived.Test.YtmnleabeipmhmaaDoorKCCts38
import Derived.Test.YtmnleabeipmhmaaDoorKCCts23
import Derived.Lib.ItoaLen
section
namespace Go.Proofs.YtmnleabeipmhmaaDoor.P
open Go.RowKit Go.Proofs.YtmnleabeipmhmaaDoorW.PrintWords Go.Proofs.YtmnleabeipmhmaaDoorW.PrintLast Go.Proofs.YtmnleabeipmhmaaDoorW.PrintMore
attribute [local go_sem] zb4 zb5 zce zcf zb0 zbz zb9 zb8   -- for this text's walks alone
set_option linter.unusedVariables false
set_option linter.unusedSimpArgs false
def za7.l0 : Nat → Int → List Int → Int → Option (Int)
  | 0, _, _, _ => none
  | k + 1, x3, x4, x5 => if x5 < (x4.length : Int) then (if 0 ≤ x5 then (za7.l0 k (mx x3 (rd x4 x5)) x4 (wrap64 (x5 + 1))) else (none)) else (some x3)
def za7.f (k : Nat) (a0_0 : Int) (l0_1 : List (S43)) (l0_2 : List Int) : Option (Int) := (zak.f k a0_0 l0_1 l0_2).bind fun t224 => (za7.l0 k 0 t224 0)
set_option maxHeartbeats 8000000 in
set_option maxRecDepth 100000 in
theorem za7.calls (k : Nat) (a0_0 : Int) (A0_1 : Option Addr) (c0_1 : Nat) (l0_1 : List (S43)) (A0_2 : Option Addr) (c0_2 : Nat) (l0_2 : List Int) (r : Int) (w : World) (hr0_1 : Kd.C k43 w A0_1 l0_1.length l0_1) (hc0_1 : l0_1.length ≤ c0_1) (hr0_2 : Kd.C (Kd.int .i64) w A0_2 l0_2.length l0_2) (hc0_2 : l0_2.length ≤ c0_2) (h : za7.f k a0_0 l0_1 l0_2 = some r) :
    Calls Tryd.prog 18 #[.agg #[.int .u64 a0_0, .slice A0_1 l0_1.length c0_1, .slice A0_2 l0_2.length c0_2]] w fun e w' => e = .returned (.int .i64 r) ∧ Below w.heap.size w w' := by
  have hu26 := Tryd.underlying26; have HR0_1 := Aside0.mk hr0_1; have HC0_1 := Aside0.mk hc0_1; clear hr0_1 hc0_1; have HR0_2 := Aside0.mk hr0_2; have HC0_2 := Aside0.mk hc0_2; clear hr0_2 hc0_2; have HB := Aside0.mk (Below.refl w.heap.size w); have H : ((zak.f k a0_0 l0_1 l0_2).bind fun t224 => (za7.l0 k 0 t224 0)) = some r := h; clear h; replace H := Option.bind_eq_some_iff.mp H; obtain ⟨t224, A20, H⟩ := H; replace H : (za7.l0 k 0 t224 0) = some r := H; have A2 := Aside0.mk A20; clear A20; have H' := Aside0.mk H; clear H; go_enter Tryd.func18, Tryd.ntmps18
  go_wp2_with (first | ((with_reducible refine zbb (N := 1) rfl ?_); refine za4 ?hg (N := 1) ?hd (cs := #[.int .u64 a0_0, .slice A0_1 l0_1.length c0_1, .slice A0_2 l0_2.length c0_2]) (t := 26) ?hr ?_; (case hd => rfl); (case hg => rfl); (case hr => first | (go_simp; done) | (go_simp; rfl)); intro gb223 hg w3 hbox hb; have n0_ := Aside0.mk (zan (zs0 HB) hb); have n1_ := Aside0.mk (hbox); have n2_ := Aside0.mk ((by rw [hg]; exact (zag (zs0 HB)) : w.heap.size ≤ gb223)); have n3_ := Aside0.mk ((by rw [hg]; exact (zag (zs0 HB)) : w.heap.size ≤ gb223)); clear HB; have HB := n0_; have BK223 := n1_; have GW223 := n2_; have GE223 := n3_; clear n0_ n1_ n2_ n3_; clear hb hbox hg; have hcz4_0 := zk0 BK223.out; have hcz4_1 := zk1 BK223.out; have hcz4_2 := zk2 BK223.out; have hfz4_0 := zaa BK223.out 0; have hfz4_1 := zaa BK223.out 1; have hfz4_2 := zaa BK223.out 2) | ((with_reducible refine zb2 (f := 24) rfl ?_); refine goesL_ (some 7) rfl rfl Tryd.func24 (by kernel_rfl) rfl #[.agg #[.int .u64 a0_0, .slice A0_1 l0_1.length c0_1, .slice A0_2 l0_2.length c0_2]] rfl zt ?_; (with_reducible refine (zak.calls k a0_0 _ _ l0_1 _ _ l0_2 t224 _ ?side1 ?side2 ?side3 ?side4 A2.out).mono ?_); (case side1 => repeat (first | exact (Kd.C_below HR0_1.out HB.out) | (with_reducible refine Kd.C_alloc ?_ _) | (with_reducible refine Kd.C_drewN ?_ _) | (with_reducible refine Kd.C_drew ?_))); (case side2 => exact HC0_1.out); (case side3 => repeat (first | exact (Kd.C_below HR0_2.out HB.out) | (with_reducible refine Kd.C_alloc ?_ _) | (with_reducible refine Kd.C_drewN ?_ _) | (with_reducible refine Kd.C_drew ?_))); (case side4 => exact HC0_2.out); rintro e w5 ⟨v225, rfl, ho0, hb⟩; refine ⟨_, rfl, ?_⟩; have n0_ := Aside0.mk (Kd.R_lower ho0 (zag (by first | exact zs1 HB GE223 | exact zs0 HB))); have n1_ := Aside0.mk (zaz (g := gb223) (o := .cells #[.int .u64 a0_0, .slice A0_1 l0_1.length c0_1, .slice A0_2 l0_2.length c0_2] 26 (0, 0)) (zb BK223) hb); have n2_ := Aside0.mk (zan (by first | exact zs1 HB GE223 | exact zs0 HB) hb); clear BK223; clear HB; have HO226 := n0_; have BK223 := n1_; have HB := n2_; clear n0_ n1_ n2_; (try clear hb); (try clear hb2); (try clear hk); (try clear hi); (try clear ho0)))
  go_loopg [3, 5] k (fun kq v3 v5 w' => ∃ (x3_1 : Int) (x5_1 : Int), v3 = .int .i64 x3_1 ∧ v5 = .int .i64 x5_1 ∧ Aside0 (za7.l0 kq x3_1 t224 x5_1 = some r) ∧ Aside0 (kq ≤ k) ∧ Aside0 (Kd.R (Kd.int .i64) 3 w' w.heap.size (fun _ => True) v225 t224) ∧ Aside0 (w'.heap[gb223]? = some (.cells #[.int .u64 a0_0, (.slice A0_1 l0_1.length c0_1), (.slice A0_2 l0_2.length c0_2)] 26 (0, 0))) ∧ Aside0 (Below w.heap.size w w'))
  case atStart => exact ⟨(0), (0), (by first | rfl | (simp; done) | (simp [*]; done)), (by first | rfl | (simp; done) | (simp [*]; done)), H', ⟨Nat.le_refl _⟩, ⟨by (with_reducible repeat (first | apply Kd.R_alloc | apply Kd.R_drewN | apply Kd.R_drew)); exact HO226.out⟩, ⟨by (with_reducible repeat (first | refine zab ?_ _ | refine zad ?_ | refine zac ?_ _)); exact BK223.out⟩, ⟨by repeat (first | (with_reducible first | exact HB.out | apply zal | apply zap | apply zao | refine zaw ?_ GE223.out) | exact HB.out)⟩⟩
  case round =>
    clear H'; (try clear c1); (try clear c2); (try clear p2); (try clear hcz4_0); (try clear hcz4_1); (try clear hcz4_2); (try clear hfz4_0); (try clear hfz4_1); (try clear hfz4_2); obtain ⟨x3_1, x5_1, rfl, rfl, HA, HK1, HO_4, BK223, HB⟩ := hrel
    cases gk with
    | zero => exact absurd HA.out (by simp [za7.l0])
    | succ k1 =>
      have H := HA.out; clear HA; simp only [za7.l0] at H
      by_cases c6 : x5_1 < (t224.length : Int)
      · rw [if_pos c6] at H
        have c6b0 : decide (x5_1 < (t224.length : Int)) = true := decide_eq_true c6; clear c6
        by_cases c7 : 0 ≤ x5_1
        · rw [if_pos c7] at H
          have c7b0 : decide (0 ≤ x5_1) = true := decide_eq_true c7; clear c7
          obtain ⟨ji8, hji8⟩ : ∃ j_ : Int, (mx x3_1 (rd t224 x5_1)) = j_ := ⟨_, rfl⟩
          replace H : (za7.l0 k1 ji8 t224 (wrap64 (x5_1 + 1))) = some r := by first | (rw [hji8] at H; exact H) | (simp only [hji8] at H ⊢; exact H)
          have hji8_ : (if x3_1 < (rd t224 x5_1) then (rd t224 x5_1) else x3_1) = ji8 := hji8; have H' := Aside0.mk H; clear H; obtain ⟨Ao9, co9, eo9⟩ := Kd.R_slice HO_4.out; subst eo9; have p227 : 0 ≤ (x5_1 : Int) := of_decide_eq_true (by first | (with_reducible assumption) | assumption); have q227 : x5_1 < (t224.length : Int) := of_decide_eq_true (by first | (with_reducible assumption) | assumption); obtain ⟨ad227, e227, hx227_0⟩ := Kd.at_int (Kd.R_reads' HO_4.out).2.2 x5_1 p227 q227; cases e227; replace p227 := eq_true p227; replace q227 := eq_true q227; go_wp2
          go_roundg k1
          case measure => have := HK1.out; omega
          case rel => exact ⟨(ji8), (wrap64 (x5_1 + 1)), (by first | rfl | (simp; done) | (simp only [← hji8] <;> (first | rfl | simp)) | (simp [*]; done)), (by first | rfl | (simp; done) | (simp [*]; done)), H', ⟨by have := HK1.out; omega⟩, ⟨by (with_reducible repeat (first | apply Kd.R_alloc | apply Kd.R_drewN | apply Kd.R_drew)); exact HO_4.out⟩, ⟨by (with_reducible repeat (first | refine zab ?_ _ | refine zad ?_ | refine zac ?_ _)); exact BK223.out⟩, ⟨by repeat (first | (with_reducible first | exact HB.out | apply zal | apply zap | apply zao | refine zaw ?_ GE223.out) | exact HB.out)⟩⟩
        · rw [if_neg c7] at H
          exact absurd H (by simp)
      · rw [if_neg c6] at H
        have c6b0 : decide (x5_1 < (t224.length : Int)) = false := decide_eq_false c6; clear c6; obtain rfl := Option.some.inj H; obtain ⟨Ao10, co10, eo10⟩ := Kd.R_slice HO_4.out; subst eo10; go_wp2; go_ret; exact ⟨by first | rfl | (simp [zau, zav] <;> rfl) | (simp [*, zau, zav] <;> rfl), by first | exact zs1 HB GE223 | exact zs0 HB⟩
end Go.Proofs.YtmnleabeipmhmaaDoor.P
end
section
set_option linter.unusedVariables false
set_option linter.unusedSimpArgs false
namespace Go.Proofs.YtmnleabeipmhmaaDoor.P
open Go.RowKit Go.Proofs.YtmnleabeipmhmaaDoorW.PrintWords Go.Proofs.YtmnleabeipmhmaaDoorW.PrintLast Go.Proofs.YtmnleabeipmhmaaDoorW.PrintMore
theorem sz (b : List UInt8) : (ByteArray.mk b.toArray).size = b.length := by show b.toArray.size = _; simp
theorem ba_toList (b : List UInt8) : (ByteArray.mk b.toArray).toList = b := by
  have key : ∀ (s : ByteArray) (d : Nat) (i : Nat) (r : List UInt8), s.size - i = d → ByteArray.toList.loop s i r = r.reverse ++ s.data.toList.drop i := by
    intro s d
    induction d with
    | zero =>
      intro i r h
      rw [ByteArray.toList.loop, if_neg (by omega), List.drop_of_length_le (by show s.data.toList.length ≤ i; have : s.size = s.data.size := rfl; simp; omega), List.append_nil]
    | succ d ih =>
      intro i r h
      have hi : i < s.data.toList.length := by have : s.size = s.data.size := rfl; simp; omega
      rw [ByteArray.toList.loop, if_pos (by omega), ih (i + 1) _ (by omega), List.drop_eq_getElem_cons hi]
      simp [ByteArray.get!]
      rw [getElem!_pos s.data i (by simpa using hi)]
  have := key ⟨b.toArray⟩ _ 0 [] rfl
  rw [ByteArray.toList, this]; simp
theorem ext_eq (b : List UInt8) (i j : Nat) : (ByteArray.mk b.toArray).extract i j = ⟨((b.drop i).take (j - i)).toArray⟩ := by
  apply ByteArray.ext; simp
theorem zcg {i n : Nat} (h : i < n) (hn : n ≤ 9223372036854775807) : wrap64 ((i : Int) + 1) = ((i + 1 : Nat) : Int) := by unfold wrap64; omega
theorem rd_nat (l : List Int) (i : Nat) (h : i < l.length) : rd l (i : Int) = l[i] := by simp [rd, h]
end Go.Proofs.YtmnleabeipmhmaaDoor.P
end
section
namespace Go.Proofs.YtmnleabeipmhmaaDoor.P
open Go.RowKit Go.Proofs.YtmnleabeipmhmaaDoorW.PrintWords Go.Proofs.YtmnleabeipmhmaaDoorW.PrintLast Go.Proofs.YtmnleabeipmhmaaDoorW.PrintMore
attribute [local go_sem] zb4 zb5 zce zcf zb0 zbz zb9 zb8   -- for this text's walks alone
set_option linter.unusedVariables false
set_option linter.unusedSimpArgs false
end Go.Proofs.YtmnleabeipmhmaaDoor.P
end
section
namespace Go.Proofs.YtmnleabeipmhmaaDoor.P
open Go.RowKit Go.Proofs.YtmnleabeipmhmaaDoorW.PrintWords Go.Proofs.YtmnleabeipmhmaaDoorW.PrintLast Go.Proofs.YtmnleabeipmhmaaDoorW.PrintMore
attribute [local go_sem] zb4 zb5 zce zcf zb0 zbz zb9 zb8   -- for this text's walks alone
set_option linter.unusedVariables false
set_option linter.unusedSimpArgs false
end Go.Proofs.YtmnleabeipmhmaaDoor.P
end
section
set_option linter.unusedVariables false
set_option linter.unusedSimpArgs false
namespace Go.Proofs.YtmnleabeipmhmaaDoor.P
open Go.RowKit Go.Proofs.YtmnleabeipmhmaaDoorW.PrintWords Go.Proofs.YtmnleabeipmhmaaDoorW.PrintLast Go.Proofs.YtmnleabeipmhmaaDoorW.PrintMore
open Lib (decDigits)
theorem dd_small (u : Nat) (h : u < 10) : decDigits u = [UInt8.ofNat (48 + u)] := by rw [decDigits, dif_pos h]
theorem dd_big (u : Nat) (h : ¬ u < 10) : decDigits u = decDigits (u / 10) ++ [UInt8.ofNat (48 + u % 10)] := by rw [decDigits, dif_neg h]
theorem valueFrom_append (a b : List UInt8) : ∀ n, Fmt.valueFrom n (a ++ b) = Fmt.valueFrom (Fmt.valueFrom n a) b := by
  induction a with
  | nil => intro n; rfl
  | cons c a ih => intro n; exact ih _
theorem value_snoc (a : List UInt8) (c : UInt8) : Fmt.value (a ++ [c]) = Fmt.value a * 10 + (c.toNat - 48) := by
  unfold Fmt.value; rw [valueFrom_append]; rfl
theorem value_one (c : UInt8) : Fmt.value [c] = c.toNat - 48 := by
  show 0 * 10 + (c.toNat - 48) = _
  omega
theorem headApp (a b : List UInt8) (h : a ≠ []) : (a ++ b).head? = a.head? := by cases a with | nil => exact absurd rfl h | cons x a => rfl
theorem dd_of_value : ∀ (n : Nat) (l : List UInt8), l.length = n → l ≠ [] → Fmt.digitsB l = true → ¬ (1 < l.length ∧ l.head? = some 48) → decDigits (Fmt.value l) = l := by
  intro n
  induction n with
  | zero => intro l hl hne; exact absurd (List.length_eq_zero_iff.1 hl) hne
  | succ n ih =>
    intro l hl hne hd hz
    obtain ⟨t, c, rfl⟩ : ∃ t c, l = t ++ [c] := ⟨l.dropLast, l.getLast hne, (List.dropLast_concat_getLast hne).symm⟩
    simp only [Fmt.digitsB, List.all_append, List.all_cons, List.all_nil, Bool.and_true, Bool.and_eq_true, Fmt.isDigit, decide_eq_true_eq] at hd
    obtain ⟨hdt, hc1, hc2⟩ := hd
    have hc : UInt8.ofNat (48 + (c.toNat - 48)) = c := by rw [show 48 + (c.toNat - 48) = c.toNat from by omega, UInt8.ofNat_toNat]
    by_cases ht : t = []
    · subst ht
      have hv : Fmt.value ([] ++ [c]) = c.toNat - 48 := value_one c
      rw [hv, dd_small _ (by omega), hc]; rfl
    · have hlt : 0 < t.length := List.length_pos_iff.2 ht
      have hh : t.head? ≠ some 48 := by
        intro e
        refine hz ⟨by rw [List.length_append]; simp; omega, ?_⟩
        rw [headApp _ _ ht]; exact e
      have hv : Fmt.value (t ++ [c]) = Fmt.value t * 10 + (c.toNat - 48) := value_snoc t c
      have hpos : 1 ≤ Fmt.value t := by
        cases t with
        | nil => exact absurd rfl ht
        | cons x r =>
          simp only [List.all_cons, Bool.and_eq_true, Fmt.isDigit, decide_eq_true_eq] at hdt
          have hx : x.toNat ≠ 48 := fun e => hh (by rw [List.head?_cons, ← UInt8.toNat_inj.1 (show x.toNat = (48 : UInt8).toNat from e)])
          have := Fmt.valueFrom_mono r (0 * 10 + (x.toNat - 48))
          have e : Fmt.value (x :: r) = Fmt.valueFrom (0 * 10 + (x.toNat - 48)) r := rfl
          omega
      have h1 := ih t (by rw [List.length_append] at hl; simp at hl; omega) ht hdt (fun e => hh e.2)
      rw [hv, dd_big _ (by omega), show (Fmt.value t * 10 + (c.toNat - 48)) / 10 = Fmt.value t from by omega, show (Fmt.value t * 10 + (c.toNat - 48)) % 10 = c.toNat - 48 from by omega, h1, hc]
theorem parse_exact (l : List UInt8) (h : (parseD l).2 = 0) : (parseD l).1 < 18446744073709551616 ∧ decDigits (parseD l).1 = l := by
  unfold parseD at h ⊢
  by_cases h0 : l = []
  · rw [if_pos h0] at h; simp at h
  · rw [if_neg h0] at h ⊢
    by_cases hd : Fmt.digitsB l = true
    · rw [if_pos hd] at h ⊢
      by_cases hz : 1 < l.length ∧ l.head? = some 48
      · rw [if_pos hz] at h; simp at h
      · rw [if_neg hz] at h ⊢
        by_cases hv : Fmt.value l < 18446744073709551616
        · rw [if_pos hv]; exact ⟨hv, dd_of_value _ l rfl h0 hd hz⟩
        · rw [if_neg hv] at h; simp at h
    · rw [if_neg hd] at h; simp at h
end Go.Proofs.YtmnleabeipmhmaaDoor.P
end
