/- What is proved here: a part of the proof of ScriptFormat: Srg. No conditions beside those that each theorem states. -/
import Derived.Test.YtfgbdcpfbghdoaaGreatDoorKSFat40
import Derived.Test.YtfgbdcpfbghdoaaGreatDoorKSFat27
import Derived.Test.YtfgbdcpfbghdoaaGreatDoorKSFat35
section
set_option linter.unusedVariables false
set_option linter.unusedSimpArgs false
namespace Go.Proofs.YtfgbdcpfbghdoaaGreatDoor.P
open Go.RowKit Go.Proofs.YtfgbdcpfbghdoaaGreatDoorW.PrintWords Go.Proofs.YtfgbdcpfbghdoaaGreatDoorW.PrintLast Go.Proofs.YtfgbdcpfbghdoaaGreatDoorW.PrintMore
theorem bareUpto_le (s : ByteArray) {n m : Nat} (h : n ≤ m) (hf : bareUpto s n = false) : bareUpto s m = false := by
  induction m with
  | zero => obtain rfl : n = 0 := by omega
            exact hf
  | succ m ih =>
    rcases Nat.lt_or_ge m n with h1 | h1
    · obtain rfl : n = m + 1 := by omega
      exact hf
    · rw [bareUpto_succ, ih h1]; rfl
theorem refBare_go (x : ByteArray) (hx : x.size ≤ 1000000) : ∀ (d i : Nat), x.size - i = d → i ≤ x.size → bareUpto x i = true → Ev (fun k => privityref53_bare.l0 k x (i : Int)) (plainF x) := by
  intro d
  induction d with
  | zero =>
    intro i hd hi hlo
    obtain rfl : i = x.size := by omega
    have c1 : ¬ (x.size : Int) < (x.size : Int) := by omega
    refine Ev.step (f := fun _ => some (plainF x)) (fun k => ?_) (Ev.now _)
    rw [privityref53_bare.l0, if_neg c1]
    unfold plainF
    rw [hlo, Bool.and_true]
  | succ d ih =>
    intro i hd hi hlo
    have hs := bareUpto_succ x i
    rw [hlo, Bool.true_and] at hs
    have c1 : (i : Int) < (x.size : Int) := by omega
    have c2 : 0 ≤ (i : Int) := by omega
    have hw := wrap64_nat i (by omega)
    have hle : i + 1 ≤ x.size := by omega
    have hpl : privityref53_plain.f (bt x (i : Int)) = some (bareI (bt x (i : Int))) := bare_f _
    cases hb : bareI (bt x (i : Int))
    · have hf : plainF x = false := by unfold plainF; rw [bareUpto_le x hle (by rw [hs]; exact hb), Bool.and_false]
      rw [hf]
      refine Ev.step (f := fun _ => some false) (fun k => ?_) (Ev.now _)
      rw [privityref53_bare.l0, if_pos c1, if_pos c2, hpl, hb]
      rfl
    · have hx := ih (i + 1) (by omega) hle (by rw [hs]; exact hb)
      refine Ev.step (fun k => ?_) hx
      rw [privityref53_bare.l0, if_pos c1, if_pos c2, hpl, hb, hw]
      rfl
theorem refBare (x : ByteArray) (hx : x.size ≤ 1000000) : Ev (fun k => privityref53_bare.f k x) (plainF x) := refBare_go x hx _ 0 rfl (Nat.zero_le _) rfl
theorem dl (w : ByteArray) : w.data.toList.length = w.size := by rw [Array.length_toList]; rfl
theorem app_two (o : List UInt8) (c d : UInt8) : mkB o ++ ⟨#[c, d]⟩ = mkB (o ++ [c, d]) := by
  apply ByteArray.ext; simp [mkB]
theorem mkB_app (o p : List UInt8) : mkB o ++ mkB p = mkB (o ++ p) := by
  apply ByteArray.ext; simp [mkB]
theorem refQuote_go (l : List UInt8) (hl : l.length ≤ 1000000) : ∀ (d i : Nat) (o : List UInt8), l.length - i = d → i ≤ l.length → o.length ≤ 2 * i + 1 → Ev (fun k => privityref53_quote.l0 k (mkB l) (mkB o) (i : Int)) (mkB (o ++ escL (l.drop i) ++ [34])) := by
  intro d
  induction d with
  | zero =>
    intro i o hd hi ho
    have hs := mkB_size l
    have ho2 := mkB_size o
    have c1 : ¬ (i : Int) < ((mkB l).size : Int) := by omega
    have c2 : (mkB o).size + 1 ≤ 9223372036854775807 := by omega
    rw [List.drop_of_length_le (by omega)]
    refine Ev.step (f := fun _ => some (mkB (o ++ escL [] ++ [34]))) (fun k => ?_) (Ev.now _)
    rw [privityref53_quote.l0, if_neg c1, if_pos c2, app_one]
    simp [escL]
  | succ d ih =>
    intro i o hd hi ho
    have hs := mkB_size l
    have ho2 := mkB_size o
    have hlt : i < l.length := by omega
    have c1 : (i : Int) < ((mkB l).size : Int) := by omega
    have c2 : 0 ≤ (i : Int) := by omega
    have c3 : (mkB o).size + 2 ≤ 9223372036854775807 := by omega
    have c4 : (i : Int) ≤ ((i + 1 : Nat) : Int) := by omega
    have c5 : ((i + 1 : Nat) : Int) ≤ ((mkB l).size : Int) := by omega
    have m1 : l.length ≤ 9223372036854775807 := by omega
    have m2 : ∀ x : List UInt8, x.length ≤ 2 → (o ++ x).length ≤ 2 * (i + 1) + 1 := by intro x hx; rw [List.length_append]; omega
    have c6 : (mkB o).size + ((mkB l).extract (i : Int).toNat ((i + 1 : Nat) : Int).toNat).size ≤ 9223372036854775807 := by
      have h2 : ((mkB l).extract (i : Int).toNat ((i + 1 : Nat) : Int).toNat).size ≤ l.length := by unfold mkB; rw [ext_eq, sz]; simp; omega
      omega
    have e1 : l.length - (i + 1) = d := by omega
    have hw := wrap_nat hlt m1
    have hb : bt (mkB l) (i : Int) = (l[i].toNat : Int) := bt_nat l i hlt
    have hd0 : l.drop i = l[i] :: l.drop (i + 1) := List.drop_eq_getElem_cons hlt
    have he : escL (l.drop i) = esc1 l[i] ++ escL (l.drop (i + 1)) := (congrArg escL hd0).trans (by unfold escL; rw [List.flatMap_cons])
    have hext : mkB o ++ (mkB l).extract (i : Int).toNat ((i + 1 : Nat) : Int).toNat = mkB (o ++ [l[i]]) := by
      rw [← app_one]
      congr 1
      unfold mkB
      rw [ext_eq]
      simp only [Int.toNat_natCast, Nat.add_sub_cancel_left]
      rw [hd0]; rfl
    clear hd hi ho hl
    have go : ∀ x : List UInt8, x.length ≤ 2 → esc1 l[i] = x → (∀ k, privityref53_quote.l0 (k + 1) (mkB l) (mkB o) (i : Int) = privityref53_quote.l0 k (mkB l) (mkB (o ++ x)) ((i + 1 : Nat) : Int)) → Ev (fun k => privityref53_quote.l0 k (mkB l) (mkB o) (i : Int)) (mkB (o ++ escL (l.drop i) ++ [34])) := by
      intro x hx hex hk
      have h := ih (i + 1) (o ++ x) e1 hlt (m2 x hx)
      rw [he, hex]
      rw [show o ++ (x ++ escL (l.drop (i + 1))) ++ [34] = o ++ x ++ escL (l.drop (i + 1)) ++ [34] by simp]
      exact Ev.step hk h
    rcases rep_cases l[i] with ⟨h, hr⟩ | ⟨h, hr⟩ | ⟨h, hr⟩ | ⟨h1, h2, h3, hr⟩
    · refine go [94, 110] (by simp) (by simp [esc1, hr]) (fun k => ?_)
      rw [privityref53_quote.l0, if_pos c1, if_pos c2, hb, if_neg (fun e => by rw [h] at e; simp at e), if_neg (fun e => by rw [h] at e; simp at e), if_pos (by rw [h]; rfl), if_pos c3, app_two, hw]
    · refine go [94, 113] (by simp) (by simp [esc1, hr]) (fun k => ?_)
      rw [privityref53_quote.l0, if_pos c1, if_pos c2, hb, if_neg (fun e => by rw [h] at e; simp at e), if_pos (by rw [h]; rfl), if_pos c3, app_two, hw]
    · refine go [94, 99] (by simp) (by simp [esc1, hr]) (fun k => ?_)
      rw [privityref53_quote.l0, if_pos c1, if_pos c2, hb, if_pos (by rw [h]; rfl), if_pos c3, app_two, hw]
    · refine go [l[i]] (by simp) (by simp [esc1, hr]) (fun k => ?_)
      rw [privityref53_quote.l0, if_pos c1, if_pos c2, hb, if_neg (fun e => h3 ((n94 _).1 e)), if_neg (fun e => h2 ((n34 _).1 e)), if_neg (fun e => h1 ((n10 _).1 e)), hw, if_pos c4, if_pos c5, if_pos c6, hext]
theorem refQuote (l : List UInt8) (hl : l.length ≤ 1000000) : Ev (fun k => privityref53_quote.f k (mkB l)) (mkB (34 :: (escL l ++ [34]))) := by
  have := refQuote_go l hl _ 0 [34] rfl (Nat.zero_le _) (by simp)
  exact this
theorem rd36 (l : List S36) (i : Nat) (h : i < l.length) : rd_T36 l (i : Int) = l[i] := by simp [rd_T36, h]
theorem rdW (ws : List ByteArray) (i : Nat) (h : i < ws.length) : rdOf ByteArray.empty ws (i : Int) = ws[i] := by simp [rdOf, List.getD_eq_getElem?_getD, List.getElem?_eq_getElem h]
theorem fmt_words (L : List S36) (i : Nat) (hi : i < L.length) (hw : L[i].f1.length ≤ 40) (hws : wordsF L[i].f1 = true) (res : ByteArray × Int) : ∀ (d j : Nat) (o : List UInt8), L[i].f1.length - j = d → j ≤ L[i].f1.length → o.length ≤ 500000000000 + 24003 * j →
    Ev (fun k => privityref53_Format.l0 k L (mkB (o ++ (L[i].f1.drop j).flatMap wordL ++ [10])) (wrap64 ((i : Int) + 1))) res → Ev (fun k => privityref53_Format.l1 k L (mkB o) (i : Int) (j : Int)) res := by
  intro d
  induction d with
  | zero =>
    intro j o hd hj ho h
    rw [List.drop_of_length_le (by omega)] at h
    have c1 : 0 ≤ (i : Int) := by omega
    have c2 : (i : Int) < (L.length : Int) := by omega
    have c3 : ¬ (j : Int) < (L[i].f1.length : Int) := by omega
    have ho2 := mkB_size o
    have c4 : (mkB o).size + 1 ≤ 9223372036854775807 := by omega
    refine Ev.step (fun k => ?_) h
    rw [privityref53_Format.l1, if_pos c1, if_pos c2, rd36 L i hi, if_neg c3, if_pos c4, app_one]
    simp
  | succ d ih =>
    intro j o hd hj ho h
    have hjl : j < L[i].f1.length := by omega
    have c1 : 0 ≤ (i : Int) := by omega
    have c2 : (i : Int) < (L.length : Int) := by omega
    have c3 : (j : Int) < (L[i].f1.length : Int) := by omega
    have c3' : 0 ≤ (j : Int) := by omega
    have ho2 := mkB_size o
    have c4 : (mkB o).size + 1 ≤ 9223372036854775807 := by omega
    have hsz : L[i].f1[j].size ≤ 12000 := by simpa using List.all_eq_true.1 hws _ (List.getElem_mem hjl)
    have hwj := wrap64_nat j (by omega)
    have hdr : L[i].f1.drop j = L[i].f1[j] :: L[i].f1.drop (j + 1) := List.drop_eq_getElem_cons hjl
    rw [hdr, List.flatMap_cons] at h
    have hpl := pieceL_le L[i].f1[j]
    have hl32 := mkB_size (o ++ [32])
    rw [List.length_append] at hl32
    have hnext : ∀ P : List UInt8, wordL L[i].f1[j] = 32 :: P → P.length ≤ 24002 → Ev (fun k => privityref53_Format.l1 k L (mkB (o ++ [32] ++ P)) (i : Int) ((j + 1 : Nat) : Int)) res := by
      intro P hP hPl
      refine ih (j + 1) (o ++ [32] ++ P) (by omega) hjl (by simp; omega) ?_
      rw [hP] at h
      rw [show o ++ [32] ++ P ++ (L[i].f1.drop (j + 1)).flatMap wordL ++ [10] = o ++ (32 :: P ++ (L[i].f1.drop (j + 1)).flatMap wordL) ++ [10] by simp]
      exact h
    have hb := refBare L[i].f1[j] (by omega)
    have head : ∀ k, privityref53_Format.l1 (k + 1) L (mkB o) (i : Int) (j : Int) = (privityref53_bare.f k L[i].f1[j]).bind fun t226 => (if t226 = true then (if (mkB o).size + 1 ≤ 9223372036854775807 then (if (mkB o ++ (⟨#[32]⟩ : ByteArray)).size + L[i].f1[j].size ≤ 9223372036854775807 then (privityref53_Format.l1 k L ((mkB o ++ (⟨#[32]⟩ : ByteArray)) ++ L[i].f1[j]) (i : Int) (wrap64 ((j : Int) + 1))) else (none)) else (none)) else ((privityref53_quote.f k L[i].f1[j]).bind fun t227 => (if (mkB o).size + 1 ≤ 9223372036854775807 then (if (mkB o ++ (⟨#[32]⟩ : ByteArray)).size + t227.size ≤ 9223372036854775807 then (privityref53_Format.l1 k L ((mkB o ++ (⟨#[32]⟩ : ByteArray)) ++ t227) (i : Int) (wrap64 ((j : Int) + 1))) else (none)) else (none)))) := by
      intro k
      rw [privityref53_Format.l1, if_pos c1, if_pos c2, rd36 L i hi, if_pos c3, if_pos c3', rdW _ j hjl]
    refine Ev.step head (Ev.bind hb ?_)
    generalize L[i].f1[j] = w at *
    cases hp : plainF w
    · have hP : pieceL w = 34 :: (escL w.data.toList ++ [34]) := by unfold pieceL; rw [hp]; rfl
      have hwo : wordL w = 32 :: (34 :: (escL w.data.toList ++ [34])) := by unfold wordL; rw [hP]
      rw [hP] at hpl
      have hq := refQuote w.data.toList (by have := dl w; omega)
      rw [mkB_of] at hq
      have hz := mkB_size (34 :: (escL w.data.toList ++ [34]))
      have c5 : (mkB (o ++ [32])).size + (mkB (34 :: (escL w.data.toList ++ [34]))).size ≤ 9223372036854775807 := by simp only [List.length_cons, List.length_nil] at hl32; omega
      refine Ev.congr (fun k => if_neg (by simp)) (Ev.bind hq ?_)
      refine Ev.congr (fun k => ?_) (hnext _ hwo (by omega))
      rw [if_pos c4, app_one, if_pos c5, mkB_app, hwj]
    · have hP : pieceL w = w.data.toList := by unfold pieceL; rw [hp]; rfl
      have hwo : wordL w = 32 :: w.data.toList := by unfold wordL; rw [hP]
      have c5 : (mkB (o ++ [32])).size + w.size ≤ 9223372036854775807 := by simp only [List.length_cons, List.length_nil] at hl32; omega
      refine Ev.congr (fun k => ?_) (hnext _ hwo (by have := dl w; omega))
      rw [if_pos rfl, if_pos c4, app_one, if_pos c5, hwj, ← mkB_of w, mkB_app, mkB_list]
theorem formatL_snoc (l : List S36) (x : S36) : formatL (l ++ [x]) = formatL l ++ x.f0.data.toList ++ x.f1.flatMap wordL ++ [10] := by simp [formatL, lineC]
theorem len_help {a b : List UInt8} (h : a.length ≤ 499999999988) (hb : b.length ≤ 12) : (a ++ b).length ≤ 500000000000 + 24003 * 0 := by rw [List.length_append]; omega
theorem le_help {a b c : Nat} (h : c ≤ 100000) (hb : b ≤ c) (ha : a ≤ 1000000 * b) : a ≤ 499999999988 := by omega
theorem refFormat_go (L : List S36) (hL : L.length ≤ 100000) (hv : ∀ x ∈ L, x.f0.size ≤ 1000000 ∧ x.f1.length ≤ 1000000) : ∀ (d i : Nat), L.length - i = d → i ≤ L.length → (L.take i).all mayC = true →
    Ev (fun k => privityref53_Format.l0 k L (mkB (formatL (L.take i))) (i : Int)) (if L.all mayC = true then (mkB (formatL L), 0) else (⟨#[]⟩, 1)) := by
  intro d
  induction d with
  | zero =>
    intro i hd hi hall
    have c1 : ¬ (i : Int) < (L.length : Int) := by omega
    rw [List.take_of_length_le (by omega)] at hall ⊢
    rw [if_pos hall]
    exact Ev.step (f := fun _ => some (mkB (formatL L), 0)) (fun k => by rw [privityref53_Format.l0, if_neg c1]) (Ev.now _)
  | succ d ih =>
    intro i hd hi hall
    have hlt : i < L.length := by omega
    have c1 : (i : Int) < (L.length : Int) := by omega
    have c2 : 0 ≤ (i : Int) := by omega
    obtain ⟨hv1, hv2⟩ := hv L[i] (List.getElem_mem hlt)
    have hr := refRight L[i].f0 L[i].f1 hv1 hv2
    have htk : L.take (i + 1) = L.take i ++ [L[i]] := List.take_succ_eq_append_getElem hlt
    have hfl := formatL_le (L.take i) hall
    rw [List.length_take] at hfl
    have hle : (formatL (L.take i)).length ≤ 499999999988 := le_help hL (Nat.min_le_right _ _) hfl
    have hfs := mkB_size (formatL (L.take i))
    refine Ev.step (fun k => by rw [privityref53_Format.l0, if_pos c1, if_pos c2, rd36 L i hlt]) (Ev.bind hr ?_)
    cases hm : mayF L[i].f0 L[i].f1
    · have hn : ¬ L.all mayC = true := fun h => by
        have := List.all_eq_true.1 h _ (List.getElem_mem hlt)
        unfold mayC at this; rw [hm] at this; cases this
      rw [if_neg hn]
      exact Ev.congr (f := fun _ => some (⟨#[]⟩, 1)) (fun k => if_neg (by simp)) (Ev.now _)
    · obtain ⟨h1, h2, h3⟩ := may_le (x := L[i]) hm
      have c3 : (mkB (formatL (L.take i))).size + L[i].f0.size ≤ 9223372036854775807 := by omega
      have hx := ih (i + 1) (by omega) hlt (by rw [htk, List.all_append, hall]; simp [mayC, hm])
      have h5 : L[i].f0.data.toList.length = L[i].f0.size := by rw [Array.length_toList]; rfl
      have hw := wrap64_nat i (by omega)
      have hf : formatL (L.take (i + 1)) = formatL (L.take i) ++ L[i].f0.data.toList ++ L[i].f1.flatMap wordL ++ [10] := by
        rw [htk, formatL_snoc]
      rw [hf] at hx
      have key := fmt_words L i hlt h2 h3 _ _ 0 (formatL (L.take i) ++ L[i].f0.data.toList) rfl (Nat.zero_le _) (len_help hle (Nat.le_trans (Nat.le_of_eq h5) h1)) (by rw [hw]; exact hx)
      refine Ev.congr (fun k => ?_) key
      rw [if_pos rfl, if_pos c3, ← mkB_app, mkB_of]
      rfl
theorem refFormat (L : List S36) (hL : L.length ≤ 100000) (hv : ∀ x ∈ L, x.f0.size ≤ 1000000 ∧ x.f1.length ≤ 1000000) : Ev (fun k => privityref53_Format.f k L) (if L.all mayC = true then (mkB (formatL L), 0) else (⟨#[]⟩, 1)) :=
  refFormat_go L hL hv _ 0 rfl (Nat.zero_le _) rfl
end Go.Proofs.YtfgbdcpfbghdoaaGreatDoor.P
end
