/- What is proved here: a part of the proof of ScriptParse: Sra, Px22, Px23, Px24. No conditions beside those that each theorem states. -/
import Derived.Test.YtfgbdcpfbghdoaaGreatDoorKSPse36
import Derived.Test.YtfgbdcpfbghdoaaGreatDoorKSPse28
import Derived.Test.YtfgbdcpfbghdoaaGreatDoorKSPse30
import Derived.Test.YtfgbdcpfbghdoaaGreatDoorKSPse9
section
set_option linter.unusedVariables false
set_option linter.unusedSimpArgs false
namespace Go.Proofs.YtfgbdcpfbghdoaaGreatDoor.P
open Go.RowKit Go.Proofs.YtfgbdcpfbghdoaaGreatDoorW.PrintWords Go.Proofs.YtfgbdcpfbghdoaaGreatDoorW.PrintLast Go.Proofs.YtfgbdcpfbghdoaaGreatDoorW.PrintMore
theorem refVerb_go (x : ByteArray) (hx : x.size ≤ 1000000) : ∀ (d i : Nat), x.size - i = d → i ≤ x.size → lowUpto x i = true → Ev (fun k => privityref53_Verb.l0 k x (i : Int)) (verbF x) := by
  intro d
  induction d with
  | zero =>
    intro i hd hi hlo
    obtain rfl : i = x.size := by omega
    refine Ev.step (f := fun _ => some (verbF x)) (fun k => ?_) (Ev.now _)
    simp only [privityref53_Verb.l0]
    rw [if_neg (by omega)]
    unfold verbF
    rw [hlo]
    by_cases h1 : 1 ≤ x.size
    · rw [if_pos (by omega)]
      by_cases h2 : x.size ≤ 12
      · simp [h1, h2]; omega
      · simp [h1, h2]; omega
    · rw [if_neg (by omega)]; simp [h1]
  | succ d ih =>
    intro i hd hi hlo
    have hs := lowUpto_succ x i
    rw [hlo, Bool.true_and] at hs
    by_cases h1 : bt x (i : Int) < 97
    · have hf : verbF x = false := by unfold verbF; rw [lowUpto_le x (show i + 1 ≤ x.size by omega) (by rw [hs]; simp [lowI]; omega)]; rfl
      rw [hf]
      refine Ev.step (f := fun _ => some false) (fun k => ?_) (Ev.now _)
      simp only [privityref53_Verb.l0]
      rw [if_pos (by omega), if_pos (by omega), if_pos h1]
    · by_cases h2 : bt x (i : Int) > 122
      · have hf : verbF x = false := by unfold verbF; rw [lowUpto_le x (show i + 1 ≤ x.size by omega) (by rw [hs]; simp [lowI]; omega)]; rfl
        rw [hf]
        refine Ev.step (f := fun _ => some false) (fun k => ?_) (Ev.now _)
        simp only [privityref53_Verb.l0]
        rw [if_pos (by omega), if_pos (by omega), if_neg h1, if_pos h2]
      · refine Ev.step (fun k => ?_) (ih (i + 1) (by omega) (by omega) (by rw [hs]; simp [lowI]; omega))
        simp only [privityref53_Verb.l0]
        rw [if_pos (by omega), if_pos (by omega), if_neg h1, if_neg h2, wrap64_nat i (by omega)]
theorem refVerb (x : ByteArray) (hx : x.size ≤ 1000000) : Ev (fun k => privityref53_Verb.f k x) (verbF x) := refVerb_go x hx _ 0 rfl (Nat.zero_le _) rfl
theorem refRight_go (v : ByteArray) (ws : List ByteArray) (hv : v.size ≤ 1000000) (hw : ws.length ≤ 1000000) : ∀ (d i : Nat), ws.length - i = d → i ≤ ws.length → wordsF (ws.take i) = true → Ev (fun k => privityref53_Right.l0 k (i : Int) v ws) (mayF v ws) := by
  intro d
  induction d with
  | zero =>
    intro i hd hi hlo
    rw [List.take_of_length_le (by omega)] at hlo
    refine Ev.step (fun k => by simp only [privityref53_Right.l0]; rw [if_neg (by omega)]) (Ev.bind (refVerb v hv) ?_)
    refine Ev.congr (f := fun _ => some (mayF v ws)) (fun k => ?_) (Ev.now _)
    unfold mayF
    rw [hlo]
    cases verbF v
    · rw [if_neg (by simp)]; rfl
    · rw [if_pos rfl]
      by_cases h : ws.length ≤ 40
      · simp [h]; omega
      · simp [h]; omega
  | succ d ih =>
    intro i hd hi hlo
    have hlt : i < ws.length := by omega
    have hr : rdOf ByteArray.empty ws (i : Int) = ws[i] := by simp [rdOf, List.getD_eq_getElem?_getD, List.getElem?_eq_getElem hlt]
    by_cases hb : (ws[i].size : Int) > 12000
    · have hf : mayF v ws = false := by
        unfold mayF
        have : wordsF ws = false := by
          rw [wordsF, List.all_eq_false]
          exact ⟨ws[i], List.getElem_mem hlt, by simp; omega⟩
        rw [this]; simp
      rw [hf]
      refine Ev.step (f := fun _ => some false) (fun k => ?_) (Ev.now _)
      simp only [privityref53_Right.l0]
      rw [if_pos (by omega), if_pos (by omega), hr, if_pos hb]
    · refine Ev.step (fun k => ?_) (ih (i + 1) (by omega) (by omega) (by
        rw [List.take_succ_eq_append_getElem hlt, wordsF, List.all_append, ← wordsF, hlo]; simp; omega))
      simp only [privityref53_Right.l0]
      rw [if_pos (by omega), if_pos (by omega), hr, if_neg hb, wrap64_nat i (by omega)]
theorem refRight (v : ByteArray) (ws : List ByteArray) (hv : v.size ≤ 1000000) (hw : ws.length ≤ 1000000) : Ev (fun k => privityref53_Right.f k v ws) (mayF v ws) := refRight_go v ws hv hw _ 0 rfl (Nat.zero_le _) rfl
def openR (l : List UInt8) : ByteArray × Bool := match openL l with
  | none => (⟨#[]⟩, false)
  | some w => (mkB w, true)
theorem app_one (o : List UInt8) (c : UInt8) : mkB o ++ ⟨#[c]⟩ = mkB (o ++ [c]) := by
  apply ByteArray.ext; simp [mkB]
set_option maxHeartbeats 1000000 in
theorem refUnquote_go (l : List UInt8) (hl : l.length ≤ 1000000) : ∀ (d i : Nat) (o : List UInt8), l.length - i = d → i ≤ l.length → o.length ≤ i → openL l = (openL (l.drop i)).map (o ++ ·) → Ev (fun k => privityref53_unquote.l0 k (mkB l) (mkB o) (i : Int)) (openR l) := by
  intro d
  induction d using Nat.strongRecOn with
  | _ d ih =>
    intro i o hd hi ho hop
    by_cases hlt : i < l.length
    · have hos : (mkB o).size + 1 ≤ 9223372036854775807 := by have := mkB_size o; omega
      have hsz0 := mkB_size l
      have c1 : (i : Int) < ((mkB l).size : Int) := by omega
      have c2 : 0 ≤ (i : Int) := by omega
      have c3 : i + 1 ≠ l.length → ¬ ((i + 1 : Nat) : Int) = ((mkB l).size : Int) := by omega
      have c3' : i + 1 = l.length → ((i + 1 : Nat) : Int) = ((mkB l).size : Int) := by omega
      have c4 : 0 ≤ ((i + 1 : Nat) : Int) := by omega
      have c5 : i + 1 ≠ l.length → ((i + 1 : Nat) : Int) < ((mkB l).size : Int) := by omega
      have c6 : ((i + 1 : Nat) : Int) ≤ ((mkB l).size : Int) := by omega
      have c7 : (i : Int) ≤ ((i + 1 : Nat) : Int) := by omega
      have c8 : i + 1 ≠ l.length → i + 1 < l.length := by omega
      have m1 : l.length - (i + 1) < d := by omega
      have m2 : i + 1 ≠ l.length → l.length - (i + 2) < d := by omega
      have m3 : i + 1 ≠ l.length → i + 2 ≤ l.length := by omega
      have m4 : ∀ x : UInt8, (o ++ [x]).length ≤ i + 1 := by intro x; simp; omega
      have m5 : ∀ x : UInt8, (o ++ [x]).length ≤ i + 2 := by intro x; simp; omega
      have m6 : l.length ≤ 9223372036854775807 := by omega
      have hos2 : (mkB o).size + ((mkB l).extract (i : Int).toNat ((i + 1 : Nat) : Int).toNat).size ≤ 9223372036854775807 := by
        have h1 := mkB_size o
        have h2 : ((mkB l).extract (i : Int).toNat ((i + 1 : Nat) : Int).toNat).size ≤ l.length := by unfold mkB; rw [ext_eq, sz]; simp; omega
        omega
      clear hl hi ho hd
      have hb : bt (mkB l) (i : Int) = (l[i].toNat : Int) := bt_nat l i hlt
      have hd0 : l.drop i = l[i] :: l.drop (i + 1) := List.drop_eq_getElem_cons hlt
      rw [hd0] at hop
      have hw1 : wrap64 ((i : Int) + 1) = ((i + 1 : Nat) : Int) := wrap_nat hlt m6
      by_cases h94 : l[i] = 94
      · rw [h94] at hb hop
        replace hb : bt (mkB l) (i : Int) = 94 := hb
        by_cases hlast : i + 1 = l.length
        · have hres : openR l = (⟨#[]⟩, false) := by
            have : openL l = none := by rw [hop, List.drop_of_length_le (Nat.le_of_eq hlast.symm), openL, if_pos rfl]; rfl
            unfold openR; rw [this]
          rw [hres]
          refine Ev.step (f := fun _ => some (⟨#[]⟩, false)) (fun k => ?_) (Ev.now _)
          simp only [privityref53_unquote.l0]
          rw [if_pos c1, if_pos c2, hb, if_pos rfl, hw1, if_pos (c3' hlast)]
        · have hlt2 : i + 1 < l.length := c8 hlast
          have hb2 : bt (mkB l) ((i + 1 : Nat) : Int) = (l[i + 1].toNat : Int) := bt_nat l (i + 1) hlt2
          have hd1 : l.drop (i + 1) = l[i + 1] :: l.drop (i + 2) := List.drop_eq_getElem_cons hlt2
          rw [hd1] at hop
          have hw2 : wrap64 (((i + 1 : Nat) : Int) + 1) = ((i + 2 : Nat) : Int) := wrap_nat hlt2 m6
          have hop2 : openL l = (if l[i + 1] = 110 then (openL (l.drop (i + 2))).map (10 :: ·) else if l[i + 1] = 113 then (openL (l.drop (i + 2))).map (34 :: ·) else if l[i + 1] = 99 then (openL (l.drop (i + 2))).map (94 :: ·) else none).map (o ++ ·) := by rw [hop, openL, if_pos rfl]
          have key : ∀ x : UInt8, openL l = ((openL (l.drop (i + 2))).map (x :: ·)).map (o ++ ·) → openL l = (openL (l.drop (i + 2))).map ((o ++ [x]) ++ ·) := by
            intro x h; rw [h, Option.map_map]; congr 1; funext y; simp
          have head : ∀ k, privityref53_unquote.l0 (k + 1) (mkB l) (mkB o) (i : Int) = (if ((l[i + 1].toNat : Int)) = 110 then privityref53_unquote.l0 k (mkB l) (mkB (o ++ [10])) ((i + 2 : Nat) : Int) else if ((l[i + 1].toNat : Int)) = 113 then privityref53_unquote.l0 k (mkB l) (mkB (o ++ [34])) ((i + 2 : Nat) : Int) else if ((l[i + 1].toNat : Int)) = 99 then privityref53_unquote.l0 k (mkB l) (mkB (o ++ [94])) ((i + 2 : Nat) : Int) else some (⟨#[]⟩, false)) := by
            intro k
            simp only [privityref53_unquote.l0]
            rw [if_pos c1, if_pos c2, hb, if_pos rfl, hw1, if_neg (c3 hlast), if_pos c4, if_pos (c5 hlast), hb2, hw2, if_pos hos, if_pos hos, if_pos hos, app_one, app_one, app_one]
          by_cases hn : l[i + 1] = 110
          · refine Ev.step (fun k => by rw [head, if_pos ((n110 _).2 hn)]) (ih (l.length - (i + 2)) (m2 hlast) (i + 2) (o ++ [10]) rfl (m3 hlast) (m5 _) (key 10 (by rw [hop2, if_pos hn])))
          · by_cases hq : l[i + 1] = 113
            · refine Ev.step (fun k => by rw [head, if_neg (fun e => hn ((n110 _).1 e)), if_pos ((n113 _).2 hq)]) (ih (l.length - (i + 2)) (m2 hlast) (i + 2) (o ++ [34]) rfl (m3 hlast) (m5 _) (key 34 (by rw [hop2, if_neg hn, if_pos hq])))
            · by_cases hc : l[i + 1] = 99
              · refine Ev.step (fun k => by rw [head, if_neg (fun e => hn ((n110 _).1 e)), if_neg (fun e => hq ((n113 _).1 e)), if_pos ((n99 _).2 hc)]) (ih (l.length - (i + 2)) (m2 hlast) (i + 2) (o ++ [94]) rfl (m3 hlast) (m5 _) (key 94 (by rw [hop2, if_neg hn, if_neg hq, if_pos hc])))
              · have hres : openR l = (⟨#[]⟩, false) := by
                  have : openL l = none := by rw [hop2, if_neg hn, if_neg hq, if_neg hc]; rfl
                  unfold openR; rw [this]
                rw [hres]
                exact Ev.step (f := fun _ => some (⟨#[]⟩, false)) (fun k => by rw [head, if_neg (fun e => hn ((n110 _).1 e)), if_neg (fun e => hq ((n113 _).1 e)), if_neg (fun e => hc ((n99 _).1 e))]) (Ev.now _)
      · have hos := hos2
        have he : mkB o ++ (mkB l).extract (i : Int).toNat ((i + 1 : Nat) : Int).toNat = mkB (o ++ [l[i]]) := by
          rw [← app_one]
          congr 1
          unfold mkB
          rw [ext_eq]
          simp only [Int.toNat_natCast, Nat.add_sub_cancel_left]
          rw [hd0]; rfl
        have hx := ih (l.length - (i + 1)) m1 (i + 1) (o ++ [l[i]]) rfl hlt (m4 _) (by
          rw [hop, openL_cons _ _ h94, Option.map_map]; congr 1; funext y; simp)
        refine Ev.step (fun k => ?_) hx
        simp only [privityref53_unquote.l0]
        rw [if_pos c1, if_pos c2, hb, if_neg (fun e => h94 ((n94 _).1 e)), hw1, if_pos c7, if_pos c6, if_pos hos, he]
    · have hres : openR l = (mkB o, true) := by
        have : openL l = some o := by rw [hop, List.drop_of_length_le (by omega)]; simp [openL]
        unfold openR; rw [this]
      rw [hres]
      refine Ev.step (f := fun _ => some (mkB o, true)) (fun k => ?_) (Ev.now _)
      simp only [privityref53_unquote.l0]
      rw [if_neg (by have := mkB_size l; omega)]
theorem refUnquote (l : List UInt8) (hl : l.length ≤ 1000000) : Ev (fun k => privityref53_unquote.f k (mkB l)) (openR l) :=
  refUnquote_go l hl _ 0 [] rfl (Nat.zero_le _) (Nat.le_refl _) (by simp)
end Go.Proofs.YtfgbdcpfbghdoaaGreatDoor.P
end
section
namespace Go.Proofs.YtfgbdcpfbghdoaaGreatDoor.P
open Go.RowKit Go.Proofs.YtfgbdcpfbghdoaaGreatDoorW.PrintWords Go.Proofs.YtfgbdcpfbghdoaaGreatDoorW.PrintLast Go.Proofs.YtfgbdcpfbghdoaaGreatDoorW.PrintMore
attribute [local go_sem] max2_int min2_int max_two min_two max_three min_three max_four min_four   -- for this text's walks alone
set_option linter.unusedVariables false
set_option linter.unusedSimpArgs false
end Go.Proofs.YtfgbdcpfbghdoaaGreatDoor.P
end
section
namespace Go.Proofs.YtfgbdcpfbghdoaaGreatDoor.P
open Go.RowKit Go.Proofs.YtfgbdcpfbghdoaaGreatDoorW.PrintWords Go.Proofs.YtfgbdcpfbghdoaaGreatDoorW.PrintLast Go.Proofs.YtfgbdcpfbghdoaaGreatDoorW.PrintMore
attribute [local go_sem] max2_int min2_int max_two min_two max_three min_three max_four min_four   -- for this text's walks alone
set_option linter.unusedVariables false
set_option linter.unusedSimpArgs false
end Go.Proofs.YtfgbdcpfbghdoaaGreatDoor.P
end
section
namespace Go.Proofs.YtfgbdcpfbghdoaaGreatDoor.P
open Go.RowKit Go.Proofs.YtfgbdcpfbghdoaaGreatDoorW.PrintWords Go.Proofs.YtfgbdcpfbghdoaaGreatDoorW.PrintLast Go.Proofs.YtfgbdcpfbghdoaaGreatDoorW.PrintMore
attribute [local go_sem] max2_int min2_int max_two min_two max_three min_three max_four min_four   -- for this text's walks alone
set_option linter.unusedVariables false
set_option linter.unusedSimpArgs false
end Go.Proofs.YtfgbdcpfbghdoaaGreatDoor.P
end
