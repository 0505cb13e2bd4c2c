/- What is proved here: a part of the proof of ScriptFormat: Px15, Px16, Sra. No conditions beside those that each theorem states. -/
import Derived.Test.YtfgbdcpfbghdoaaGreatDoorKSFat9
import Derived.Test.YtfgbdcpfbghdoaaGreatDoorKSFat33
import Derived.Test.YtfgbdcpfbghdoaaGreatDoorKSFat39
import Derived.Test.YtfgbdcpfbghdoaaGreatDoorKSFat32
section
namespace Go.Proofs.YtfgbdcpfbghdoaaGreatDoor.P
open Go.RowKit Go.Proofs.YtfgbdcpfbghdoaaGreatDoorW.PrintWords Go.Proofs.YtfgbdcpfbghdoaaGreatDoorW.PrintLast Go.Proofs.YtfgbdcpfbghdoaaGreatDoorW.PrintMore
attribute [local go_sem] max2_int min2_int max_two min_two max_three min_three max_four min_four   -- for this text's walks alone
set_option linter.unusedVariables false
set_option linter.unusedSimpArgs false
def privityref53_unquote.l0 : Nat → ByteArray → ByteArray → Int → Option (ByteArray × Bool)
  | 0, _, _, _ => none
  | k + 1, x0, x4, x5 => if x5 < (x0.size : Int) then (if 0 ≤ x5 then (if (bt x0 x5) = 94 then (if (wrap64 (x5 + 1)) = (x0.size : Int) then (some ((⟨#[]⟩ : ByteArray), false)) else (if 0 ≤ (wrap64 (x5 + 1)) then (if (wrap64 (x5 + 1)) < (x0.size : Int) then (if (bt x0 (wrap64 (x5 + 1))) = 110 then (if x4.size + 1 ≤ 9223372036854775807 then (privityref53_unquote.l0 k x0 (x4 ++ (⟨#[10]⟩ : ByteArray)) (wrap64 ((wrap64 (x5 + 1)) + 1))) else (none)) else (if (bt x0 (wrap64 (x5 + 1))) = 113 then (if x4.size + 1 ≤ 9223372036854775807 then (privityref53_unquote.l0 k x0 (x4 ++ (⟨#[34]⟩ : ByteArray)) (wrap64 ((wrap64 (x5 + 1)) + 1))) else (none)) else (if (bt x0 (wrap64 (x5 + 1))) = 99 then (if x4.size + 1 ≤ 9223372036854775807 then (privityref53_unquote.l0 k x0 (x4 ++ (⟨#[94]⟩ : ByteArray)) (wrap64 ((wrap64 (x5 + 1)) + 1))) else (none)) else (some ((⟨#[]⟩ : ByteArray), false))))) else (none)) else (none))) else (if x5 ≤ (wrap64 (x5 + 1)) then (if (wrap64 (x5 + 1)) ≤ (x0.size : Int) then (if x4.size + (x0.extract (x5 : Int).toNat ((wrap64 (x5 + 1)) : Int).toNat).size ≤ 9223372036854775807 then (privityref53_unquote.l0 k x0 (x4 ++ (x0.extract (x5 : Int).toNat ((wrap64 (x5 + 1)) : Int).toNat)) (wrap64 (x5 + 1))) else (none)) else (none)) else (none))) else (none)) else (some (x4, true))
def privityref53_unquote.f (k : Nat) (a0 : ByteArray) : Option (ByteArray × Bool) := privityref53_unquote.l0 k a0 (⟨#[]⟩ : ByteArray) 0
end Go.Proofs.YtfgbdcpfbghdoaaGreatDoor.P
end
section
namespace Go.Proofs.YtfgbdcpfbghdoaaGreatDoor.P
open Go.RowKit Go.Proofs.YtfgbdcpfbghdoaaGreatDoorW.PrintWords Go.Proofs.YtfgbdcpfbghdoaaGreatDoorW.PrintLast Go.Proofs.YtfgbdcpfbghdoaaGreatDoorW.PrintMore
attribute [local go_sem] max2_int min2_int max_two min_two max_three min_three max_four min_four   -- for this text's walks alone
set_option linter.unusedVariables false
set_option linter.unusedSimpArgs false
mutual
def privityref53_piece.l0 : Nat → ByteArray → Int → Option (ByteArray × Bool × ByteArray × Bool)
  | 0, _, _ => none
  | k + 1, x0, x6 => if x6 < (x0.size : Int) then (if 0 ≤ x6 then (if (bt x0 x6) = 34 then (if x6 = (x0.size : Int) then (some ((⟨#[]⟩ : ByteArray), false, (⟨#[]⟩ : ByteArray), false)) else (if 1 ≤ x6 then (if x6 ≤ (x0.size : Int) then ((privityref53_unquote.f k (x0.extract 1 (x6 : Int).toNat)).bind fun bt164 => (if 0 ≤ (wrap64 (x6 + 1)) then (if (wrap64 (x6 + 1)) ≤ (x0.size : Int) then (some (bt164.1, false, x0.extract ((wrap64 (x6 + 1)) : Int).toNat x0.size, bt164.2)) else (none)) else (none))) else (none)) else (none))) else (privityref53_piece.l0 k x0 (wrap64 (x6 + 1)))) else (none)) else (if x6 = (x0.size : Int) then (some ((⟨#[]⟩ : ByteArray), false, (⟨#[]⟩ : ByteArray), false)) else (if 1 ≤ x6 then (if x6 ≤ (x0.size : Int) then ((privityref53_unquote.f k (x0.extract 1 (x6 : Int).toNat)).bind fun bt166 => (if 0 ≤ (wrap64 (x6 + 1)) then (if (wrap64 (x6 + 1)) ≤ (x0.size : Int) then (some (bt166.1, false, x0.extract ((wrap64 (x6 + 1)) : Int).toNat x0.size, bt166.2)) else (none)) else (none))) else (none)) else (none)))
def privityref53_piece.l1 : Nat → ByteArray → Int → Option (ByteArray × Bool × ByteArray × Bool)
  | 0, _, _ => none
  | k + 1, x0, x6 => if x6 < (x0.size : Int) then (if 0 ≤ x6 then ((privityref53_plain.f (bt x0 x6)).bind fun t168 => (if t168 = true then (privityref53_piece.l1 k x0 (wrap64 (x6 + 1))) else (if x6 ≤ (x0.size : Int) then (some (x0.extract 0 (x6 : Int).toNat, true, x0.extract (x6 : Int).toNat x0.size, decide (x6 > 0))) else (none)))) else (none)) else (if 0 ≤ x6 then (if x6 ≤ (x0.size : Int) then (some (x0.extract 0 (x6 : Int).toNat, true, x0.extract (x6 : Int).toNat x0.size, decide (x6 > 0))) else (none)) else (none))
end
def privityref53_piece.f (k : Nat) (a0 : ByteArray) : Option (ByteArray × Bool × ByteArray × Bool) := if 0 < (a0.size : Int) then (if (bt a0 0) = 34 then (privityref53_piece.l0 k a0 1) else (privityref53_piece.l1 k a0 0)) else (none)
end Go.Proofs.YtfgbdcpfbghdoaaGreatDoor.P
end
section
set_option linter.unusedVariables false
set_option linter.unusedSimpArgs false
namespace Go.Proofs.YtfgbdcpfbghdoaaGreatDoor.P
open Go.RowKit Go.Proofs.YtfgbdcpfbghdoaaGreatDoorW.PrintWords Go.Proofs.YtfgbdcpfbghdoaaGreatDoorW.PrintLast Go.Proofs.YtfgbdcpfbghdoaaGreatDoorW.PrintMore
theorem refVerb_go (x : ByteArray) (hx : x.size ≤ 1000000) : ∀ (d i : Nat), x.size - i = d → i ≤ x.size → lowUpto x i = true → Ev (fun k => privityref53_Verb.l0 k x (i : Int)) (verbF x) := by
  intro d
  induction d with
  | zero =>
    intro i hd hi hlo
    obtain rfl : i = x.size := by omega
    refine Ev.step (f := fun _ => some (verbF x)) (fun k => ?_) (Ev.now _)
    simp only [privityref53_Verb.l0]
    rw [if_neg (by omega)]
    unfold verbF
    rw [hlo]
    by_cases h1 : 1 ≤ x.size
    · rw [if_pos (by omega)]
      by_cases h2 : x.size ≤ 12
      · simp [h1, h2]; omega
      · simp [h1, h2]; omega
    · rw [if_neg (by omega)]; simp [h1]
  | succ d ih =>
    intro i hd hi hlo
    have hs := lowUpto_succ x i
    rw [hlo, Bool.true_and] at hs
    by_cases h1 : bt x (i : Int) < 97
    · have hf : verbF x = false := by unfold verbF; rw [lowUpto_le x (show i + 1 ≤ x.size by omega) (by rw [hs]; simp [lowI]; omega)]; rfl
      rw [hf]
      refine Ev.step (f := fun _ => some false) (fun k => ?_) (Ev.now _)
      simp only [privityref53_Verb.l0]
      rw [if_pos (by omega), if_pos (by omega), if_pos h1]
    · by_cases h2 : bt x (i : Int) > 122
      · have hf : verbF x = false := by unfold verbF; rw [lowUpto_le x (show i + 1 ≤ x.size by omega) (by rw [hs]; simp [lowI]; omega)]; rfl
        rw [hf]
        refine Ev.step (f := fun _ => some false) (fun k => ?_) (Ev.now _)
        simp only [privityref53_Verb.l0]
        rw [if_pos (by omega), if_pos (by omega), if_neg h1, if_pos h2]
      · refine Ev.step (fun k => ?_) (ih (i + 1) (by omega) (by omega) (by rw [hs]; simp [lowI]; omega))
        simp only [privityref53_Verb.l0]
        rw [if_pos (by omega), if_pos (by omega), if_neg h1, if_neg h2, wrap64_nat i (by omega)]
theorem refVerb (x : ByteArray) (hx : x.size ≤ 1000000) : Ev (fun k => privityref53_Verb.f k x) (verbF x) := refVerb_go x hx _ 0 rfl (Nat.zero_le _) rfl
theorem refRight_go (v : ByteArray) (ws : List ByteArray) (hv : v.size ≤ 1000000) (hw : ws.length ≤ 1000000) : ∀ (d i : Nat), ws.length - i = d → i ≤ ws.length → wordsF (ws.take i) = true → Ev (fun k => privityref53_Right.l0 k (i : Int) v ws) (mayF v ws) := by
  intro d
  induction d with
  | zero =>
    intro i hd hi hlo
    rw [List.take_of_length_le (by omega)] at hlo
    refine Ev.step (fun k => by simp only [privityref53_Right.l0]; rw [if_neg (by omega)]) (Ev.bind (refVerb v hv) ?_)
    refine Ev.congr (f := fun _ => some (mayF v ws)) (fun k => ?_) (Ev.now _)
    unfold mayF
    rw [hlo]
    cases verbF v
    · rw [if_neg (by simp)]; rfl
    · rw [if_pos rfl]
      by_cases h : ws.length ≤ 40
      · simp [h]; omega
      · simp [h]; omega
  | succ d ih =>
    intro i hd hi hlo
    have hlt : i < ws.length := by omega
    have hr : rdOf ByteArray.empty ws (i : Int) = ws[i] := by simp [rdOf, List.getD_eq_getElem?_getD, List.getElem?_eq_getElem hlt]
    by_cases hb : (ws[i].size : Int) > 12000
    · have hf : mayF v ws = false := by
        unfold mayF
        have : wordsF ws = false := by
          rw [wordsF, List.all_eq_false]
          exact ⟨ws[i], List.getElem_mem hlt, by simp; omega⟩
        rw [this]; simp
      rw [hf]
      refine Ev.step (f := fun _ => some false) (fun k => ?_) (Ev.now _)
      simp only [privityref53_Right.l0]
      rw [if_pos (by omega), if_pos (by omega), hr, if_pos hb]
    · refine Ev.step (fun k => ?_) (ih (i + 1) (by omega) (by omega) (by
        rw [List.take_succ_eq_append_getElem hlt, wordsF, List.all_append, ← wordsF, hlo]; simp; omega))
      simp only [privityref53_Right.l0]
      rw [if_pos (by omega), if_pos (by omega), hr, if_neg hb, wrap64_nat i (by omega)]
theorem refRight (v : ByteArray) (ws : List ByteArray) (hv : v.size ≤ 1000000) (hw : ws.length ≤ 1000000) : Ev (fun k => privityref53_Right.f k v ws) (mayF v ws) := refRight_go v ws hv hw _ 0 rfl (Nat.zero_le _) rfl
theorem app_one (o : List UInt8) (c : UInt8) : mkB o ++ ⟨#[c]⟩ = mkB (o ++ [c]) := by
  apply ByteArray.ext; simp [mkB]
end Go.Proofs.YtfgbdcpfbghdoaaGreatDoor.P
end
