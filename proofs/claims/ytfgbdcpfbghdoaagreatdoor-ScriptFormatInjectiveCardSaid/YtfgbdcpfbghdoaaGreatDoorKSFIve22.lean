/- What is proved here: a part of the proof of ScriptFormatInjective: Smy. No conditions beside those that each theorem states. -/
import Derived.Test.YtfgbdcpfbghdoaaGreatDoorKSFIve19
import Derived.Test.YtfgbdcpfbghdoaaGreatDoorKSFIve18
section
set_option linter.unusedVariables false
set_option linter.unusedSimpArgs false
namespace Go.Proofs.YtfgbdcpfbghdoaaGreatDoor.P
open Go.RowKit Go.Proofs.YtfgbdcpfbghdoaaGreatDoorW.PrintWords Go.Proofs.YtfgbdcpfbghdoaaGreatDoorW.PrintLast Go.Proofs.YtfgbdcpfbghdoaaGreatDoorW.PrintMore
def verbF (v : ByteArray) : Bool := lowUpto v v.size && (decide (1 ≤ v.size) && decide (v.size ≤ 12))
def wordsF (ws : List ByteArray) : Bool := ws.all (fun x => decide (x.size ≤ 12000))
def mayF (v : ByteArray) (ws : List ByteArray) : Bool := verbF v && (decide (ws.length ≤ 40) && wordsF ws)
theorem wrap64_nat (i : Nat) (h : i < 9223372036854775807) : wrap64 ((i : Int) + 1) = ((i + 1 : Nat) : Int) := by
  simp [wrap64]; omega
theorem rdOf_drop (ws : List ByteArray) (i : Nat) (h : i < ws.length) : ws.drop i = rdOf ByteArray.empty ws (i : Int) :: ws.drop (i + 1) := by
  rw [List.drop_eq_getElem_cons h]
  congr 1
  simp [rdOf, List.getD_eq_getElem?_getD, List.getElem?_eq_getElem h]
theorem may_l0 (ws : List ByteArray) (hl : ws.length < 1000000) : ∀ (d i k : Nat), ws.length - i = d → d + 1 ≤ k → i ≤ ws.length → script_may.l0 k ws (ws.length : Int) (i : Int) = some (wordsF (ws.drop i)) := by
  intro d
  induction d with
  | zero =>
    intro i k hd hk hi
    obtain ⟨k, rfl⟩ : ∃ k', k = k' + 1 := ⟨k - 1, by omega⟩
    rw [script_may.l0, if_neg (by omega), List.drop_of_length_le (by omega)]; rfl
  | succ d ih =>
    intro i k hd hk hi
    obtain ⟨k, rfl⟩ : ∃ k', k = k' + 1 := ⟨k - 1, by omega⟩
    rw [script_may.l0, if_pos (by omega), if_pos (by omega), if_pos (by omega), rdOf_drop ws i (by omega)]
    by_cases hb : ((rdOf ByteArray.empty ws (i : Int)).size : Int) > 12000
    · rw [if_pos hb]
      have : ¬ (rdOf ByteArray.empty ws (i : Int)).size ≤ 12000 := by omega
      simp [wordsF, this]
    · rw [if_neg hb, wrap64_nat i (by omega), ih (i + 1) k (by omega) (by omega) (by omega)]
      have : (rdOf ByteArray.empty ws (i : Int)).size ≤ 12000 := by omega
      simp [wordsF, this]
theorem may_ev (v : ByteArray) (ws : List ByteArray) (hv : v.size ≤ 140737488355328) (k : Nat) (hk : 50 ≤ k) : script_may.f k v ws = some (mayF v ws) := by
  unfold script_may.f script_verb.f
  rw [if_pos hv]
  obtain ⟨k, rfl⟩ : ∃ k', k = k' + 1 := ⟨k - 1, by omega⟩
  show (if verbF v = true then _ else _) = _
  cases hf : verbF v
  · rw [if_neg (by simp), script_may.j0, if_pos rfl]; simp [mayF, hf]
  · rw [if_pos rfl, script_may.j0]
    by_cases hw : (ws.length : Int) > 40
    · rw [if_pos (by simp; omega)]
      have : ¬ ws.length ≤ 40 := by omega
      simp [mayF, hf, this]
    · rw [if_neg (by simp; omega)]
      have h40 : ws.length ≤ 40 := by omega
      have := may_l0 ws (by omega) ws.length 0 k (by omega) (by omega) (by omega)
      rw [show ((0 : Nat) : Int) = 0 from rfl] at this
      rw [this]
      simp [mayF, hf, h40]
end Go.Proofs.YtfgbdcpfbghdoaaGreatDoor.P
end
