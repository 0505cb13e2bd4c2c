/- What is proved here: a part of the proof of ScriptFormatInjective: Px16, Sra, Px22, Px23, Px24, Srg. No conditions beside those that each theorem states. -/
import Derived.Test.YtfgbdcpfbghdoaaGreatDoorKSFIve11
import Derived.Test.YtfgbdcpfbghdoaaGreatDoorKSFIve38
import Derived.Test.YtfgbdcpfbghdoaaGreatDoorKSFIve37
import Derived.Test.YtfgbdcpfbghdoaaGreatDoorKSFIve30
section
namespace Go.Proofs.YtfgbdcpfbghdoaaGreatDoor.P
open Go.RowKit Go.Proofs.YtfgbdcpfbghdoaaGreatDoorW.PrintWords Go.Proofs.YtfgbdcpfbghdoaaGreatDoorW.PrintLast Go.Proofs.YtfgbdcpfbghdoaaGreatDoorW.PrintMore
attribute [local go_sem] max2_int min2_int max_two min_two max_three min_three max_four min_four   -- for this text's walks alone
set_option linter.unusedVariables false
set_option linter.unusedSimpArgs false
mutual
def privityref53_piece.l0 : Nat → ByteArray → Int → Option (ByteArray × Bool × ByteArray × Bool)
  | 0, _, _ => none
  | k + 1, x0, x6 => if x6 < (x0.size : Int) then (if 0 ≤ x6 then (if (bt x0 x6) = 34 then (if x6 = (x0.size : Int) then (some ((⟨#[]⟩ : ByteArray), false, (⟨#[]⟩ : ByteArray), false)) else (if 1 ≤ x6 then (if x6 ≤ (x0.size : Int) then ((privityref53_unquote.f k (x0.extract 1 (x6 : Int).toNat)).bind fun bt164 => (if 0 ≤ (wrap64 (x6 + 1)) then (if (wrap64 (x6 + 1)) ≤ (x0.size : Int) then (some (bt164.1, false, x0.extract ((wrap64 (x6 + 1)) : Int).toNat x0.size, bt164.2)) else (none)) else (none))) else (none)) else (none))) else (privityref53_piece.l0 k x0 (wrap64 (x6 + 1)))) else (none)) else (if x6 = (x0.size : Int) then (some ((⟨#[]⟩ : ByteArray), false, (⟨#[]⟩ : ByteArray), false)) else (if 1 ≤ x6 then (if x6 ≤ (x0.size : Int) then ((privityref53_unquote.f k (x0.extract 1 (x6 : Int).toNat)).bind fun bt166 => (if 0 ≤ (wrap64 (x6 + 1)) then (if (wrap64 (x6 + 1)) ≤ (x0.size : Int) then (some (bt166.1, false, x0.extract ((wrap64 (x6 + 1)) : Int).toNat x0.size, bt166.2)) else (none)) else (none))) else (none)) else (none)))
def privityref53_piece.l1 : Nat → ByteArray → Int → Option (ByteArray × Bool × ByteArray × Bool)
  | 0, _, _ => none
  | k + 1, x0, x6 => if x6 < (x0.size : Int) then (if 0 ≤ x6 then ((privityref53_plain.f (bt x0 x6)).bind fun t168 => (if t168 = true then (privityref53_piece.l1 k x0 (wrap64 (x6 + 1))) else (if x6 ≤ (x0.size : Int) then (some (x0.extract 0 (x6 : Int).toNat, true, x0.extract (x6 : Int).toNat x0.size, decide (x6 > 0))) else (none)))) else (none)) else (if 0 ≤ x6 then (if x6 ≤ (x0.size : Int) then (some (x0.extract 0 (x6 : Int).toNat, true, x0.extract (x6 : Int).toNat x0.size, decide (x6 > 0))) else (none)) else (none))
end
def privityref53_piece.f (k : Nat) (a0 : ByteArray) : Option (ByteArray × Bool × ByteArray × Bool) := if 0 < (a0.size : Int) then (if (bt a0 0) = 34 then (privityref53_piece.l0 k a0 1) else (privityref53_piece.l1 k a0 0)) else (none)
end Go.Proofs.YtfgbdcpfbghdoaaGreatDoor.P
end
section
namespace Go.Proofs.YtfgbdcpfbghdoaaGreatDoor.P
end Go.Proofs.YtfgbdcpfbghdoaaGreatDoor.P
end
section
namespace Go.Proofs.YtfgbdcpfbghdoaaGreatDoor.P
open Go.RowKit Go.Proofs.YtfgbdcpfbghdoaaGreatDoorW.PrintWords Go.Proofs.YtfgbdcpfbghdoaaGreatDoorW.PrintLast Go.Proofs.YtfgbdcpfbghdoaaGreatDoorW.PrintMore
attribute [local go_sem] max2_int min2_int max_two min_two max_three min_three max_four min_four   -- for this text's walks alone
set_option linter.unusedVariables false
set_option linter.unusedSimpArgs false
end Go.Proofs.YtfgbdcpfbghdoaaGreatDoor.P
end
section
namespace Go.Proofs.YtfgbdcpfbghdoaaGreatDoor.P
open Go.RowKit Go.Proofs.YtfgbdcpfbghdoaaGreatDoorW.PrintWords Go.Proofs.YtfgbdcpfbghdoaaGreatDoorW.PrintLast Go.Proofs.YtfgbdcpfbghdoaaGreatDoorW.PrintMore
attribute [local go_sem] max2_int min2_int max_two min_two max_three min_three max_four min_four   -- for this text's walks alone
set_option linter.unusedVariables false
set_option linter.unusedSimpArgs false
end Go.Proofs.YtfgbdcpfbghdoaaGreatDoor.P
end
section
namespace Go.Proofs.YtfgbdcpfbghdoaaGreatDoor.P
open Go.RowKit Go.Proofs.YtfgbdcpfbghdoaaGreatDoorW.PrintWords Go.Proofs.YtfgbdcpfbghdoaaGreatDoorW.PrintLast Go.Proofs.YtfgbdcpfbghdoaaGreatDoorW.PrintMore
attribute [local go_sem] max2_int min2_int max_two min_two max_three min_three max_four min_four   -- for this text's walks alone
set_option linter.unusedVariables false
set_option linter.unusedSimpArgs false
end Go.Proofs.YtfgbdcpfbghdoaaGreatDoor.P
end
section
set_option linter.unusedVariables false
set_option linter.unusedSimpArgs false
namespace Go.Proofs.YtfgbdcpfbghdoaaGreatDoor.P
open Go.RowKit Go.Proofs.YtfgbdcpfbghdoaaGreatDoorW.PrintWords Go.Proofs.YtfgbdcpfbghdoaaGreatDoorW.PrintLast Go.Proofs.YtfgbdcpfbghdoaaGreatDoorW.PrintMore
theorem dl (w : ByteArray) : w.data.toList.length = w.size := by rw [Array.length_toList]; rfl
theorem rd36 (l : List S36) (i : Nat) (h : i < l.length) : rd_T36 l (i : Int) = l[i] := by simp [rd_T36, h]
theorem rdW (ws : List ByteArray) (i : Nat) (h : i < ws.length) : rdOf ByteArray.empty ws (i : Int) = ws[i] := by simp [rdOf, List.getD_eq_getElem?_getD, List.getElem?_eq_getElem h]
end Go.Proofs.YtfgbdcpfbghdoaaGreatDoor.P
end
