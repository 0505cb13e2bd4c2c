/- What is proved here: a part of the proof of ScriptFormatInjective: Sla, Srl, Px17, Srx. No conditions beside those that each theorem states. -/
import Derived.Test.YtfgbdcpfbghdoaaGreatDoorKSFIve42
import Derived.Test.YtfgbdcpfbghdoaaGreatDoorKSFIve39
import Derived.Test.YtfgbdcpfbghdoaaGreatDoorKSFIve11
import Derived.Test.YtfgbdcpfbghdoaaGreatDoorKSFIve38
section
namespace Go.Proofs.YtfgbdcpfbghdoaaGreatDoor.P
end Go.Proofs.YtfgbdcpfbghdoaaGreatDoor.P
end
section
set_option linter.unusedVariables false
set_option linter.unusedSimpArgs false
namespace Go.Proofs.YtfgbdcpfbghdoaaGreatDoor.P
open Go.RowKit Go.Proofs.YtfgbdcpfbghdoaaGreatDoorW.PrintWords Go.Proofs.YtfgbdcpfbghdoaaGreatDoorW.PrintLast Go.Proofs.YtfgbdcpfbghdoaaGreatDoorW.PrintMore
def run : List UInt8 → List UInt8 × List UInt8
  | [] => ([], [])
  | c :: r => if bareB c then (c :: (run r).1, (run r).2) else ([], c :: r)
end Go.Proofs.YtfgbdcpfbghdoaaGreatDoor.P
end
section
namespace Go.Proofs.YtfgbdcpfbghdoaaGreatDoor.P
open Go.RowKit Go.Proofs.YtfgbdcpfbghdoaaGreatDoorW.PrintWords Go.Proofs.YtfgbdcpfbghdoaaGreatDoorW.PrintLast Go.Proofs.YtfgbdcpfbghdoaaGreatDoorW.PrintMore
attribute [local go_sem] max2_int min2_int max_two min_two max_three min_three max_four min_four   -- for this text's walks alone
set_option linter.unusedVariables false
set_option linter.unusedSimpArgs false
mutual
def privityref53_line.l0 : Nat → ByteArray → Bool → ByteArray → List ByteArray → Option (ByteArray × List ByteArray × Bool × Bool)
  | 0, _, _, _, _ => none
  | k + 1, x0, x6, x171000, x171001 => privityref53_line.l1 k x0 x6 x171000 x171001
def privityref53_line.j2 : Nat → ByteArray → Bool → ByteArray → List ByteArray → Option (ByteArray × List ByteArray × Bool × Bool)
  | 0, _, _, _, _ => none
  | k + 1, x0, x6, x171000, x171001 => if x0.toList = ([] : List UInt8) then (privityref53_line.j3 k x0 x6 true x171000 x171001) else (if x6 = true then (if 0 < (x0.size : Int) then (privityref53_line.j3 k x0 x6 ((bt x0 0) == 35) x171000 x171001) else (none)) else (privityref53_line.j3 k x0 x6 false x171000 x171001))
def privityref53_line.j3 : Nat → ByteArray → Bool → Bool → ByteArray → List ByteArray → Option (ByteArray × List ByteArray × Bool × Bool)
  | 0, _, _, _, _, _ => none
  | k + 1, x0, x6, x30, x171000, x171001 => if x30 = true then (if x6 = true then (some (x171000, x171001, !x6, true)) else ((privityref53_Right.f k x171000 x171001).bind fun t171 => (some (x171000, x171001, !x6, t171)))) else ((privityref53_piece.f k x0).bind fun bt172 => (if bt172.2.2.2 = true then (if bt172.2.2.1.toList = ([] : List UInt8) then (if x6 = true then (if bt172.2.1 = true then ((privityref53_Verb.f k bt172.1).bind fun t176 => (privityref53_line.j4 k x6 bt172.1 bt172.2.2.1 (!t176) x171000 x171001)) else (privityref53_line.j4 k x6 bt172.1 bt172.2.2.1 true x171000 x171001)) else (privityref53_line.j4 k x6 bt172.1 bt172.2.2.1 false x171000 x171001)) else (if 0 < (bt172.2.2.1.size : Int) then (if (bt bt172.2.2.1 0) = 32 then (if x6 = true then (if bt172.2.1 = true then ((privityref53_Verb.f k bt172.1).bind fun t177 => (privityref53_line.j4 k x6 bt172.1 bt172.2.2.1 (!t177) x171000 x171001)) else (privityref53_line.j4 k x6 bt172.1 bt172.2.2.1 true x171000 x171001)) else (privityref53_line.j4 k x6 bt172.1 bt172.2.2.1 false x171000 x171001)) else (privityref53_line.j4 k x6 bt172.1 bt172.2.2.1 true x171000 x171001)) else (none))) else (privityref53_line.j4 k x6 bt172.1 bt172.2.2.1 true x171000 x171001)))
def privityref53_line.j4 : Nat → Bool → ByteArray → ByteArray → Bool → ByteArray → List ByteArray → Option (ByteArray × List ByteArray × Bool × Bool)
  | 0, _, _, _, _, _, _ => none
  | k + 1, x6, x7, x9, x68, x171000, x171001 => if x68 = true then (some (x171000, x171001, false, false)) else (if x6 = true then (privityref53_line.l0 k x9 false x7 x171001) else (if x171001.length < 8796093022208 then (privityref53_line.l0 k x9 false x171000 (x171001 ++ [x7])) else (none)))
def privityref53_line.l1 : Nat → ByteArray → Bool → ByteArray → List ByteArray → Option (ByteArray × List ByteArray × Bool × Bool)
  | 0, _, _, _, _ => none
  | k + 1, x0, x6, x171000, x171001 => if (x0.size : Int) > 0 then (if 0 < (x0.size : Int) then (if (bt x0 0) = 32 then (if 1 ≤ (x0.size : Int) then (privityref53_line.l1 k (x0.extract 1 x0.size) x6 x171000 x171001) else (none)) else (privityref53_line.j2 k x0 x6 x171000 x171001)) else (none)) else (privityref53_line.j2 k x0 x6 x171000 x171001)
end
end Go.Proofs.YtfgbdcpfbghdoaaGreatDoor.P
end
section
set_option linter.unusedVariables false
set_option linter.unusedSimpArgs false
namespace Go.Proofs.YtfgbdcpfbghdoaaGreatDoor.P
open Go.RowKit Go.Proofs.YtfgbdcpfbghdoaaGreatDoorW.PrintWords Go.Proofs.YtfgbdcpfbghdoaaGreatDoorW.PrintLast Go.Proofs.YtfgbdcpfbghdoaaGreatDoorW.PrintMore
abbrev LR := ByteArray × List ByteArray × Bool × Bool
def after (k : Nat) (x6 : Bool) (v : ByteArray) (ws : List ByteArray) (bt172 : ByteArray × Bool × ByteArray × Bool) : Option LR :=
  if x6 = true then (if bt172.2.1 = true then ((privityref53_Verb.f k bt172.1).bind fun t176 => (privityref53_line.j4 k x6 bt172.1 bt172.2.2.1 (!t176) v ws)) else (privityref53_line.j4 k x6 bt172.1 bt172.2.2.1 true v ws)) else (privityref53_line.j4 k x6 bt172.1 bt172.2.2.1 false v ws)
end Go.Proofs.YtfgbdcpfbghdoaaGreatDoor.P
end
