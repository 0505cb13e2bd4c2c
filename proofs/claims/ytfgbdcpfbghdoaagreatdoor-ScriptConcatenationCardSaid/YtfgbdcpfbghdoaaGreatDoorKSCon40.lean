/- What is proved here: a part of the proof of ScriptConcatenation: Srx. No conditions beside those that each theorem states. -/
import Derived.Test.YtfgbdcpfbghdoaaGreatDoorKSCon38
import Derived.Test.YtfgbdcpfbghdoaaGreatDoorKSCon39
section
set_option linter.unusedVariables false
set_option linter.unusedSimpArgs false
namespace Go.Proofs.YtfgbdcpfbghdoaaGreatDoor.P
open Go.RowKit Go.Proofs.YtfgbdcpfbghdoaaGreatDoorW.PrintWords Go.Proofs.YtfgbdcpfbghdoaaGreatDoorW.PrintLast Go.Proofs.YtfgbdcpfbghdoaaGreatDoorW.PrintMore
abbrev LR := ByteArray × List ByteArray × Bool × Bool
def after (k : Nat) (x6 : Bool) (v : ByteArray) (ws : List ByteArray) (bt172 : ByteArray × Bool × ByteArray × Bool) : Option LR :=
  if x6 = true then (if bt172.2.1 = true then ((privityref53_Verb.f k bt172.1).bind fun t176 => (privityref53_line.j4 k x6 bt172.1 bt172.2.2.1 (!t176) v ws)) else (privityref53_line.j4 k x6 bt172.1 bt172.2.2.1 true v ws)) else (privityref53_line.j4 k x6 bt172.1 bt172.2.2.1 false v ws)
end Go.Proofs.YtfgbdcpfbghdoaaGreatDoor.P
end
