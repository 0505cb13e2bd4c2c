/- What is proved here: a part of the proof of ScriptConcatenation: Sry. No conditions beside those that each theorem states. -/
import Derived.Test.YtfgbdcpfbghdoaaGreatDoorKSCon40
import Derived.Test.YtfgbdcpfbghdoaaGreatDoorKSCon41
section
namespace Go.Proofs.YtfgbdcpfbghdoaaGreatDoor.P
end Go.Proofs.YtfgbdcpfbghdoaaGreatDoor.P
end
