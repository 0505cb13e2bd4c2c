/- What is proved here: a part of the proof of ScriptRoundTrip: Sry. No conditions beside those that each theorem states. -/
import Derived.Test.YtfgbdcpfbghdoaaGreatDoorKSRTip41
import Derived.Test.YtfgbdcpfbghdoaaGreatDoorKSRTip42
section
namespace Go.Proofs.YtfgbdcpfbghdoaaGreatDoor.P
end Go.Proofs.YtfgbdcpfbghdoaaGreatDoor.P
end
