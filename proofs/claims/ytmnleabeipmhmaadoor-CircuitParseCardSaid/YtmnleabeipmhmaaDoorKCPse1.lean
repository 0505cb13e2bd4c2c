/- What is proved here: a part of the proof of CircuitParse: Opn. No conditions beside those that each theorem states. -/
import Derived.Test.YtmnleabeipmhmaaDoorKCPse0
import Derived.ChangeArms
import Derived.ChangeSlices
import Derived.SizedLaws
import Derived.OpenShut
import Derived.DataReads
import Derived.DataElems
section
namespace Go.Proofs.YtmnleabeipmhmaaDoor.Opn
end Go.Proofs.YtmnleabeipmhmaaDoor.Opn
end
