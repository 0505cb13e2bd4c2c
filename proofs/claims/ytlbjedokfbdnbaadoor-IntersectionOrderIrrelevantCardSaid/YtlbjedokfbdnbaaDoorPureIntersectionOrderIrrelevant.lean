/- What is proved: the order and multiplicity of the second list do not matter (at most 40 and 20 elements), as the given law says. -/
import Derived.Test.YtlbjedokfbdnbaaDoorIsx
namespace Go.Proofs.YtlbjedokfbdnbaaDoor.Pure
open Go.RowKit Go.Proofs.YtlbjedokfbdnbaaDoor.P Go.Proofs.YtlbjedokfbdnbaaDoorW.PrintWords Go.Proofs.YtlbjedokfbdnbaaDoorW.PrintLast
theorem IntersectionOrderIrrelevant : privitylaw52_IntersectionOrderIrrelevant.Pure := fun x y _ _ _ _ _ _ => Ev.rounds (orderLaw x y)
end Go.Proofs.YtlbjedokfbdnbaaDoor.Pure
