/- What is proved: for every two lists of at most 40 elements each Intersect answers as the reference does, as the given law says. -/
import Derived.Test.YtlbjedokfbdnbaaDoorIsx
namespace Go.Proofs.YtlbjedokfbdnbaaDoor.Pure
open Go.RowKit Go.Proofs.YtlbjedokfbdnbaaDoor.P Go.Proofs.YtlbjedokfbdnbaaDoorW.PrintWords Go.Proofs.YtlbjedokfbdnbaaDoorW.PrintLast
theorem IntersectionIntersect : privitylaw52_IntersectionIntersect.Pure := fun x y _ _ _ _ _ _ => Ev.rounds (intersectLaw x y)
end Go.Proofs.YtlbjedokfbdnbaaDoor.Pure
