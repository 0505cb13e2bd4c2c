/- What is proved: for two lists without duplicates of at most 40 elements each the counts in both directions are equal, as the given law says. -/
import Derived.Test.YtlbjedokfbdnbaaDoorIsx
namespace Go.Proofs.YtlbjedokfbdnbaaDoor.Pure
open Go.RowKit Go.Proofs.YtlbjedokfbdnbaaDoor.P Go.Proofs.YtlbjedokfbdnbaaDoorW.PrintWords Go.Proofs.YtlbjedokfbdnbaaDoorW.PrintLast
theorem IntersectionSymmetric : privitylaw52_IntersectionSymmetric.Pure := fun x y _ _ _ _ _ _ => Ev.rounds (symmetricLaw x y)
end Go.Proofs.YtlbjedokfbdnbaaDoor.Pure
