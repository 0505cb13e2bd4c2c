/- What is proved: all elements of a list occur in the list itself, and the count is 0 exactly if the lists are disjoint (at most 40 elements each), as the given law says. -/
import Derived.Test.YtlbjedokfbdnbaaDoorIsx
namespace Go.Proofs.YtlbjedokfbdnbaaDoor.Pure
open Go.RowKit Go.Proofs.YtlbjedokfbdnbaaDoor.P Go.Proofs.YtlbjedokfbdnbaaDoorW.PrintWords Go.Proofs.YtlbjedokfbdnbaaDoorW.PrintLast
theorem IntersectionSelf : privitylaw52_IntersectionSelf.Pure := fun x y _ _ _ _ _ _ => Ev.rounds (selfLaw x y)
end Go.Proofs.YtlbjedokfbdnbaaDoor.Pure
