/- What is proved: the result for a concatenation consists of both results, with the counts added (at most 20, 20 and 40 elements), as the given law says. -/
import Derived.Test.YtlbjedokfbdnbaaDoorIsx
namespace Go.Proofs.YtlbjedokfbdnbaaDoor.Pure
open Go.RowKit Go.Proofs.YtlbjedokfbdnbaaDoor.P Go.Proofs.YtlbjedokfbdnbaaDoorW.PrintWords Go.Proofs.YtlbjedokfbdnbaaDoorW.PrintLast
theorem IntersectionConcatenation : privitylaw52_IntersectionConcatenation.Pure := fun x m y _ _ _ _ _ _ _ _ _ => Ev.rounds (concatLaw x m y)
end Go.Proofs.YtlbjedokfbdnbaaDoor.Pure
