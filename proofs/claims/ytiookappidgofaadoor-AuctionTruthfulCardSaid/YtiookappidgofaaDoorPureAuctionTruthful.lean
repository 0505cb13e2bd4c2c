/- What is proved: whatever the other parties bid no bid yields more to a party than its true value (at most 50 bids), as the given law says. -/
import Derived.Test.YtiookappidgofaaDoorAuz
namespace Go.Proofs.YtiookappidgofaaDoor.Pure
open Go.RowKit Go.Proofs.YtiookappidgofaaDoor.P Go.Proofs.YtiookappidgofaaDoorW.PrintWords Go.Proofs.YtiookappidgofaaDoorW.PrintLast
theorem AuctionTruthful : privitylaw49_AuctionTruthful.Pure := fun l a b _ _ h h1 h2 => Ev.rounds (truthfulLaw l a b h h1 h2)
end Go.Proofs.YtiookappidgofaaDoor.Pure
