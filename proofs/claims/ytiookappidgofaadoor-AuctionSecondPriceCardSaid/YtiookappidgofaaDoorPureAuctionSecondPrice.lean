/- What is proved: a party that outbids all others wins at the highest of their bids, and a party that is outbid does not win (at most 50 bids), as the given law says. -/
import Derived.Test.YtiookappidgofaaDoorAuz
namespace Go.Proofs.YtiookappidgofaaDoor.Pure
open Go.RowKit Go.Proofs.YtiookappidgofaaDoor.P Go.Proofs.YtiookappidgofaaDoorW.PrintWords Go.Proofs.YtiookappidgofaaDoorW.PrintLast
theorem AuctionSecondPrice : privitylaw49_AuctionSecondPrice.Pure := fun l a _ _ h h1 => Ev.rounds (secondLaw l a h h1)
end Go.Proofs.YtiookappidgofaaDoor.Pure
