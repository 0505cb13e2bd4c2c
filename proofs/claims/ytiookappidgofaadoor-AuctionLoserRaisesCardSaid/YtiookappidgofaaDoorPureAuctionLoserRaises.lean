/- What is proved: where a loser raises its bid without beating the winner only the price changes (at most 50 bids), as the given law says. -/
import Derived.Test.YtiookappidgofaaDoorAuy
namespace Go.Proofs.YtiookappidgofaaDoor.Pure
open Go.RowKit Go.Proofs.YtiookappidgofaaDoor.P Go.Proofs.YtiookappidgofaaDoorW.PrintWords Go.Proofs.YtiookappidgofaaDoorW.PrintLast
theorem AuctionLoserRaises : privitylaw49_AuctionLoserRaises.Pure := fun l a b _ _ h h1 h2 => Ev.rounds (loserLaw l a b h h1 h2)
end Go.Proofs.YtiookappidgofaaDoor.Pure
