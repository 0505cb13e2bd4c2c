/- What is proved: no bid exceeds the winner's, the price does not exceed it, and a higher bid of the winner changes nothing (at most 50 bids), as the given law says. -/
import Derived.Test.YtiookappidgofaaDoorAuy
namespace Go.Proofs.YtiookappidgofaaDoor.Pure
open Go.RowKit Go.Proofs.YtiookappidgofaaDoor.P Go.Proofs.YtiookappidgofaaDoorW.PrintWords Go.Proofs.YtiookappidgofaaDoorW.PrintLast
theorem AuctionWinner : privitylaw49_AuctionWinner.Pure := fun l a _ _ h _ => Ev.rounds (winnerLaw l a h)
end Go.Proofs.YtiookappidgofaaDoor.Pure
