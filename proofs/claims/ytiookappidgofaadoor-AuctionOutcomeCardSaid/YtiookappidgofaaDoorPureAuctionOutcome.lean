/- What is proved: for every list of at most 50 bids Outcome answers the reference's winner and price, as the given law says. -/
import Derived.Test.YtiookappidgofaaDoorAux
namespace Go.Proofs.YtiookappidgofaaDoor.Pure
open Go.RowKit Go.Proofs.YtiookappidgofaaDoor.P Go.Proofs.YtiookappidgofaaDoorW.PrintWords Go.Proofs.YtiookappidgofaaDoorW.PrintLast
theorem AuctionOutcome : privitylaw49_AuctionOutcome.Pure := fun l _ _ h => Ev.rounds (outcomeLaw l h)
end Go.Proofs.YtiookappidgofaaDoor.Pure
