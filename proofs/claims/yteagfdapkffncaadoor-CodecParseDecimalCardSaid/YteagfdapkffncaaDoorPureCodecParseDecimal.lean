/- What is proved: for every string of at most 100 bytes ParseDecimal answers as specified, as the given law says. -/
import Derived.Test.YteagfdapkffncaaDoorClParseDecimal
namespace Go.Proofs.YteagfdapkffncaaDoor.Pure
open Go.RowKit Go.Proofs.YteagfdapkffncaaDoor.P Go.Proofs.YteagfdapkffncaaDoorW.PrintWords Go.Proofs.YteagfdapkffncaaDoorW.PrintLast
theorem CodecParseDecimal : privitylaw03_CodecParseDecimal.Pure := fun s _ => Ev.rounds (parseLaw s)
end Go.Proofs.YteagfdapkffncaaDoor.Pure
