/- What is proved: FormatDecimal gives the decimal form, ParseDecimal recovers the number, and different numbers have different forms, as the given law says. -/
import Derived.Test.YteagfdapkffncaaDoorClFormatDecimal
namespace Go.Proofs.YteagfdapkffncaaDoor.Pure
open Go.RowKit Go.Proofs.YteagfdapkffncaaDoor.P Go.Proofs.YteagfdapkffncaaDoorW.PrintWords Go.Proofs.YteagfdapkffncaaDoorW.PrintLast
theorem CodecFormatDecimal : privitylaw03_CodecFormatDecimal.Pure := fun n m hn hm => Ev.rounds (formatLaw n m hn hm)
end Go.Proofs.YteagfdapkffncaaDoor.Pure
