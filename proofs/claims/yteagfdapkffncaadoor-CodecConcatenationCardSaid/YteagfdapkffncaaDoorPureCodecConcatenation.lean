/- What is proved: the encoding of a concatenation is the concatenation of the encodings (at most 200 words each), as the given law says. -/
import Derived.Test.YteagfdapkffncaaDoorClConcatenation
namespace Go.Proofs.YteagfdapkffncaaDoor.Pure
open Go.RowKit Go.Proofs.YteagfdapkffncaaDoor.P Go.Proofs.YteagfdapkffncaaDoorW.PrintWords Go.Proofs.YteagfdapkffncaaDoorW.PrintLast
theorem CodecConcatenation : privitylaw03_CodecConcatenation.Pure := fun x y _ _ hx _ _ hy => Ev.rounds (concatLaw x y hx hy)
end Go.Proofs.YteagfdapkffncaaDoor.Pure
