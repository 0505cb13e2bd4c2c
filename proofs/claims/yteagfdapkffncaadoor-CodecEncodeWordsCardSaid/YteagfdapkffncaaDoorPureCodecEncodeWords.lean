/- What is proved: for every list of at most 300 words EncodeWords gives the specified bytes and DecodeWords recovers the list, as the given law says. -/
import Derived.Test.YteagfdapkffncaaDoorClEncodeWords
namespace Go.Proofs.YteagfdapkffncaaDoor.Pure
open Go.RowKit Go.Proofs.YteagfdapkffncaaDoor.P Go.Proofs.YteagfdapkffncaaDoorW.PrintWords Go.Proofs.YteagfdapkffncaaDoorW.PrintLast
theorem CodecEncodeWords : privitylaw03_CodecEncodeWords.Pure := fun x _ _ hx => Ev.rounds (encodeWordsLaw x hx)
end Go.Proofs.YteagfdapkffncaaDoor.Pure
