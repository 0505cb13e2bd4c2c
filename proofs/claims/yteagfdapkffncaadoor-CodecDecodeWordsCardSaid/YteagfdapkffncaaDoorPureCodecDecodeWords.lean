/- What is proved: for every string of at most 2000 bytes DecodeWords answers as specified, and accepts only exact encodings, as the given law says. -/
import Derived.Test.YteagfdapkffncaaDoorClDecodeWords
namespace Go.Proofs.YteagfdapkffncaaDoor.Pure
open Go.RowKit Go.Proofs.YteagfdapkffncaaDoor.P Go.Proofs.YteagfdapkffncaaDoorW.PrintWords Go.Proofs.YteagfdapkffncaaDoorW.PrintLast
theorem CodecDecodeWords : privitylaw03_CodecDecodeWords.Pure := fun s _ => Ev.rounds (decodeWordsLaw s)
end Go.Proofs.YteagfdapkffncaaDoor.Pure
