/- What is proved: for every string of at most 2000 bytes DecodeLists answers as specified, and accepts only exact encodings, as the given law says. -/
import Derived.Test.YteagfdapkffncaaDoorClDecodeLists
namespace Go.Proofs.YteagfdapkffncaaDoor.Pure
open Go.RowKit Go.Proofs.YteagfdapkffncaaDoor.P Go.Proofs.YteagfdapkffncaaDoorW.PrintWords Go.Proofs.YteagfdapkffncaaDoorW.PrintLast
theorem CodecDecodeLists : privitylaw03_CodecDecodeLists.Pure := fun s _ => Ev.rounds (decodeListsLaw s)
end Go.Proofs.YteagfdapkffncaaDoor.Pure
