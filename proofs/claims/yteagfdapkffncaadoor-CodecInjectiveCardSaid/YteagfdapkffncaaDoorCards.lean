/-
  DERIVED. GIVEN WITH THE SEED: THE CARDS: each row of YteagfdapkffncaaDoorRows.lean that lists a variable, with what it lists TIED to the program's text (the seventh form; the later family's looks); each row that meets fmt, with fmt's text TOLD by the authors' own Lean function (tested against real Go, not proved from fmt's source: count such statements apart). THE CARD IS WHAT COUNTS. Prove the row's statement (the work); the ties are given (YteagfdapkffncaaDoorTie.lean); close each card by the builder's one call (the guide's Derived/Test/ToyasCard.lean, 'card_holds'). Laid BY PROGRAM, IN A SANDBOX (cutbox-door.mjs). By AI agents, Wed Nov 11 2026. No macro, syntax, notation, axiom, sorry.
-/
import Derived.Test.YteagfdapkffncaaDoorRows
import GoSem.ClaimSeven
namespace Go.Proofs.YteagfdapkffncaaDoor
namespace Rows

/-- THE TIED CARD OF 'privitylaw03.CodecEncodeWords'. -/
def codecEncodeWordsCard : Claim7 := { stood := { row := codecEncodeWordsRow, standIns := [], harness := (true, "e1466a465128c6ea33648ae3a242b46e8d3e7c9ce28c44d921decb20a4f75dc3"), looks := true }, kinds := [], alts := [], laidByText := true, laidKinds := [.data, .data, .data, .sentinel, .sentinel], laidTests := true, laidLooks := .later }
def CodecEncodeWordsCardSaid : Prop := Claim7.holds Tryd.pinned (.plain (OpenSpec.ofChange codecEncodeWordsSpec)) codecEncodeWordsCard

/-- THE TIED CARD OF 'privitylaw03.CodecDecodeWords'. -/
def codecDecodeWordsCard : Claim7 := { stood := { row := codecDecodeWordsRow, standIns := [], harness := (true, "e1466a465128c6ea33648ae3a242b46e8d3e7c9ce28c44d921decb20a4f75dc3"), looks := true }, kinds := [], alts := [], laidByText := true, laidKinds := [.data, .data, .data, .sentinel, .sentinel], laidTests := true, laidLooks := .later }
def CodecDecodeWordsCardSaid : Prop := Claim7.holds Tryd.pinned (.plain (OpenSpec.ofChange codecDecodeWordsSpec)) codecDecodeWordsCard

/-- THE TIED CARD OF 'privitylaw03.CodecFormatDecimal'. -/
def codecFormatDecimalCard : Claim7 := { stood := { row := codecFormatDecimalRow, standIns := [], harness := (true, "e1466a465128c6ea33648ae3a242b46e8d3e7c9ce28c44d921decb20a4f75dc3"), looks := true }, kinds := [], alts := [], laidByText := true, laidKinds := [.data, .data, .data, .sentinel, .sentinel], laidTests := true, laidLooks := .later }
def CodecFormatDecimalCardSaid : Prop := Claim7.holds Tryd.pinned (.plain (OpenSpec.ofChange codecFormatDecimalSpec)) codecFormatDecimalCard

/-- THE TIED CARD OF 'privitylaw03.CodecParseDecimal'. -/
def codecParseDecimalCard : Claim7 := { stood := { row := codecParseDecimalRow, standIns := [], harness := (true, "e1466a465128c6ea33648ae3a242b46e8d3e7c9ce28c44d921decb20a4f75dc3"), looks := true }, kinds := [], alts := [], laidByText := true, laidKinds := [.data, .data, .data, .sentinel, .sentinel], laidTests := true, laidLooks := .later }
def CodecParseDecimalCardSaid : Prop := Claim7.holds Tryd.pinned (.plain (OpenSpec.ofChange codecParseDecimalSpec)) codecParseDecimalCard

/-- THE TIED CARD OF 'privitylaw03.CodecConcatenation'. -/
def codecConcatenationCard : Claim7 := { stood := { row := codecConcatenationRow, standIns := [], harness := (true, "e1466a465128c6ea33648ae3a242b46e8d3e7c9ce28c44d921decb20a4f75dc3"), looks := true }, kinds := [], alts := [], laidByText := true, laidKinds := [.data, .data, .data, .sentinel, .sentinel], laidTests := true, laidLooks := .later }
def CodecConcatenationCardSaid : Prop := Claim7.holds Tryd.pinned (.plain (OpenSpec.ofChange codecConcatenationSpec)) codecConcatenationCard

/-- THE TIED CARD OF 'privitylaw03.CodecEncodeLists'. -/
def codecEncodeListsCard : Claim7 := { stood := { row := codecEncodeListsRow, standIns := [], harness := (true, "e1466a465128c6ea33648ae3a242b46e8d3e7c9ce28c44d921decb20a4f75dc3"), looks := true }, kinds := [], alts := [], laidByText := true, laidKinds := [.data, .data, .data, .sentinel, .sentinel], laidTests := true, laidLooks := .later }
def CodecEncodeListsCardSaid : Prop := Claim7.holds Tryd.pinned (.plain (OpenSpec.ofChange codecEncodeListsSpec)) codecEncodeListsCard

/-- THE TIED CARD OF 'privitylaw03.CodecDecodeLists'. -/
def codecDecodeListsCard : Claim7 := { stood := { row := codecDecodeListsRow, standIns := [], harness := (true, "e1466a465128c6ea33648ae3a242b46e8d3e7c9ce28c44d921decb20a4f75dc3"), looks := true }, kinds := [], alts := [], laidByText := true, laidKinds := [.data, .data, .data, .sentinel, .sentinel], laidTests := true, laidLooks := .later }
def CodecDecodeListsCardSaid : Prop := Claim7.holds Tryd.pinned (.plain (OpenSpec.ofChange codecDecodeListsSpec)) codecDecodeListsCard

/-- THE TIED CARD OF 'privitylaw03.CodecPrefixFree'. -/
def codecPrefixFreeCard : Claim7 := { stood := { row := codecPrefixFreeRow, standIns := [], harness := (true, "e1466a465128c6ea33648ae3a242b46e8d3e7c9ce28c44d921decb20a4f75dc3"), looks := true }, kinds := [], alts := [], laidByText := true, laidKinds := [.data, .data, .data, .sentinel, .sentinel], laidTests := true, laidLooks := .later }
def CodecPrefixFreeCardSaid : Prop := Claim7.holds Tryd.pinned (.plain (OpenSpec.ofChange codecPrefixFreeSpec)) codecPrefixFreeCard

/-- THE TIED CARD OF 'privitylaw03.CodecInjective'. -/
def codecInjectiveCard : Claim7 := { stood := { row := codecInjectiveRow, standIns := [], harness := (true, "e1466a465128c6ea33648ae3a242b46e8d3e7c9ce28c44d921decb20a4f75dc3"), looks := true }, kinds := [], alts := [], laidByText := true, laidKinds := [.data, .data, .data, .sentinel, .sentinel], laidTests := true, laidLooks := .later }
def CodecInjectiveCardSaid : Prop := Claim7.holds Tryd.pinned (.plain (OpenSpec.ofChange codecInjectiveSpec)) codecInjectiveCard

/-- THE SECOND FORM's CARD OF 'privitylaw03.CodecEncodeWords'. -/
def codecEncodeWordsUptoCard : Claim7 := { stood := { row := codecEncodeWordsUptoRow, standIns := [], harness := (true, "e1466a465128c6ea33648ae3a242b46e8d3e7c9ce28c44d921decb20a4f75dc3"), looks := true }, kinds := [], alts := [], laidByText := true, laidKinds := [.data, .data, .data, .sentinel, .sentinel], laidTests := true, laidLooks := .later }
def CodecEncodeWordsUptoCardSaid : Prop := Claim7.holds Tryd.pinned (.plain (OpenSpec.upto codecEncodeWordsSpec)) codecEncodeWordsUptoCard

/-- THE SECOND FORM's CARD OF 'privitylaw03.CodecDecodeWords'. -/
def codecDecodeWordsUptoCard : Claim7 := { stood := { row := codecDecodeWordsUptoRow, standIns := [], harness := (true, "e1466a465128c6ea33648ae3a242b46e8d3e7c9ce28c44d921decb20a4f75dc3"), looks := true }, kinds := [], alts := [], laidByText := true, laidKinds := [.data, .data, .data, .sentinel, .sentinel], laidTests := true, laidLooks := .later }
def CodecDecodeWordsUptoCardSaid : Prop := Claim7.holds Tryd.pinned (.plain (OpenSpec.upto codecDecodeWordsSpec)) codecDecodeWordsUptoCard

/-- THE SECOND FORM's CARD OF 'privitylaw03.CodecFormatDecimal'. -/
def codecFormatDecimalUptoCard : Claim7 := { stood := { row := codecFormatDecimalUptoRow, standIns := [], harness := (true, "e1466a465128c6ea33648ae3a242b46e8d3e7c9ce28c44d921decb20a4f75dc3"), looks := true }, kinds := [], alts := [], laidByText := true, laidKinds := [.data, .data, .data, .sentinel, .sentinel], laidTests := true, laidLooks := .later }
def CodecFormatDecimalUptoCardSaid : Prop := Claim7.holds Tryd.pinned (.plain (OpenSpec.upto codecFormatDecimalSpec)) codecFormatDecimalUptoCard

/-- THE SECOND FORM's CARD OF 'privitylaw03.CodecParseDecimal'. -/
def codecParseDecimalUptoCard : Claim7 := { stood := { row := codecParseDecimalUptoRow, standIns := [], harness := (true, "e1466a465128c6ea33648ae3a242b46e8d3e7c9ce28c44d921decb20a4f75dc3"), looks := true }, kinds := [], alts := [], laidByText := true, laidKinds := [.data, .data, .data, .sentinel, .sentinel], laidTests := true, laidLooks := .later }
def CodecParseDecimalUptoCardSaid : Prop := Claim7.holds Tryd.pinned (.plain (OpenSpec.upto codecParseDecimalSpec)) codecParseDecimalUptoCard

/-- THE SECOND FORM's CARD OF 'privitylaw03.CodecConcatenation'. -/
def codecConcatenationUptoCard : Claim7 := { stood := { row := codecConcatenationUptoRow, standIns := [], harness := (true, "e1466a465128c6ea33648ae3a242b46e8d3e7c9ce28c44d921decb20a4f75dc3"), looks := true }, kinds := [], alts := [], laidByText := true, laidKinds := [.data, .data, .data, .sentinel, .sentinel], laidTests := true, laidLooks := .later }
def CodecConcatenationUptoCardSaid : Prop := Claim7.holds Tryd.pinned (.plain (OpenSpec.upto codecConcatenationSpec)) codecConcatenationUptoCard

/-- THE SECOND FORM's CARD OF 'privitylaw03.CodecEncodeLists'. -/
def codecEncodeListsUptoCard : Claim7 := { stood := { row := codecEncodeListsUptoRow, standIns := [], harness := (true, "e1466a465128c6ea33648ae3a242b46e8d3e7c9ce28c44d921decb20a4f75dc3"), looks := true }, kinds := [], alts := [], laidByText := true, laidKinds := [.data, .data, .data, .sentinel, .sentinel], laidTests := true, laidLooks := .later }
def CodecEncodeListsUptoCardSaid : Prop := Claim7.holds Tryd.pinned (.plain (OpenSpec.upto codecEncodeListsSpec)) codecEncodeListsUptoCard

/-- THE SECOND FORM's CARD OF 'privitylaw03.CodecDecodeLists'. -/
def codecDecodeListsUptoCard : Claim7 := { stood := { row := codecDecodeListsUptoRow, standIns := [], harness := (true, "e1466a465128c6ea33648ae3a242b46e8d3e7c9ce28c44d921decb20a4f75dc3"), looks := true }, kinds := [], alts := [], laidByText := true, laidKinds := [.data, .data, .data, .sentinel, .sentinel], laidTests := true, laidLooks := .later }
def CodecDecodeListsUptoCardSaid : Prop := Claim7.holds Tryd.pinned (.plain (OpenSpec.upto codecDecodeListsSpec)) codecDecodeListsUptoCard

/-- THE SECOND FORM's CARD OF 'privitylaw03.CodecPrefixFree'. -/
def codecPrefixFreeUptoCard : Claim7 := { stood := { row := codecPrefixFreeUptoRow, standIns := [], harness := (true, "e1466a465128c6ea33648ae3a242b46e8d3e7c9ce28c44d921decb20a4f75dc3"), looks := true }, kinds := [], alts := [], laidByText := true, laidKinds := [.data, .data, .data, .sentinel, .sentinel], laidTests := true, laidLooks := .later }
def CodecPrefixFreeUptoCardSaid : Prop := Claim7.holds Tryd.pinned (.plain (OpenSpec.upto codecPrefixFreeSpec)) codecPrefixFreeUptoCard

/-- THE SECOND FORM's CARD OF 'privitylaw03.CodecInjective'. -/
def codecInjectiveUptoCard : Claim7 := { stood := { row := codecInjectiveUptoRow, standIns := [], harness := (true, "e1466a465128c6ea33648ae3a242b46e8d3e7c9ce28c44d921decb20a4f75dc3"), looks := true }, kinds := [], alts := [], laidByText := true, laidKinds := [.data, .data, .data, .sentinel, .sentinel], laidTests := true, laidLooks := .later }
def CodecInjectiveUptoCardSaid : Prop := Claim7.holds Tryd.pinned (.plain (OpenSpec.upto codecInjectiveSpec)) codecInjectiveUptoCard
end Rows
end Go.Proofs.YteagfdapkffncaaDoor
