/-
  DERIVED. GIVEN WITH THE SEED: THE CARDS: each row of YtiookappidgofaaDoorRows.lean that lists a variable, with what it lists TIED to the program's text (the seventh form; the later family's looks); each row that meets fmt, with fmt's text TOLD by the authors' own Lean function (tested against real Go, not proved from fmt's source: count such statements apart). THE CARD IS WHAT COUNTS. Prove the row's statement (the work); the ties are given (YtiookappidgofaaDoorTie.lean); close each card by the builder's one call (the guide's Derived/Test/ToyasCard.lean, 'card_holds'). Laid BY PROGRAM, IN A SANDBOX (cutbox-door.mjs). By AI agents, Wed Nov 11 2026. No macro, syntax, notation, axiom, sorry.
-/
import Derived.Test.YtiookappidgofaaDoorRows
import GoSem.ClaimSeven
namespace Go.Proofs.YtiookappidgofaaDoor
namespace Rows

/-- THE TIED CARD OF 'privitylaw49.AuctionOutcome'. -/
def auctionOutcomeCard : Claim7 := { stood := { row := auctionOutcomeRow, standIns := [], harness := (true, "24695df9b08b27683c3f2e977d64daf11e331cb7a777949a866d421b4d2c3026"), looks := false }, kinds := [], alts := [], laidByText := true, laidKinds := [.data, .data, .data], laidTests := true, laidLooks := .later }
def AuctionOutcomeCardSaid : Prop := Claim7.holds Tryd.pinned (.plain (OpenSpec.ofChange auctionOutcomeSpec)) auctionOutcomeCard

/-- THE TIED CARD OF 'privitylaw49.AuctionWinner'. -/
def auctionWinnerCard : Claim7 := { stood := { row := auctionWinnerRow, standIns := [], harness := (true, "24695df9b08b27683c3f2e977d64daf11e331cb7a777949a866d421b4d2c3026"), looks := false }, kinds := [], alts := [], laidByText := true, laidKinds := [.data, .data, .data], laidTests := true, laidLooks := .later }
def AuctionWinnerCardSaid : Prop := Claim7.holds Tryd.pinned (.plain (OpenSpec.ofChange auctionWinnerSpec)) auctionWinnerCard

/-- THE TIED CARD OF 'privitylaw49.AuctionTruthful'. -/
def auctionTruthfulCard : Claim7 := { stood := { row := auctionTruthfulRow, standIns := [], harness := (true, "24695df9b08b27683c3f2e977d64daf11e331cb7a777949a866d421b4d2c3026"), looks := false }, kinds := [], alts := [], laidByText := true, laidKinds := [.data, .data, .data], laidTests := true, laidLooks := .later }
def AuctionTruthfulCardSaid : Prop := Claim7.holds Tryd.pinned (.plain (OpenSpec.ofChange auctionTruthfulSpec)) auctionTruthfulCard

/-- THE TIED CARD OF 'privitylaw49.AuctionSecondPrice'. -/
def auctionSecondPriceCard : Claim7 := { stood := { row := auctionSecondPriceRow, standIns := [], harness := (true, "24695df9b08b27683c3f2e977d64daf11e331cb7a777949a866d421b4d2c3026"), looks := false }, kinds := [], alts := [], laidByText := true, laidKinds := [.data, .data, .data], laidTests := true, laidLooks := .later }
def AuctionSecondPriceCardSaid : Prop := Claim7.holds Tryd.pinned (.plain (OpenSpec.ofChange auctionSecondPriceSpec)) auctionSecondPriceCard

/-- THE TIED CARD OF 'privitylaw49.AuctionLoserRaises'. -/
def auctionLoserRaisesCard : Claim7 := { stood := { row := auctionLoserRaisesRow, standIns := [], harness := (true, "24695df9b08b27683c3f2e977d64daf11e331cb7a777949a866d421b4d2c3026"), looks := false }, kinds := [], alts := [], laidByText := true, laidKinds := [.data, .data, .data], laidTests := true, laidLooks := .later }
def AuctionLoserRaisesCardSaid : Prop := Claim7.holds Tryd.pinned (.plain (OpenSpec.ofChange auctionLoserRaisesSpec)) auctionLoserRaisesCard

/-- THE SECOND FORM's CARD OF 'privitylaw49.AuctionOutcome'. -/
def auctionOutcomeUptoCard : Claim7 := { stood := { row := auctionOutcomeUptoRow, standIns := [], harness := (true, "24695df9b08b27683c3f2e977d64daf11e331cb7a777949a866d421b4d2c3026"), looks := false }, kinds := [], alts := [], laidByText := true, laidKinds := [.data, .data, .data], laidTests := true, laidLooks := .later }
def AuctionOutcomeUptoCardSaid : Prop := Claim7.holds Tryd.pinned (.plain (OpenSpec.upto auctionOutcomeSpec)) auctionOutcomeUptoCard

/-- THE SECOND FORM's CARD OF 'privitylaw49.AuctionWinner'. -/
def auctionWinnerUptoCard : Claim7 := { stood := { row := auctionWinnerUptoRow, standIns := [], harness := (true, "24695df9b08b27683c3f2e977d64daf11e331cb7a777949a866d421b4d2c3026"), looks := false }, kinds := [], alts := [], laidByText := true, laidKinds := [.data, .data, .data], laidTests := true, laidLooks := .later }
def AuctionWinnerUptoCardSaid : Prop := Claim7.holds Tryd.pinned (.plain (OpenSpec.upto auctionWinnerSpec)) auctionWinnerUptoCard

/-- THE SECOND FORM's CARD OF 'privitylaw49.AuctionTruthful'. -/
def auctionTruthfulUptoCard : Claim7 := { stood := { row := auctionTruthfulUptoRow, standIns := [], harness := (true, "24695df9b08b27683c3f2e977d64daf11e331cb7a777949a866d421b4d2c3026"), looks := false }, kinds := [], alts := [], laidByText := true, laidKinds := [.data, .data, .data], laidTests := true, laidLooks := .later }
def AuctionTruthfulUptoCardSaid : Prop := Claim7.holds Tryd.pinned (.plain (OpenSpec.upto auctionTruthfulSpec)) auctionTruthfulUptoCard

/-- THE SECOND FORM's CARD OF 'privitylaw49.AuctionSecondPrice'. -/
def auctionSecondPriceUptoCard : Claim7 := { stood := { row := auctionSecondPriceUptoRow, standIns := [], harness := (true, "24695df9b08b27683c3f2e977d64daf11e331cb7a777949a866d421b4d2c3026"), looks := false }, kinds := [], alts := [], laidByText := true, laidKinds := [.data, .data, .data], laidTests := true, laidLooks := .later }
def AuctionSecondPriceUptoCardSaid : Prop := Claim7.holds Tryd.pinned (.plain (OpenSpec.upto auctionSecondPriceSpec)) auctionSecondPriceUptoCard

/-- THE SECOND FORM's CARD OF 'privitylaw49.AuctionLoserRaises'. -/
def auctionLoserRaisesUptoCard : Claim7 := { stood := { row := auctionLoserRaisesUptoRow, standIns := [], harness := (true, "24695df9b08b27683c3f2e977d64daf11e331cb7a777949a866d421b4d2c3026"), looks := false }, kinds := [], alts := [], laidByText := true, laidKinds := [.data, .data, .data], laidTests := true, laidLooks := .later }
def AuctionLoserRaisesUptoCardSaid : Prop := Claim7.holds Tryd.pinned (.plain (OpenSpec.upto auctionLoserRaisesSpec)) auctionLoserRaisesUptoCard
end Rows
end Go.Proofs.YtiookappidgofaaDoor
