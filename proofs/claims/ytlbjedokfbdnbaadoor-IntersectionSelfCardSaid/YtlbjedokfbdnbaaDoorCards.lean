/-
  DERIVED. GIVEN WITH THE SEED: THE CARDS: each row of YtlbjedokfbdnbaaDoorRows.lean that lists a variable, with what it lists TIED to the program's text (the seventh form; the later family's looks); each row that meets fmt, with fmt's text TOLD by the authors' own Lean function (tested against real Go, not proved from fmt's source: count such statements apart). THE CARD IS WHAT COUNTS. Prove the row's statement (the work); the ties are given (YtlbjedokfbdnbaaDoorTie.lean); close each card by the builder's one call (the guide's Derived/Test/ToyasCard.lean, 'card_holds'). Laid BY PROGRAM, IN A SANDBOX (cutbox-door.mjs). By AI agents, Wed Nov 11 2026. No macro, syntax, notation, axiom, sorry.
-/
import Derived.Test.YtlbjedokfbdnbaaDoorRows
import GoSem.ClaimSeven
namespace Go.Proofs.YtlbjedokfbdnbaaDoor
namespace Rows

/-- THE TIED CARD OF 'privitylaw52.IntersectionIntersect'. -/
def intersectionIntersectCard : Claim7 := { stood := { row := intersectionIntersectRow, standIns := [], harness := (true, "1bbf100050566716a6ba88753c9fea8365420261890dd33ade8c0231d60f16aa"), looks := false }, kinds := [], alts := [], laidByText := true, laidKinds := [.data, .data, .data], laidTests := true, laidLooks := .later }
def IntersectionIntersectCardSaid : Prop := Claim7.holds Tryd.pinned (.plain (OpenSpec.ofChange intersectionIntersectSpec)) intersectionIntersectCard

/-- THE TIED CARD OF 'privitylaw52.IntersectionOrderIrrelevant'. -/
def intersectionOrderIrrelevantCard : Claim7 := { stood := { row := intersectionOrderIrrelevantRow, standIns := [], harness := (true, "1bbf100050566716a6ba88753c9fea8365420261890dd33ade8c0231d60f16aa"), looks := false }, kinds := [], alts := [], laidByText := true, laidKinds := [.data, .data, .data], laidTests := true, laidLooks := .later }
def IntersectionOrderIrrelevantCardSaid : Prop := Claim7.holds Tryd.pinned (.plain (OpenSpec.ofChange intersectionOrderIrrelevantSpec)) intersectionOrderIrrelevantCard

/-- THE TIED CARD OF 'privitylaw52.IntersectionSymmetric'. -/
def intersectionSymmetricCard : Claim7 := { stood := { row := intersectionSymmetricRow, standIns := [], harness := (true, "1bbf100050566716a6ba88753c9fea8365420261890dd33ade8c0231d60f16aa"), looks := false }, kinds := [], alts := [], laidByText := true, laidKinds := [.data, .data, .data], laidTests := true, laidLooks := .later }
def IntersectionSymmetricCardSaid : Prop := Claim7.holds Tryd.pinned (.plain (OpenSpec.ofChange intersectionSymmetricSpec)) intersectionSymmetricCard

/-- THE TIED CARD OF 'privitylaw52.IntersectionConcatenation'. -/
def intersectionConcatenationCard : Claim7 := { stood := { row := intersectionConcatenationRow, standIns := [], harness := (true, "1bbf100050566716a6ba88753c9fea8365420261890dd33ade8c0231d60f16aa"), looks := false }, kinds := [], alts := [], laidByText := true, laidKinds := [.data, .data, .data], laidTests := true, laidLooks := .later }
def IntersectionConcatenationCardSaid : Prop := Claim7.holds Tryd.pinned (.plain (OpenSpec.ofChange intersectionConcatenationSpec)) intersectionConcatenationCard

/-- THE TIED CARD OF 'privitylaw52.IntersectionSelf'. -/
def intersectionSelfCard : Claim7 := { stood := { row := intersectionSelfRow, standIns := [], harness := (true, "1bbf100050566716a6ba88753c9fea8365420261890dd33ade8c0231d60f16aa"), looks := false }, kinds := [], alts := [], laidByText := true, laidKinds := [.data, .data, .data], laidTests := true, laidLooks := .later }
def IntersectionSelfCardSaid : Prop := Claim7.holds Tryd.pinned (.plain (OpenSpec.ofChange intersectionSelfSpec)) intersectionSelfCard

/-- THE SECOND FORM's CARD OF 'privitylaw52.IntersectionIntersect'. -/
def intersectionIntersectUptoCard : Claim7 := { stood := { row := intersectionIntersectUptoRow, standIns := [], harness := (true, "1bbf100050566716a6ba88753c9fea8365420261890dd33ade8c0231d60f16aa"), looks := false }, kinds := [], alts := [], laidByText := true, laidKinds := [.data, .data, .data], laidTests := true, laidLooks := .later }
def IntersectionIntersectUptoCardSaid : Prop := Claim7.holds Tryd.pinned (.plain (OpenSpec.upto intersectionIntersectSpec)) intersectionIntersectUptoCard

/-- THE SECOND FORM's CARD OF 'privitylaw52.IntersectionOrderIrrelevant'. -/
def intersectionOrderIrrelevantUptoCard : Claim7 := { stood := { row := intersectionOrderIrrelevantUptoRow, standIns := [], harness := (true, "1bbf100050566716a6ba88753c9fea8365420261890dd33ade8c0231d60f16aa"), looks := false }, kinds := [], alts := [], laidByText := true, laidKinds := [.data, .data, .data], laidTests := true, laidLooks := .later }
def IntersectionOrderIrrelevantUptoCardSaid : Prop := Claim7.holds Tryd.pinned (.plain (OpenSpec.upto intersectionOrderIrrelevantSpec)) intersectionOrderIrrelevantUptoCard

/-- THE SECOND FORM's CARD OF 'privitylaw52.IntersectionSymmetric'. -/
def intersectionSymmetricUptoCard : Claim7 := { stood := { row := intersectionSymmetricUptoRow, standIns := [], harness := (true, "1bbf100050566716a6ba88753c9fea8365420261890dd33ade8c0231d60f16aa"), looks := false }, kinds := [], alts := [], laidByText := true, laidKinds := [.data, .data, .data], laidTests := true, laidLooks := .later }
def IntersectionSymmetricUptoCardSaid : Prop := Claim7.holds Tryd.pinned (.plain (OpenSpec.upto intersectionSymmetricSpec)) intersectionSymmetricUptoCard

/-- THE SECOND FORM's CARD OF 'privitylaw52.IntersectionConcatenation'. -/
def intersectionConcatenationUptoCard : Claim7 := { stood := { row := intersectionConcatenationUptoRow, standIns := [], harness := (true, "1bbf100050566716a6ba88753c9fea8365420261890dd33ade8c0231d60f16aa"), looks := false }, kinds := [], alts := [], laidByText := true, laidKinds := [.data, .data, .data], laidTests := true, laidLooks := .later }
def IntersectionConcatenationUptoCardSaid : Prop := Claim7.holds Tryd.pinned (.plain (OpenSpec.upto intersectionConcatenationSpec)) intersectionConcatenationUptoCard

/-- THE SECOND FORM's CARD OF 'privitylaw52.IntersectionSelf'. -/
def intersectionSelfUptoCard : Claim7 := { stood := { row := intersectionSelfUptoRow, standIns := [], harness := (true, "1bbf100050566716a6ba88753c9fea8365420261890dd33ade8c0231d60f16aa"), looks := false }, kinds := [], alts := [], laidByText := true, laidKinds := [.data, .data, .data], laidTests := true, laidLooks := .later }
def IntersectionSelfUptoCardSaid : Prop := Claim7.holds Tryd.pinned (.plain (OpenSpec.upto intersectionSelfSpec)) intersectionSelfUptoCard
end Rows
end Go.Proofs.YtlbjedokfbdnbaaDoor
