/-
  DERIVED. GIVEN WITH THE SEED: THE CARDS: each row of YtkgdhdjkpnalmaaGreatDoorRows.lean that lists a variable, with what it lists TIED to the program's text (the seventh form; the later family's looks); each row that meets fmt, with fmt's text TOLD by the authors' own Lean function (tested against real Go, not proved from fmt's source: count such statements apart). THE CARD IS WHAT COUNTS. Prove the row's statement (the work); the ties are given (YtkgdhdjkpnalmaaGreatDoorTie.lean); close each card by the builder's one call (the guide's Derived/Test/ToyasCard.lean, 'card_holds'). Laid BY PROGRAM, IN A SANDBOX (cutbox-door.mjs). By AI agents, Wed Nov 11 2026. No macro, syntax, notation, axiom, sorry.
-/
import Derived.Test.YtkgdhdjkpnalmaaGreatDoorRows
import GoSem.ClaimSeven
namespace Go.Proofs.YtkgdhdjkpnalmaaGreatDoor
namespace Rows

/-- THE TIED CARD OF 'privitylaw50.ElectionProgram'. -/
def electionProgramCard : Claim7 := { stood := { row := electionProgramRow, standIns := [], harness := (true, "4ed949040ac155a0fcc4831010aacbbbd0a36160097d514d126cba74b02c6626"), looks := false }, kinds := [], alts := [], laidByText := true, laidKinds := [.data, .data, .data], laidTests := true, laidLooks := .later }
def ElectionProgramCardSaid : Prop := Claim7.holds Tryz.pinned (.plain (OpenSpec.ofChange electionProgramSpec)) electionProgramCard

/-- THE TIED CARD OF 'privitylaw50.ElectionTally'. -/
def electionTallyCard : Claim7 := { stood := { row := electionTallyRow, standIns := [], harness := (true, "4ed949040ac155a0fcc4831010aacbbbd0a36160097d514d126cba74b02c6626"), looks := false }, kinds := [], alts := [], laidByText := true, laidKinds := [.data, .data, .data], laidTests := true, laidLooks := .later }
def ElectionTallyCardSaid : Prop := Claim7.holds Tryz.pinned (.plain (OpenSpec.ofChange electionTallySpec)) electionTallyCard

/-- THE TIED CARD OF 'privitylaw50.ElectionInputs'. -/
def electionInputsCard : Claim7 := { stood := { row := electionInputsRow, standIns := [], harness := (true, "4ed949040ac155a0fcc4831010aacbbbd0a36160097d514d126cba74b02c6626"), looks := false }, kinds := [], alts := [], laidByText := true, laidKinds := [.data, .data, .data], laidTests := true, laidLooks := .later }
def ElectionInputsCardSaid : Prop := Claim7.holds Tryz.pinned (.plain (OpenSpec.ofChange electionInputsSpec)) electionInputsCard

/-- THE TIED CARD OF 'privitylaw50.ElectionChangedVote'. -/
def electionChangedVoteCard : Claim7 := { stood := { row := electionChangedVoteRow, standIns := [], harness := (true, "4ed949040ac155a0fcc4831010aacbbbd0a36160097d514d126cba74b02c6626"), looks := false }, kinds := [], alts := [], laidByText := true, laidKinds := [.data, .data, .data], laidTests := true, laidLooks := .later }
def ElectionChangedVoteCardSaid : Prop := Claim7.holds Tryz.pinned (.plain (OpenSpec.ofChange electionChangedVoteSpec)) electionChangedVoteCard

/-- THE SECOND FORM's CARD OF 'privitylaw50.ElectionProgram'. -/
def electionProgramUptoCard : Claim7 := { stood := { row := electionProgramUptoRow, standIns := [], harness := (true, "4ed949040ac155a0fcc4831010aacbbbd0a36160097d514d126cba74b02c6626"), looks := false }, kinds := [], alts := [], laidByText := true, laidKinds := [.data, .data, .data], laidTests := true, laidLooks := .later }
def ElectionProgramUptoCardSaid : Prop := Claim7.holds Tryz.pinned (.plain (OpenSpec.upto electionProgramSpec)) electionProgramUptoCard

/-- THE SECOND FORM's CARD OF 'privitylaw50.ElectionTally'. -/
def electionTallyUptoCard : Claim7 := { stood := { row := electionTallyUptoRow, standIns := [], harness := (true, "4ed949040ac155a0fcc4831010aacbbbd0a36160097d514d126cba74b02c6626"), looks := false }, kinds := [], alts := [], laidByText := true, laidKinds := [.data, .data, .data], laidTests := true, laidLooks := .later }
def ElectionTallyUptoCardSaid : Prop := Claim7.holds Tryz.pinned (.plain (OpenSpec.upto electionTallySpec)) electionTallyUptoCard

/-- THE SECOND FORM's CARD OF 'privitylaw50.ElectionInputs'. -/
def electionInputsUptoCard : Claim7 := { stood := { row := electionInputsUptoRow, standIns := [], harness := (true, "4ed949040ac155a0fcc4831010aacbbbd0a36160097d514d126cba74b02c6626"), looks := false }, kinds := [], alts := [], laidByText := true, laidKinds := [.data, .data, .data], laidTests := true, laidLooks := .later }
def ElectionInputsUptoCardSaid : Prop := Claim7.holds Tryz.pinned (.plain (OpenSpec.upto electionInputsSpec)) electionInputsUptoCard

/-- THE SECOND FORM's CARD OF 'privitylaw50.ElectionChangedVote'. -/
def electionChangedVoteUptoCard : Claim7 := { stood := { row := electionChangedVoteUptoRow, standIns := [], harness := (true, "4ed949040ac155a0fcc4831010aacbbbd0a36160097d514d126cba74b02c6626"), looks := false }, kinds := [], alts := [], laidByText := true, laidKinds := [.data, .data, .data], laidTests := true, laidLooks := .later }
def ElectionChangedVoteUptoCardSaid : Prop := Claim7.holds Tryz.pinned (.plain (OpenSpec.upto electionChangedVoteSpec)) electionChangedVoteUptoCard
end Rows
end Go.Proofs.YtkgdhdjkpnalmaaGreatDoor
