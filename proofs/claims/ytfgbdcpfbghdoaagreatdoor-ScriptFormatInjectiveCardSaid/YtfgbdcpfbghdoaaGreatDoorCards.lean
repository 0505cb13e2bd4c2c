/-
  DERIVED. GIVEN WITH THE SEED: THE CARDS: each row of YtfgbdcpfbghdoaaGreatDoorRows.lean that lists a variable, with what it lists TIED to the program's text (the seventh form; the later family's looks); each row that meets fmt, with fmt's text TOLD by the authors' own Lean function (tested against real Go, not proved from fmt's source: count such statements apart). THE CARD IS WHAT COUNTS. Prove the row's statement (the work); the ties are given (YtfgbdcpfbghdoaaGreatDoorTie.lean); close each card by the builder's one call (the guide's Derived/Test/ToyasCard.lean, 'card_holds'). Laid BY PROGRAM, IN A SANDBOX (cutbox-door.mjs). By AI agents, Wed Nov 11 2026. No macro, syntax, notation, axiom, sorry.
-/
import Derived.Test.YtfgbdcpfbghdoaaGreatDoorRows
import GoSem.ClaimSeven
namespace Go.Proofs.YtfgbdcpfbghdoaaGreatDoor
namespace Rows

/-- THE TIED CARD OF 'privitylaw53.ScriptParse'. -/
def scriptParseCard : Claim7 := { stood := { row := scriptParseRow, standIns := [], harness := (true, "304f19eaacced71d790fa294aa2d1800f14445c0423bd4e63051353dfb730279"), looks := true }, kinds := [], alts := [], laidByText := true, laidKinds := [.data, .pinned], laidTests := true, laidLooks := .later }
def ScriptParseCardSaid : Prop := Claim7.holds Tryz.pinned (.plain (OpenSpec.ofChange scriptParseSpec)) scriptParseCard

/-- THE TIED CARD OF 'privitylaw53.ScriptFormat'. -/
def scriptFormatCard : Claim7 := { stood := { row := scriptFormatRow, standIns := [], harness := (true, "304f19eaacced71d790fa294aa2d1800f14445c0423bd4e63051353dfb730279"), looks := true }, kinds := [], alts := [], laidByText := true, laidKinds := [.data, .pinned], laidTests := true, laidLooks := .later }
def ScriptFormatCardSaid : Prop := Claim7.holds Tryz.pinned (.plain (OpenSpec.ofChange scriptFormatSpec)) scriptFormatCard

/-- THE TIED CARD OF 'privitylaw53.ScriptRoundTrip'. -/
def scriptRoundTripCard : Claim7 := { stood := { row := scriptRoundTripRow, standIns := [], harness := (true, "304f19eaacced71d790fa294aa2d1800f14445c0423bd4e63051353dfb730279"), looks := true }, kinds := [], alts := [], laidByText := true, laidKinds := [.data, .pinned], laidTests := true, laidLooks := .later }
def ScriptRoundTripCardSaid : Prop := Claim7.holds Tryz.pinned (.plain (OpenSpec.ofChange scriptRoundTripSpec)) scriptRoundTripCard

/-- THE TIED CARD OF 'privitylaw53.ScriptConcatenation'. -/
def scriptConcatenationCard : Claim7 := { stood := { row := scriptConcatenationRow, standIns := [], harness := (true, "304f19eaacced71d790fa294aa2d1800f14445c0423bd4e63051353dfb730279"), looks := true }, kinds := [], alts := [], laidByText := true, laidKinds := [.data, .pinned], laidTests := true, laidLooks := .later }
def ScriptConcatenationCardSaid : Prop := Claim7.holds Tryz.pinned (.plain (OpenSpec.ofChange scriptConcatenationSpec)) scriptConcatenationCard

/-- THE TIED CARD OF 'privitylaw53.ScriptFormatInjective'. -/
def scriptFormatInjectiveCard : Claim7 := { stood := { row := scriptFormatInjectiveRow, standIns := [], harness := (true, "304f19eaacced71d790fa294aa2d1800f14445c0423bd4e63051353dfb730279"), looks := true }, kinds := [], alts := [], laidByText := true, laidKinds := [.data, .pinned], laidTests := true, laidLooks := .later }
def ScriptFormatInjectiveCardSaid : Prop := Claim7.holds Tryz.pinned (.plain (OpenSpec.ofChange scriptFormatInjectiveSpec)) scriptFormatInjectiveCard

/-- THE SECOND FORM's CARD OF 'privitylaw53.ScriptParse'. -/
def scriptParseUptoCard : Claim7 := { stood := { row := scriptParseUptoRow, standIns := [], harness := (true, "304f19eaacced71d790fa294aa2d1800f14445c0423bd4e63051353dfb730279"), looks := true }, kinds := [], alts := [], laidByText := true, laidKinds := [.data, .pinned], laidTests := true, laidLooks := .later }
def ScriptParseUptoCardSaid : Prop := Claim7.holds Tryz.pinned (.plain (OpenSpec.upto scriptParseSpec)) scriptParseUptoCard

/-- THE SECOND FORM's CARD OF 'privitylaw53.ScriptFormat'. -/
def scriptFormatUptoCard : Claim7 := { stood := { row := scriptFormatUptoRow, standIns := [], harness := (true, "304f19eaacced71d790fa294aa2d1800f14445c0423bd4e63051353dfb730279"), looks := true }, kinds := [], alts := [], laidByText := true, laidKinds := [.data, .pinned], laidTests := true, laidLooks := .later }
def ScriptFormatUptoCardSaid : Prop := Claim7.holds Tryz.pinned (.plain (OpenSpec.upto scriptFormatSpec)) scriptFormatUptoCard

/-- THE SECOND FORM's CARD OF 'privitylaw53.ScriptRoundTrip'. -/
def scriptRoundTripUptoCard : Claim7 := { stood := { row := scriptRoundTripUptoRow, standIns := [], harness := (true, "304f19eaacced71d790fa294aa2d1800f14445c0423bd4e63051353dfb730279"), looks := true }, kinds := [], alts := [], laidByText := true, laidKinds := [.data, .pinned], laidTests := true, laidLooks := .later }
def ScriptRoundTripUptoCardSaid : Prop := Claim7.holds Tryz.pinned (.plain (OpenSpec.upto scriptRoundTripSpec)) scriptRoundTripUptoCard

/-- THE SECOND FORM's CARD OF 'privitylaw53.ScriptConcatenation'. -/
def scriptConcatenationUptoCard : Claim7 := { stood := { row := scriptConcatenationUptoRow, standIns := [], harness := (true, "304f19eaacced71d790fa294aa2d1800f14445c0423bd4e63051353dfb730279"), looks := true }, kinds := [], alts := [], laidByText := true, laidKinds := [.data, .pinned], laidTests := true, laidLooks := .later }
def ScriptConcatenationUptoCardSaid : Prop := Claim7.holds Tryz.pinned (.plain (OpenSpec.upto scriptConcatenationSpec)) scriptConcatenationUptoCard

/-- THE SECOND FORM's CARD OF 'privitylaw53.ScriptFormatInjective'. -/
def scriptFormatInjectiveUptoCard : Claim7 := { stood := { row := scriptFormatInjectiveUptoRow, standIns := [], harness := (true, "304f19eaacced71d790fa294aa2d1800f14445c0423bd4e63051353dfb730279"), looks := true }, kinds := [], alts := [], laidByText := true, laidKinds := [.data, .pinned], laidTests := true, laidLooks := .later }
def ScriptFormatInjectiveUptoCardSaid : Prop := Claim7.holds Tryz.pinned (.plain (OpenSpec.upto scriptFormatInjectiveSpec)) scriptFormatInjectiveUptoCard
end Rows
end Go.Proofs.YtfgbdcpfbghdoaaGreatDoor
