/-
  DERIVED. GIVEN WITH THE SEED: THE CARDS: each row of YtmnleabeipmhmaaDoorRows.lean that lists a variable, with what it lists TIED to the program's text (the seventh form; the later family's looks); each row that meets fmt, with fmt's text TOLD by the authors' own Lean function (tested against real Go, not proved from fmt's source: count such statements apart). THE CARD IS WHAT COUNTS. Prove the row's statement (the work); the ties are given (YtmnleabeipmhmaaDoorTie.lean); close each card by the builder's one call (the guide's Derived/Test/ToyasCard.lean, 'card_holds'). Laid BY PROGRAM, IN A SANDBOX (cutbox-door.mjs). By AI agents, Wed Nov 11 2026. No macro, syntax, notation, axiom, sorry.
-/
import Derived.Test.YtmnleabeipmhmaaDoorRows
import GoSem.ClaimSeven
namespace Go.Proofs.YtmnleabeipmhmaaDoor
namespace Rows

/-- THE TIED CARD OF 'privitylaw32.CircuitCounts'. -/
def circuitCountsCard : Claim7 := { stood := { row := circuitCountsRow, standIns := [], harness := (true, "a67840e6a0a3c308e4f71f906274fc3a5f7c0d602a979db5ad5ab1f382b4b93a"), looks := true }, kinds := [], alts := [], laidByText := true, laidKinds := [.data, .data, .data, .data, .data, .sentinel, .sentinel, .data, .pinned], laidTests := true, laidLooks := .later }
def CircuitCountsCardSaid : Prop := Claim7.holds Tryd.pinned (.plain (OpenSpec.ofChange circuitCountsSpec)) circuitCountsCard

/-- THE TIED CARD OF 'privitylaw32.CircuitFormat'. -/
def circuitFormatCard : Claim7 := { stood := { row := circuitFormatRow, standIns := [], harness := (true, "a67840e6a0a3c308e4f71f906274fc3a5f7c0d602a979db5ad5ab1f382b4b93a"), looks := true }, kinds := [], alts := [], laidByText := true, laidKinds := [.data, .data, .data, .data, .data, .sentinel, .sentinel, .data, .pinned], laidTests := true, laidLooks := .later }
def CircuitFormatCardSaid : Prop := Claim7.holds Tryd.pinned (.plain (OpenSpec.ofChange circuitFormatSpec)) circuitFormatCard

/-- THE TIED CARD OF 'privitylaw32.CircuitParse'. -/
def circuitParseCard : Claim7 := { stood := { row := circuitParseRow, standIns := [], harness := (true, "a67840e6a0a3c308e4f71f906274fc3a5f7c0d602a979db5ad5ab1f382b4b93a"), looks := true }, kinds := [], alts := [], laidByText := true, laidKinds := [.data, .data, .data, .data, .data, .sentinel, .sentinel, .data, .pinned], laidTests := true, laidLooks := .later }
def CircuitParseCardSaid : Prop := Claim7.holds Tryd.pinned (.plain (OpenSpec.ofChange circuitParseSpec)) circuitParseCard

/-- THE TIED CARD OF 'privitylaw32.CircuitPrefixFree'. -/
def circuitPrefixFreeCard : Claim7 := { stood := { row := circuitPrefixFreeRow, standIns := [], harness := (true, "a67840e6a0a3c308e4f71f906274fc3a5f7c0d602a979db5ad5ab1f382b4b93a"), looks := true }, kinds := [], alts := [], laidByText := true, laidKinds := [.data, .data, .data, .data, .data, .sentinel, .sentinel, .data, .pinned], laidTests := true, laidLooks := .later }
def CircuitPrefixFreeCardSaid : Prop := Claim7.holds Tryd.pinned (.plain (OpenSpec.ofChange circuitPrefixFreeSpec)) circuitPrefixFreeCard

/-- THE TIED CARD OF 'privitylaw32.CircuitAppendMul'. -/
def circuitAppendMulCard : Claim7 := { stood := { row := circuitAppendMulRow, standIns := [], harness := (true, "a67840e6a0a3c308e4f71f906274fc3a5f7c0d602a979db5ad5ab1f382b4b93a"), looks := true }, kinds := [], alts := [], laidByText := true, laidKinds := [.data, .data, .data, .data, .data, .sentinel, .sentinel, .data, .pinned], laidTests := true, laidLooks := .later }
def CircuitAppendMulCardSaid : Prop := Claim7.holds Tryd.pinned (.plain (OpenSpec.ofChange circuitAppendMulSpec)) circuitAppendMulCard

/-- THE TIED CARD OF 'privitylaw32.CircuitValid'. -/
def circuitValidCard : Claim7 := { stood := { row := circuitValidRow, standIns := [], harness := (true, "a67840e6a0a3c308e4f71f906274fc3a5f7c0d602a979db5ad5ab1f382b4b93a"), looks := true }, kinds := [], alts := [], laidByText := true, laidKinds := [.data, .data, .data, .data, .data, .sentinel, .sentinel, .data, .pinned], laidTests := true, laidLooks := .later }
def CircuitValidCardSaid : Prop := Claim7.holds Tryd.pinned (.plain (OpenSpec.ofChange circuitValidSpec)) circuitValidCard

/-- THE TIED CARD OF 'privitylaw32.CircuitFormatInjective'. -/
def circuitFormatInjectiveCard : Claim7 := { stood := { row := circuitFormatInjectiveRow, standIns := [], harness := (true, "a67840e6a0a3c308e4f71f906274fc3a5f7c0d602a979db5ad5ab1f382b4b93a"), looks := true }, kinds := [], alts := [], laidByText := true, laidKinds := [.data, .data, .data, .data, .data, .sentinel, .sentinel, .data, .pinned], laidTests := true, laidLooks := .later }
def CircuitFormatInjectiveCardSaid : Prop := Claim7.holds Tryd.pinned (.plain (OpenSpec.ofChange circuitFormatInjectiveSpec)) circuitFormatInjectiveCard

/-- THE SECOND FORM's CARD OF 'privitylaw32.CircuitCounts'. -/
def circuitCountsUptoCard : Claim7 := { stood := { row := circuitCountsUptoRow, standIns := [], harness := (true, "a67840e6a0a3c308e4f71f906274fc3a5f7c0d602a979db5ad5ab1f382b4b93a"), looks := true }, kinds := [], alts := [], laidByText := true, laidKinds := [.data, .data, .data, .data, .data, .sentinel, .sentinel, .data, .pinned], laidTests := true, laidLooks := .later }
def CircuitCountsUptoCardSaid : Prop := Claim7.holds Tryd.pinned (.plain (OpenSpec.upto circuitCountsSpec)) circuitCountsUptoCard

/-- THE SECOND FORM's CARD OF 'privitylaw32.CircuitFormat'. -/
def circuitFormatUptoCard : Claim7 := { stood := { row := circuitFormatUptoRow, standIns := [], harness := (true, "a67840e6a0a3c308e4f71f906274fc3a5f7c0d602a979db5ad5ab1f382b4b93a"), looks := true }, kinds := [], alts := [], laidByText := true, laidKinds := [.data, .data, .data, .data, .data, .sentinel, .sentinel, .data, .pinned], laidTests := true, laidLooks := .later }
def CircuitFormatUptoCardSaid : Prop := Claim7.holds Tryd.pinned (.plain (OpenSpec.upto circuitFormatSpec)) circuitFormatUptoCard

/-- THE SECOND FORM's CARD OF 'privitylaw32.CircuitParse'. -/
def circuitParseUptoCard : Claim7 := { stood := { row := circuitParseUptoRow, standIns := [], harness := (true, "a67840e6a0a3c308e4f71f906274fc3a5f7c0d602a979db5ad5ab1f382b4b93a"), looks := true }, kinds := [], alts := [], laidByText := true, laidKinds := [.data, .data, .data, .data, .data, .sentinel, .sentinel, .data, .pinned], laidTests := true, laidLooks := .later }
def CircuitParseUptoCardSaid : Prop := Claim7.holds Tryd.pinned (.plain (OpenSpec.upto circuitParseSpec)) circuitParseUptoCard

/-- THE SECOND FORM's CARD OF 'privitylaw32.CircuitPrefixFree'. -/
def circuitPrefixFreeUptoCard : Claim7 := { stood := { row := circuitPrefixFreeUptoRow, standIns := [], harness := (true, "a67840e6a0a3c308e4f71f906274fc3a5f7c0d602a979db5ad5ab1f382b4b93a"), looks := true }, kinds := [], alts := [], laidByText := true, laidKinds := [.data, .data, .data, .data, .data, .sentinel, .sentinel, .data, .pinned], laidTests := true, laidLooks := .later }
def CircuitPrefixFreeUptoCardSaid : Prop := Claim7.holds Tryd.pinned (.plain (OpenSpec.upto circuitPrefixFreeSpec)) circuitPrefixFreeUptoCard

/-- THE SECOND FORM's CARD OF 'privitylaw32.CircuitAppendMul'. -/
def circuitAppendMulUptoCard : Claim7 := { stood := { row := circuitAppendMulUptoRow, standIns := [], harness := (true, "a67840e6a0a3c308e4f71f906274fc3a5f7c0d602a979db5ad5ab1f382b4b93a"), looks := true }, kinds := [], alts := [], laidByText := true, laidKinds := [.data, .data, .data, .data, .data, .sentinel, .sentinel, .data, .pinned], laidTests := true, laidLooks := .later }
def CircuitAppendMulUptoCardSaid : Prop := Claim7.holds Tryd.pinned (.plain (OpenSpec.upto circuitAppendMulSpec)) circuitAppendMulUptoCard

/-- THE SECOND FORM's CARD OF 'privitylaw32.CircuitValid'. -/
def circuitValidUptoCard : Claim7 := { stood := { row := circuitValidUptoRow, standIns := [], harness := (true, "a67840e6a0a3c308e4f71f906274fc3a5f7c0d602a979db5ad5ab1f382b4b93a"), looks := true }, kinds := [], alts := [], laidByText := true, laidKinds := [.data, .data, .data, .data, .data, .sentinel, .sentinel, .data, .pinned], laidTests := true, laidLooks := .later }
def CircuitValidUptoCardSaid : Prop := Claim7.holds Tryd.pinned (.plain (OpenSpec.upto circuitValidSpec)) circuitValidUptoCard

/-- THE SECOND FORM's CARD OF 'privitylaw32.CircuitFormatInjective'. -/
def circuitFormatInjectiveUptoCard : Claim7 := { stood := { row := circuitFormatInjectiveUptoRow, standIns := [], harness := (true, "a67840e6a0a3c308e4f71f906274fc3a5f7c0d602a979db5ad5ab1f382b4b93a"), looks := true }, kinds := [], alts := [], laidByText := true, laidKinds := [.data, .data, .data, .data, .data, .sentinel, .sentinel, .data, .pinned], laidTests := true, laidLooks := .later }
def CircuitFormatInjectiveUptoCardSaid : Prop := Claim7.holds Tryd.pinned (.plain (OpenSpec.upto circuitFormatInjectiveSpec)) circuitFormatInjectiveUptoCard
end Rows
end Go.Proofs.YtmnleabeipmhmaaDoor
