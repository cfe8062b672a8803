/-
  DERIVED. GIVEN WITH THE SEED: THE CARDS: each row of YtkhbpebpljdifaaDoorRows.lean that lists a variable, with what it lists TIED to the program's text (the seventh form; the later family's looks); each row that meets fmt, with fmt's text TOLD by the authors' own Lean function (tested against real Go, not proved from fmt's source: count such statements apart). THE CARD IS WHAT COUNTS. Prove the row's statement (the work); the ties are given (YtkhbpebpljdifaaDoorTie.lean); close each card by the builder's one call (the guide's Derived/Test/ToyasCard.lean, 'card_holds'). Laid BY PROGRAM, IN A SANDBOX (cutbox-door.mjs). By AI agents, Wed Nov 11 2026. No macro, syntax, notation, axiom, sorry.
-/
import Derived.Test.YtkhbpebpljdifaaDoorRows
import GoSem.ClaimSeven
namespace Go.Proofs.YtkhbpebpljdifaaDoor
namespace Rows

/-- THE TIED CARD OF 'palmettelaw09.LexerTokenize'. -/
def lexerTokenizeCard : Claim7 := { stood := { row := lexerTokenizeRow, standIns := [], harness := (true, "ba263fd9b23b058e80af5664cc656d3aa88cb055522ab62a11b902b81ce6c80e"), looks := true }, kinds := [], alts := [], laidByText := true, laidKinds := [.data, .data, .data, .sentinel, .sentinel, .listed, .data], laidTests := true, laidLooks := .later }
def LexerTokenizeCardSaid : Prop := Claim7.holds Tryd.pinned (.plain (OpenSpec.ofChange lexerTokenizeSpec)) lexerTokenizeCard

/-- THE TIED CARD OF 'palmettelaw09.LexerPositions'. -/
def lexerPositionsCard : Claim7 := { stood := { row := lexerPositionsRow, standIns := [], harness := (true, "ba263fd9b23b058e80af5664cc656d3aa88cb055522ab62a11b902b81ce6c80e"), looks := true }, kinds := [], alts := [], laidByText := true, laidKinds := [.data, .data, .data, .sentinel, .sentinel, .listed, .data], laidTests := true, laidLooks := .later }
def LexerPositionsCardSaid : Prop := Claim7.holds Tryd.pinned (.plain (OpenSpec.ofChange lexerPositionsSpec)) lexerPositionsCard

/-- THE TIED CARD OF 'palmettelaw09.LexerConcatenation'. -/
def lexerConcatenationCard : Claim7 := { stood := { row := lexerConcatenationRow, standIns := [], harness := (true, "ba263fd9b23b058e80af5664cc656d3aa88cb055522ab62a11b902b81ce6c80e"), looks := true }, kinds := [], alts := [], laidByText := true, laidKinds := [.data, .data, .data, .sentinel, .sentinel, .listed, .data], laidTests := true, laidLooks := .later }
def LexerConcatenationCardSaid : Prop := Claim7.holds Tryd.pinned (.plain (OpenSpec.ofChange lexerConcatenationSpec)) lexerConcatenationCard

/-- THE TIED CARD OF 'palmettelaw09.LexerNumbers'. -/
def lexerNumbersCard : Claim7 := { stood := { row := lexerNumbersRow, standIns := [], harness := (true, "ba263fd9b23b058e80af5664cc656d3aa88cb055522ab62a11b902b81ce6c80e"), looks := true }, kinds := [], alts := [], laidByText := true, laidKinds := [.data, .data, .data, .sentinel, .sentinel, .listed, .data], laidTests := true, laidLooks := .later }
def LexerNumbersCardSaid : Prop := Claim7.holds Tryd.pinned (.plain (OpenSpec.ofChange lexerNumbersSpec)) lexerNumbersCard

/-- THE TIED CARD OF 'palmettelaw09.LexerIdentifiers'. -/
def lexerIdentifiersCard : Claim7 := { stood := { row := lexerIdentifiersRow, standIns := [], harness := (true, "ba263fd9b23b058e80af5664cc656d3aa88cb055522ab62a11b902b81ce6c80e"), looks := true }, kinds := [], alts := [], laidByText := true, laidKinds := [.data, .data, .data, .sentinel, .sentinel, .listed, .data], laidTests := true, laidLooks := .later }
def LexerIdentifiersCardSaid : Prop := Claim7.holds Tryd.pinned (.plain (OpenSpec.ofChange lexerIdentifiersSpec)) lexerIdentifiersCard

/-- THE TIED CARD OF 'palmettelaw09.LexerLimits'. -/
def lexerLimitsCard : Claim7 := { stood := { row := lexerLimitsRow, standIns := [], harness := (true, "ba263fd9b23b058e80af5664cc656d3aa88cb055522ab62a11b902b81ce6c80e"), looks := true }, kinds := [], alts := [], laidByText := true, laidKinds := [.data, .data, .data, .sentinel, .sentinel, .listed, .data], laidTests := true, laidLooks := .later }
def LexerLimitsCardSaid : Prop := Claim7.holds Tryd.pinned (.plain (OpenSpec.ofChange lexerLimitsSpec)) lexerLimitsCard

/-- THE TIED CARD OF 'palmettelaw09.LexerJoin'. -/
def lexerJoinCard : Claim7 := { stood := { row := lexerJoinRow, standIns := [], harness := (true, "ba263fd9b23b058e80af5664cc656d3aa88cb055522ab62a11b902b81ce6c80e"), looks := true }, kinds := [], alts := [], laidByText := true, laidKinds := [.data, .data, .data, .sentinel, .sentinel, .listed, .data], laidTests := true, laidLooks := .later }
def LexerJoinCardSaid : Prop := Claim7.holds Tryd.pinned (.plain (OpenSpec.ofChange lexerJoinSpec)) lexerJoinCard

/-- THE TIED CARD OF 'palmettelaw09.LexerRoundTrip'. -/
def lexerRoundTripCard : Claim7 := { stood := { row := lexerRoundTripRow, standIns := [], harness := (true, "ba263fd9b23b058e80af5664cc656d3aa88cb055522ab62a11b902b81ce6c80e"), looks := true }, kinds := [], alts := [], laidByText := true, laidKinds := [.data, .data, .data, .sentinel, .sentinel, .listed, .data], laidTests := true, laidLooks := .later }
def LexerRoundTripCardSaid : Prop := Claim7.holds Tryd.pinned (.plain (OpenSpec.ofChange lexerRoundTripSpec)) lexerRoundTripCard

/-- THE TIED CARD OF 'palmettelaw10.FormulaAssociativity'. -/
def formulaAssociativityCard : Claim7 := { stood := { row := formulaAssociativityRow, standIns := [], harness := (true, "ba263fd9b23b058e80af5664cc656d3aa88cb055522ab62a11b902b81ce6c80e"), looks := true }, kinds := [], alts := [], laidByText := true, laidKinds := [.data, .data, .data, .sentinel, .sentinel, .listed, .data, .data], laidTests := true, laidLooks := .later }
def FormulaAssociativityCardSaid : Prop := Claim7.holds Tryd.pinned (.plain (OpenSpec.ofChange formulaAssociativitySpec)) formulaAssociativityCard

/-- THE TIED CARD OF 'palmettelaw10.FormulaBlanks'. -/
def formulaBlanksCard : Claim7 := { stood := { row := formulaBlanksRow, standIns := [], harness := (true, "ba263fd9b23b058e80af5664cc656d3aa88cb055522ab62a11b902b81ce6c80e"), looks := true }, kinds := [], alts := [], laidByText := true, laidKinds := [.data, .data, .data, .sentinel, .sentinel, .listed, .data, .data], laidTests := true, laidLooks := .later }
def FormulaBlanksCardSaid : Prop := Claim7.holds Tryd.pinned (.plain (OpenSpec.ofChange formulaBlanksSpec)) formulaBlanksCard

/-- THE SECOND FORM's CARD OF 'palmettelaw09.LexerTokenize'. -/
def lexerTokenizeUptoCard : Claim7 := { stood := { row := lexerTokenizeUptoRow, standIns := [], harness := (true, "ba263fd9b23b058e80af5664cc656d3aa88cb055522ab62a11b902b81ce6c80e"), looks := true }, kinds := [], alts := [], laidByText := true, laidKinds := [.data, .data, .data, .sentinel, .sentinel, .listed, .data], laidTests := true, laidLooks := .later }
def LexerTokenizeUptoCardSaid : Prop := Claim7.holds Tryd.pinned (.plain (OpenSpec.upto lexerTokenizeSpec)) lexerTokenizeUptoCard

/-- THE SECOND FORM's CARD OF 'palmettelaw09.LexerPositions'. -/
def lexerPositionsUptoCard : Claim7 := { stood := { row := lexerPositionsUptoRow, standIns := [], harness := (true, "ba263fd9b23b058e80af5664cc656d3aa88cb055522ab62a11b902b81ce6c80e"), looks := true }, kinds := [], alts := [], laidByText := true, laidKinds := [.data, .data, .data, .sentinel, .sentinel, .listed, .data], laidTests := true, laidLooks := .later }
def LexerPositionsUptoCardSaid : Prop := Claim7.holds Tryd.pinned (.plain (OpenSpec.upto lexerPositionsSpec)) lexerPositionsUptoCard

/-- THE SECOND FORM's CARD OF 'palmettelaw09.LexerConcatenation'. -/
def lexerConcatenationUptoCard : Claim7 := { stood := { row := lexerConcatenationUptoRow, standIns := [], harness := (true, "ba263fd9b23b058e80af5664cc656d3aa88cb055522ab62a11b902b81ce6c80e"), looks := true }, kinds := [], alts := [], laidByText := true, laidKinds := [.data, .data, .data, .sentinel, .sentinel, .listed, .data], laidTests := true, laidLooks := .later }
def LexerConcatenationUptoCardSaid : Prop := Claim7.holds Tryd.pinned (.plain (OpenSpec.upto lexerConcatenationSpec)) lexerConcatenationUptoCard

/-- THE SECOND FORM's CARD OF 'palmettelaw09.LexerNumbers'. -/
def lexerNumbersUptoCard : Claim7 := { stood := { row := lexerNumbersUptoRow, standIns := [], harness := (true, "ba263fd9b23b058e80af5664cc656d3aa88cb055522ab62a11b902b81ce6c80e"), looks := true }, kinds := [], alts := [], laidByText := true, laidKinds := [.data, .data, .data, .sentinel, .sentinel, .listed, .data], laidTests := true, laidLooks := .later }
def LexerNumbersUptoCardSaid : Prop := Claim7.holds Tryd.pinned (.plain (OpenSpec.upto lexerNumbersSpec)) lexerNumbersUptoCard

/-- THE SECOND FORM's CARD OF 'palmettelaw09.LexerIdentifiers'. -/
def lexerIdentifiersUptoCard : Claim7 := { stood := { row := lexerIdentifiersUptoRow, standIns := [], harness := (true, "ba263fd9b23b058e80af5664cc656d3aa88cb055522ab62a11b902b81ce6c80e"), looks := true }, kinds := [], alts := [], laidByText := true, laidKinds := [.data, .data, .data, .sentinel, .sentinel, .listed, .data], laidTests := true, laidLooks := .later }
def LexerIdentifiersUptoCardSaid : Prop := Claim7.holds Tryd.pinned (.plain (OpenSpec.upto lexerIdentifiersSpec)) lexerIdentifiersUptoCard

/-- THE SECOND FORM's CARD OF 'palmettelaw09.LexerLimits'. -/
def lexerLimitsUptoCard : Claim7 := { stood := { row := lexerLimitsUptoRow, standIns := [], harness := (true, "ba263fd9b23b058e80af5664cc656d3aa88cb055522ab62a11b902b81ce6c80e"), looks := true }, kinds := [], alts := [], laidByText := true, laidKinds := [.data, .data, .data, .sentinel, .sentinel, .listed, .data], laidTests := true, laidLooks := .later }
def LexerLimitsUptoCardSaid : Prop := Claim7.holds Tryd.pinned (.plain (OpenSpec.upto lexerLimitsSpec)) lexerLimitsUptoCard

/-- THE SECOND FORM's CARD OF 'palmettelaw09.LexerJoin'. -/
def lexerJoinUptoCard : Claim7 := { stood := { row := lexerJoinUptoRow, standIns := [], harness := (true, "ba263fd9b23b058e80af5664cc656d3aa88cb055522ab62a11b902b81ce6c80e"), looks := true }, kinds := [], alts := [], laidByText := true, laidKinds := [.data, .data, .data, .sentinel, .sentinel, .listed, .data], laidTests := true, laidLooks := .later }
def LexerJoinUptoCardSaid : Prop := Claim7.holds Tryd.pinned (.plain (OpenSpec.upto lexerJoinSpec)) lexerJoinUptoCard

/-- THE SECOND FORM's CARD OF 'palmettelaw09.LexerRoundTrip'. -/
def lexerRoundTripUptoCard : Claim7 := { stood := { row := lexerRoundTripUptoRow, standIns := [], harness := (true, "ba263fd9b23b058e80af5664cc656d3aa88cb055522ab62a11b902b81ce6c80e"), looks := true }, kinds := [], alts := [], laidByText := true, laidKinds := [.data, .data, .data, .sentinel, .sentinel, .listed, .data], laidTests := true, laidLooks := .later }
def LexerRoundTripUptoCardSaid : Prop := Claim7.holds Tryd.pinned (.plain (OpenSpec.upto lexerRoundTripSpec)) lexerRoundTripUptoCard

/-- THE SECOND FORM's CARD OF 'palmettelaw10.FormulaAssociativity'. -/
def formulaAssociativityUptoCard : Claim7 := { stood := { row := formulaAssociativityUptoRow, standIns := [], harness := (true, "ba263fd9b23b058e80af5664cc656d3aa88cb055522ab62a11b902b81ce6c80e"), looks := true }, kinds := [], alts := [], laidByText := true, laidKinds := [.data, .data, .data, .sentinel, .sentinel, .listed, .data, .data], laidTests := true, laidLooks := .later }
def FormulaAssociativityUptoCardSaid : Prop := Claim7.holds Tryd.pinned (.plain (OpenSpec.upto formulaAssociativitySpec)) formulaAssociativityUptoCard

/-- THE SECOND FORM's CARD OF 'palmettelaw10.FormulaBlanks'. -/
def formulaBlanksUptoCard : Claim7 := { stood := { row := formulaBlanksUptoRow, standIns := [], harness := (true, "ba263fd9b23b058e80af5664cc656d3aa88cb055522ab62a11b902b81ce6c80e"), looks := true }, kinds := [], alts := [], laidByText := true, laidKinds := [.data, .data, .data, .sentinel, .sentinel, .listed, .data, .data], laidTests := true, laidLooks := .later }
def FormulaBlanksUptoCardSaid : Prop := Claim7.holds Tryd.pinned (.plain (OpenSpec.upto formulaBlanksSpec)) formulaBlanksUptoCard
end Rows
end Go.Proofs.YtkhbpebpljdifaaDoor
