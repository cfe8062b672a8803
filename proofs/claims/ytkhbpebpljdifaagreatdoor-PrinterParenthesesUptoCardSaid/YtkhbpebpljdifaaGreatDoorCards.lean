/-
  DERIVED. GIVEN WITH THE SEED: THE CARDS: each row of YtkhbpebpljdifaaGreatDoorRows.lean that lists a variable, with what it lists TIED to the program's text (the seventh form; the later family's looks); each row that meets fmt, with fmt's text TOLD by the authors' own Lean function (tested against real Go, not proved from fmt's source: count such statements apart). THE CARD IS WHAT COUNTS. Prove the row's statement (the work); the ties are given (YtkhbpebpljdifaaGreatDoorTie.lean); close each card by the builder's one call (the guide's Derived/Test/ToyasCard.lean, 'card_holds'). Laid BY PROGRAM, IN A SANDBOX (cutbox-door.mjs). By AI agents, Wed Nov 11 2026. No macro, syntax, notation, axiom, sorry.
-/
import Derived.Test.YtkhbpebpljdifaaGreatDoorRows
import GoSem.ClaimSeven
namespace Go.Proofs.YtkhbpebpljdifaaGreatDoor
namespace Rows

/-- THE TIED CARD OF 'palmettelaw10.FormulaQuantifierScope'. -/
def formulaQuantifierScopeCard : Claim7 := { stood := { row := formulaQuantifierScopeRow, standIns := [], harness := (true, "cfb1f5c7795fa153258e1318957e16dfc1755af8ebd18332dd00076d70193cf9"), looks := true }, kinds := [], alts := [], laidByText := true, laidKinds := [.data, .data, .data, .sentinel, .sentinel, .listed, .data, .data], laidTests := true, laidLooks := .later }
def FormulaQuantifierScopeCardSaid : Prop := Claim7.holds Tryz.pinned (.plain (OpenSpec.ofChange formulaQuantifierScopeSpec)) formulaQuantifierScopeCard

/-- THE TIED CARD OF 'palmettelaw10.FormulaEqualClone'. -/
def formulaEqualCloneCard : Claim7 := { stood := { row := formulaEqualCloneRow, standIns := [], harness := (true, "cfb1f5c7795fa153258e1318957e16dfc1755af8ebd18332dd00076d70193cf9"), looks := true }, kinds := [], alts := [], laidByText := true, laidKinds := [.data, .data, .data, .sentinel, .sentinel, .listed, .data, .data], laidTests := true, laidLooks := .later }
def FormulaEqualCloneCardSaid : Prop := Claim7.holds Tryz.pinned (.plain (OpenSpec.ofChange formulaEqualCloneSpec)) formulaEqualCloneCard

/-- THE TIED CARD OF 'palmettelaw10.FormulaLimits'. -/
def formulaLimitsCard : Claim7 := { stood := { row := formulaLimitsRow, standIns := [], harness := (true, "cfb1f5c7795fa153258e1318957e16dfc1755af8ebd18332dd00076d70193cf9"), looks := true }, kinds := [], alts := [], laidByText := true, laidKinds := [.data, .data, .data, .sentinel, .sentinel, .listed, .data, .data, .data], laidTests := true, laidLooks := .later }
def FormulaLimitsCardSaid : Prop := Claim7.holds Tryz.pinned (.plain (OpenSpec.ofChange formulaLimitsSpec)) formulaLimitsCard

/-- THE TIED CARD OF 'palmettelaw10.FormulaCheck'. -/
def formulaCheckCard : Claim7 := { stood := { row := formulaCheckRow, standIns := [], harness := (true, "cfb1f5c7795fa153258e1318957e16dfc1755af8ebd18332dd00076d70193cf9"), looks := true }, kinds := [], alts := [], laidByText := true, laidKinds := [.data, .data, .data, .sentinel, .sentinel, .listed, .data, .data, .data], laidTests := true, laidLooks := .later }
def FormulaCheckCardSaid : Prop := Claim7.holds Tryz.pinned (.plain (OpenSpec.ofChange formulaCheckSpec)) formulaCheckCard

/-- THE TIED CARD OF 'palmettelaw10.FormulaParenthesized'. -/
def formulaParenthesizedCard : Claim7 := { stood := { row := formulaParenthesizedRow, standIns := [], harness := (true, "cfb1f5c7795fa153258e1318957e16dfc1755af8ebd18332dd00076d70193cf9"), looks := true }, kinds := [], alts := [], laidByText := true, laidKinds := [.data, .data, .data, .sentinel, .sentinel, .listed, .data, .data, .data], laidTests := true, laidLooks := .later }
def FormulaParenthesizedCardSaid : Prop := Claim7.holds Tryz.pinned (.plain (OpenSpec.ofChange formulaParenthesizedSpec)) formulaParenthesizedCard

/-- THE TIED CARD OF 'palmettelaw11.PrinterInjective'. -/
def printerInjectiveCard : Claim7 := { stood := { row := printerInjectiveRow, standIns := [], harness := (true, "cfb1f5c7795fa153258e1318957e16dfc1755af8ebd18332dd00076d70193cf9"), looks := true }, kinds := [], alts := [], laidByText := true, laidKinds := [.data, .data, .data, .sentinel, .sentinel, .listed, .data, .data, .data, .data, .data], laidTests := true, laidLooks := .later }
def PrinterInjectiveCardSaid : Prop := Claim7.holds Tryz.pinned (.plain (OpenSpec.ofChange printerInjectiveSpec)) printerInjectiveCard

/-- THE TIED CARD OF 'palmettelaw11.PrinterPrint'. -/
def printerPrintCard : Claim7 := { stood := { row := printerPrintRow, standIns := [], harness := (true, "cfb1f5c7795fa153258e1318957e16dfc1755af8ebd18332dd00076d70193cf9"), looks := true }, kinds := [], alts := [], laidByText := true, laidKinds := [.data, .data, .data, .sentinel, .sentinel, .listed, .data, .data, .data, .data, .data], laidTests := true, laidLooks := .later }
def PrinterPrintCardSaid : Prop := Claim7.holds Tryz.pinned (.plain (OpenSpec.ofChange printerPrintSpec)) printerPrintCard

/-- THE TIED CARD OF 'palmettelaw11.PrinterTokens'. -/
def printerTokensCard : Claim7 := { stood := { row := printerTokensRow, standIns := [], harness := (true, "cfb1f5c7795fa153258e1318957e16dfc1755af8ebd18332dd00076d70193cf9"), looks := true }, kinds := [], alts := [], laidByText := true, laidKinds := [.data, .data, .data, .sentinel, .sentinel, .listed, .data, .data, .data, .data, .data], laidTests := true, laidLooks := .later }
def PrinterTokensCardSaid : Prop := Claim7.holds Tryz.pinned (.plain (OpenSpec.ofChange printerTokensSpec)) printerTokensCard

/-- THE TIED CARD OF 'palmettelaw11.PrinterReparse'. -/
def printerReparseCard : Claim7 := { stood := { row := printerReparseRow, standIns := [], harness := (true, "cfb1f5c7795fa153258e1318957e16dfc1755af8ebd18332dd00076d70193cf9"), looks := true }, kinds := [], alts := [], laidByText := true, laidKinds := [.data, .data, .data, .sentinel, .sentinel, .listed, .data, .data, .data, .data, .data], laidTests := true, laidLooks := .later }
def PrinterReparseCardSaid : Prop := Claim7.holds Tryz.pinned (.plain (OpenSpec.ofChange printerReparseSpec)) printerReparseCard

/-- THE TIED CARD OF 'palmettelaw11.PrinterLimits'. -/
def printerLimitsCard : Claim7 := { stood := { row := printerLimitsRow, standIns := [], harness := (true, "cfb1f5c7795fa153258e1318957e16dfc1755af8ebd18332dd00076d70193cf9"), looks := true }, kinds := [], alts := [], laidByText := true, laidKinds := [.data, .data, .data, .sentinel, .sentinel, .listed, .data, .data, .data, .data, .data], laidTests := true, laidLooks := .later }
def PrinterLimitsCardSaid : Prop := Claim7.holds Tryz.pinned (.plain (OpenSpec.ofChange printerLimitsSpec)) printerLimitsCard

/-- THE TIED CARD OF 'palmettelaw11.PrinterRoundTrip'. -/
def printerRoundTripCard : Claim7 := { stood := { row := printerRoundTripRow, standIns := [], harness := (true, "cfb1f5c7795fa153258e1318957e16dfc1755af8ebd18332dd00076d70193cf9"), looks := true }, kinds := [], alts := [], laidByText := true, laidKinds := [.data, .data, .data, .sentinel, .sentinel, .listed, .data, .data, .data, .data, .data], laidTests := true, laidLooks := .later }
def PrinterRoundTripCardSaid : Prop := Claim7.holds Tryz.pinned (.plain (OpenSpec.ofChange printerRoundTripSpec)) printerRoundTripCard

/-- THE TIED CARD OF 'palmettelaw11.PrinterParentheses'. -/
def printerParenthesesCard : Claim7 := { stood := { row := printerParenthesesRow, standIns := [], harness := (true, "cfb1f5c7795fa153258e1318957e16dfc1755af8ebd18332dd00076d70193cf9"), looks := true }, kinds := [], alts := [], laidByText := true, laidKinds := [.data, .data, .data, .sentinel, .sentinel, .listed, .data, .data, .data, .data, .data], laidTests := true, laidLooks := .later }
def PrinterParenthesesCardSaid : Prop := Claim7.holds Tryz.pinned (.plain (OpenSpec.ofChange printerParenthesesSpec)) printerParenthesesCard

/-- THE TIED CARD OF 'palmettelaw11.PrinterTree'. -/
def printerTreeCard : Claim7 := { stood := { row := printerTreeRow, standIns := [], harness := (true, "cfb1f5c7795fa153258e1318957e16dfc1755af8ebd18332dd00076d70193cf9"), looks := true }, kinds := [], alts := [], laidByText := true, laidKinds := [.data, .data, .data, .sentinel, .sentinel, .listed, .data, .data, .data, .data, .data], laidTests := true, laidLooks := .later }
def PrinterTreeCardSaid : Prop := Claim7.holds Tryz.pinned (.plain (OpenSpec.ofChange printerTreeSpec)) printerTreeCard

/-- THE SECOND FORM's CARD OF 'palmettelaw10.FormulaQuantifierScope'. -/
def formulaQuantifierScopeUptoCard : Claim7 := { stood := { row := formulaQuantifierScopeUptoRow, standIns := [], harness := (true, "cfb1f5c7795fa153258e1318957e16dfc1755af8ebd18332dd00076d70193cf9"), looks := true }, kinds := [], alts := [], laidByText := true, laidKinds := [.data, .data, .data, .sentinel, .sentinel, .listed, .data, .data], laidTests := true, laidLooks := .later }
def FormulaQuantifierScopeUptoCardSaid : Prop := Claim7.holds Tryz.pinned (.plain (OpenSpec.upto formulaQuantifierScopeSpec)) formulaQuantifierScopeUptoCard

/-- THE SECOND FORM's CARD OF 'palmettelaw10.FormulaEqualClone'. -/
def formulaEqualCloneUptoCard : Claim7 := { stood := { row := formulaEqualCloneUptoRow, standIns := [], harness := (true, "cfb1f5c7795fa153258e1318957e16dfc1755af8ebd18332dd00076d70193cf9"), looks := true }, kinds := [], alts := [], laidByText := true, laidKinds := [.data, .data, .data, .sentinel, .sentinel, .listed, .data, .data], laidTests := true, laidLooks := .later }
def FormulaEqualCloneUptoCardSaid : Prop := Claim7.holds Tryz.pinned (.plain (OpenSpec.upto formulaEqualCloneSpec)) formulaEqualCloneUptoCard

/-- THE SECOND FORM's CARD OF 'palmettelaw10.FormulaLimits'. -/
def formulaLimitsUptoCard : Claim7 := { stood := { row := formulaLimitsUptoRow, standIns := [], harness := (true, "cfb1f5c7795fa153258e1318957e16dfc1755af8ebd18332dd00076d70193cf9"), looks := true }, kinds := [], alts := [], laidByText := true, laidKinds := [.data, .data, .data, .sentinel, .sentinel, .listed, .data, .data, .data], laidTests := true, laidLooks := .later }
def FormulaLimitsUptoCardSaid : Prop := Claim7.holds Tryz.pinned (.plain (OpenSpec.upto formulaLimitsSpec)) formulaLimitsUptoCard

/-- THE SECOND FORM's CARD OF 'palmettelaw10.FormulaCheck'. -/
def formulaCheckUptoCard : Claim7 := { stood := { row := formulaCheckUptoRow, standIns := [], harness := (true, "cfb1f5c7795fa153258e1318957e16dfc1755af8ebd18332dd00076d70193cf9"), looks := true }, kinds := [], alts := [], laidByText := true, laidKinds := [.data, .data, .data, .sentinel, .sentinel, .listed, .data, .data, .data], laidTests := true, laidLooks := .later }
def FormulaCheckUptoCardSaid : Prop := Claim7.holds Tryz.pinned (.plain (OpenSpec.upto formulaCheckSpec)) formulaCheckUptoCard

/-- THE SECOND FORM's CARD OF 'palmettelaw10.FormulaParenthesized'. -/
def formulaParenthesizedUptoCard : Claim7 := { stood := { row := formulaParenthesizedUptoRow, standIns := [], harness := (true, "cfb1f5c7795fa153258e1318957e16dfc1755af8ebd18332dd00076d70193cf9"), looks := true }, kinds := [], alts := [], laidByText := true, laidKinds := [.data, .data, .data, .sentinel, .sentinel, .listed, .data, .data, .data], laidTests := true, laidLooks := .later }
def FormulaParenthesizedUptoCardSaid : Prop := Claim7.holds Tryz.pinned (.plain (OpenSpec.upto formulaParenthesizedSpec)) formulaParenthesizedUptoCard

/-- THE SECOND FORM's CARD OF 'palmettelaw11.PrinterInjective'. -/
def printerInjectiveUptoCard : Claim7 := { stood := { row := printerInjectiveUptoRow, standIns := [], harness := (true, "cfb1f5c7795fa153258e1318957e16dfc1755af8ebd18332dd00076d70193cf9"), looks := true }, kinds := [], alts := [], laidByText := true, laidKinds := [.data, .data, .data, .sentinel, .sentinel, .listed, .data, .data, .data, .data, .data], laidTests := true, laidLooks := .later }
def PrinterInjectiveUptoCardSaid : Prop := Claim7.holds Tryz.pinned (.plain (OpenSpec.upto printerInjectiveSpec)) printerInjectiveUptoCard

/-- THE SECOND FORM's CARD OF 'palmettelaw11.PrinterPrint'. -/
def printerPrintUptoCard : Claim7 := { stood := { row := printerPrintUptoRow, standIns := [], harness := (true, "cfb1f5c7795fa153258e1318957e16dfc1755af8ebd18332dd00076d70193cf9"), looks := true }, kinds := [], alts := [], laidByText := true, laidKinds := [.data, .data, .data, .sentinel, .sentinel, .listed, .data, .data, .data, .data, .data], laidTests := true, laidLooks := .later }
def PrinterPrintUptoCardSaid : Prop := Claim7.holds Tryz.pinned (.plain (OpenSpec.upto printerPrintSpec)) printerPrintUptoCard

/-- THE SECOND FORM's CARD OF 'palmettelaw11.PrinterTokens'. -/
def printerTokensUptoCard : Claim7 := { stood := { row := printerTokensUptoRow, standIns := [], harness := (true, "cfb1f5c7795fa153258e1318957e16dfc1755af8ebd18332dd00076d70193cf9"), looks := true }, kinds := [], alts := [], laidByText := true, laidKinds := [.data, .data, .data, .sentinel, .sentinel, .listed, .data, .data, .data, .data, .data], laidTests := true, laidLooks := .later }
def PrinterTokensUptoCardSaid : Prop := Claim7.holds Tryz.pinned (.plain (OpenSpec.upto printerTokensSpec)) printerTokensUptoCard

/-- THE SECOND FORM's CARD OF 'palmettelaw11.PrinterReparse'. -/
def printerReparseUptoCard : Claim7 := { stood := { row := printerReparseUptoRow, standIns := [], harness := (true, "cfb1f5c7795fa153258e1318957e16dfc1755af8ebd18332dd00076d70193cf9"), looks := true }, kinds := [], alts := [], laidByText := true, laidKinds := [.data, .data, .data, .sentinel, .sentinel, .listed, .data, .data, .data, .data, .data], laidTests := true, laidLooks := .later }
def PrinterReparseUptoCardSaid : Prop := Claim7.holds Tryz.pinned (.plain (OpenSpec.upto printerReparseSpec)) printerReparseUptoCard

/-- THE SECOND FORM's CARD OF 'palmettelaw11.PrinterLimits'. -/
def printerLimitsUptoCard : Claim7 := { stood := { row := printerLimitsUptoRow, standIns := [], harness := (true, "cfb1f5c7795fa153258e1318957e16dfc1755af8ebd18332dd00076d70193cf9"), looks := true }, kinds := [], alts := [], laidByText := true, laidKinds := [.data, .data, .data, .sentinel, .sentinel, .listed, .data, .data, .data, .data, .data], laidTests := true, laidLooks := .later }
def PrinterLimitsUptoCardSaid : Prop := Claim7.holds Tryz.pinned (.plain (OpenSpec.upto printerLimitsSpec)) printerLimitsUptoCard

/-- THE SECOND FORM's CARD OF 'palmettelaw11.PrinterRoundTrip'. -/
def printerRoundTripUptoCard : Claim7 := { stood := { row := printerRoundTripUptoRow, standIns := [], harness := (true, "cfb1f5c7795fa153258e1318957e16dfc1755af8ebd18332dd00076d70193cf9"), looks := true }, kinds := [], alts := [], laidByText := true, laidKinds := [.data, .data, .data, .sentinel, .sentinel, .listed, .data, .data, .data, .data, .data], laidTests := true, laidLooks := .later }
def PrinterRoundTripUptoCardSaid : Prop := Claim7.holds Tryz.pinned (.plain (OpenSpec.upto printerRoundTripSpec)) printerRoundTripUptoCard

/-- THE SECOND FORM's CARD OF 'palmettelaw11.PrinterParentheses'. -/
def printerParenthesesUptoCard : Claim7 := { stood := { row := printerParenthesesUptoRow, standIns := [], harness := (true, "cfb1f5c7795fa153258e1318957e16dfc1755af8ebd18332dd00076d70193cf9"), looks := true }, kinds := [], alts := [], laidByText := true, laidKinds := [.data, .data, .data, .sentinel, .sentinel, .listed, .data, .data, .data, .data, .data], laidTests := true, laidLooks := .later }
def PrinterParenthesesUptoCardSaid : Prop := Claim7.holds Tryz.pinned (.plain (OpenSpec.upto printerParenthesesSpec)) printerParenthesesUptoCard

/-- THE SECOND FORM's CARD OF 'palmettelaw11.PrinterTree'. -/
def printerTreeUptoCard : Claim7 := { stood := { row := printerTreeUptoRow, standIns := [], harness := (true, "cfb1f5c7795fa153258e1318957e16dfc1755af8ebd18332dd00076d70193cf9"), looks := true }, kinds := [], alts := [], laidByText := true, laidKinds := [.data, .data, .data, .sentinel, .sentinel, .listed, .data, .data, .data, .data, .data], laidTests := true, laidLooks := .later }
def PrinterTreeUptoCardSaid : Prop := Claim7.holds Tryz.pinned (.plain (OpenSpec.upto printerTreeSpec)) printerTreeUptoCard
end Rows
end Go.Proofs.YtkhbpebpljdifaaGreatDoor
