/-
  DERIVED. GIVEN WITH THE SEED: THE CARDS: each row of YtifellalnojomaaDoorRows.lean that lists a variable, with what it lists TIED to the program's text (the seventh form; the later family's looks); each row that meets fmt, with fmt's text TOLD by the authors' own Lean function (tested against real Go, not proved from fmt's source: count such statements apart). THE CARD IS WHAT COUNTS. Prove the row's statement (the work); the ties are given (YtifellalnojomaaDoorTie.lean); close each card by the builder's one call (the guide's Derived/Test/ToyasCard.lean, 'card_holds'). Laid BY PROGRAM, IN A SANDBOX (cutbox-door.mjs). By AI agents, Wed Nov 11 2026. No macro, syntax, notation, axiom, sorry.
-/
import Derived.Test.YtifellalnojomaaDoorRows
import GoSem.ClaimSeven
namespace Go.Proofs.YtifellalnojomaaDoor
namespace Rows

/-- THE TIED CARD OF 'palmettelaw39.SemiringBoolean'. -/
def semiringBooleanCard : Claim7 := { stood := { row := semiringBooleanRow, standIns := [], harness := (true, "51859fa5bc8e352e53437fe68d7034bd82a09ad78263d68a9e4c59f4da7ba360"), looks := false }, kinds := [], alts := [], laidByText := true, laidKinds := [.data, .data, .data], laidTests := true, laidLooks := .later }
def SemiringBooleanCardSaid : Prop := Claim7.holds Tryd.pinned (.plain (OpenSpec.ofChange semiringBooleanSpec)) semiringBooleanCard

/-- THE TIED CARD OF 'palmettelaw39.SemiringTropical'. -/
def semiringTropicalCard : Claim7 := { stood := { row := semiringTropicalRow, standIns := [], harness := (true, "51859fa5bc8e352e53437fe68d7034bd82a09ad78263d68a9e4c59f4da7ba360"), looks := false }, kinds := [], alts := [], laidByText := true, laidKinds := [.data, .data, .data], laidTests := true, laidLooks := .later }
def SemiringTropicalCardSaid : Prop := Claim7.holds Tryd.pinned (.plain (OpenSpec.ofChange semiringTropicalSpec)) semiringTropicalCard

/-- THE TIED CARD OF 'palmettelaw39.SemiringHomomorphisms'. -/
def semiringHomomorphismsCard : Claim7 := { stood := { row := semiringHomomorphismsRow, standIns := [], harness := (true, "51859fa5bc8e352e53437fe68d7034bd82a09ad78263d68a9e4c59f4da7ba360"), looks := false }, kinds := [], alts := [], laidByText := true, laidKinds := [.data, .data, .data], laidTests := true, laidLooks := .later }
def SemiringHomomorphismsCardSaid : Prop := Claim7.holds Tryd.pinned (.plain (OpenSpec.ofChange semiringHomomorphismsSpec)) semiringHomomorphismsCard

/-- THE TIED CARD OF 'palmettelaw39.SemiringNatural'. -/
def semiringNaturalCard : Claim7 := { stood := { row := semiringNaturalRow, standIns := [], harness := (true, "51859fa5bc8e352e53437fe68d7034bd82a09ad78263d68a9e4c59f4da7ba360"), looks := false }, kinds := [], alts := [], laidByText := true, laidKinds := [.data, .data, .data], laidTests := true, laidLooks := .later }
def SemiringNaturalCardSaid : Prop := Claim7.holds Tryd.pinned (.plain (OpenSpec.ofChange semiringNaturalSpec)) semiringNaturalCard

/-- THE TIED CARD OF 'palmettelaw39.SemiringLawful'. -/
def semiringLawfulCard : Claim7 := { stood := { row := semiringLawfulRow, standIns := [], harness := (true, "51859fa5bc8e352e53437fe68d7034bd82a09ad78263d68a9e4c59f4da7ba360"), looks := false }, kinds := [], alts := [], laidByText := true, laidKinds := [.data, .data, .data], laidTests := true, laidLooks := .later }
def SemiringLawfulCardSaid : Prop := Claim7.holds Tryd.pinned (.plain (OpenSpec.ofChange semiringLawfulSpec)) semiringLawfulCard

/-- THE TIED CARD OF 'palmettelaw39.SemiringPair'. -/
def semiringPairCard : Claim7 := { stood := { row := semiringPairRow, standIns := [], harness := (true, "51859fa5bc8e352e53437fe68d7034bd82a09ad78263d68a9e4c59f4da7ba360"), looks := false }, kinds := [], alts := [], laidByText := true, laidKinds := [.data, .data, .data], laidTests := true, laidLooks := .later }
def SemiringPairCardSaid : Prop := Claim7.holds Tryd.pinned (.plain (OpenSpec.ofChange semiringPairSpec)) semiringPairCard

/-- THE TIED CARD OF 'palmettelaw39.SemiringFolds'. -/
def semiringFoldsCard : Claim7 := { stood := { row := semiringFoldsRow, standIns := [], harness := (true, "51859fa5bc8e352e53437fe68d7034bd82a09ad78263d68a9e4c59f4da7ba360"), looks := false }, kinds := [], alts := [], laidByText := true, laidKinds := [.data, .data, .data], laidTests := true, laidLooks := .later }
def SemiringFoldsCardSaid : Prop := Claim7.holds Tryd.pinned (.plain (OpenSpec.ofChange semiringFoldsSpec)) semiringFoldsCard

/-- THE TIED CARD OF 'palmettelaw39.SemiringNil'. -/
def semiringNilCard : Claim7 := { stood := { row := semiringNilRow, standIns := [], harness := (true, "51859fa5bc8e352e53437fe68d7034bd82a09ad78263d68a9e4c59f4da7ba360"), looks := false }, kinds := [], alts := [], laidByText := true, laidKinds := [.data, .data, .data], laidTests := true, laidLooks := .later }
def SemiringNilCardSaid : Prop := Claim7.holds Tryd.pinned (.plain (OpenSpec.ofChange semiringNilSpec)) semiringNilCard

/-- THE SECOND FORM's CARD OF 'palmettelaw39.SemiringBoolean'. -/
def semiringBooleanUptoCard : Claim7 := { stood := { row := semiringBooleanUptoRow, standIns := [], harness := (true, "51859fa5bc8e352e53437fe68d7034bd82a09ad78263d68a9e4c59f4da7ba360"), looks := false }, kinds := [], alts := [], laidByText := true, laidKinds := [.data, .data, .data], laidTests := true, laidLooks := .later }
def SemiringBooleanUptoCardSaid : Prop := Claim7.holds Tryd.pinned (.plain (OpenSpec.upto semiringBooleanSpec)) semiringBooleanUptoCard

/-- THE SECOND FORM's CARD OF 'palmettelaw39.SemiringTropical'. -/
def semiringTropicalUptoCard : Claim7 := { stood := { row := semiringTropicalUptoRow, standIns := [], harness := (true, "51859fa5bc8e352e53437fe68d7034bd82a09ad78263d68a9e4c59f4da7ba360"), looks := false }, kinds := [], alts := [], laidByText := true, laidKinds := [.data, .data, .data], laidTests := true, laidLooks := .later }
def SemiringTropicalUptoCardSaid : Prop := Claim7.holds Tryd.pinned (.plain (OpenSpec.upto semiringTropicalSpec)) semiringTropicalUptoCard

/-- THE SECOND FORM's CARD OF 'palmettelaw39.SemiringHomomorphisms'. -/
def semiringHomomorphismsUptoCard : Claim7 := { stood := { row := semiringHomomorphismsUptoRow, standIns := [], harness := (true, "51859fa5bc8e352e53437fe68d7034bd82a09ad78263d68a9e4c59f4da7ba360"), looks := false }, kinds := [], alts := [], laidByText := true, laidKinds := [.data, .data, .data], laidTests := true, laidLooks := .later }
def SemiringHomomorphismsUptoCardSaid : Prop := Claim7.holds Tryd.pinned (.plain (OpenSpec.upto semiringHomomorphismsSpec)) semiringHomomorphismsUptoCard

/-- THE SECOND FORM's CARD OF 'palmettelaw39.SemiringNatural'. -/
def semiringNaturalUptoCard : Claim7 := { stood := { row := semiringNaturalUptoRow, standIns := [], harness := (true, "51859fa5bc8e352e53437fe68d7034bd82a09ad78263d68a9e4c59f4da7ba360"), looks := false }, kinds := [], alts := [], laidByText := true, laidKinds := [.data, .data, .data], laidTests := true, laidLooks := .later }
def SemiringNaturalUptoCardSaid : Prop := Claim7.holds Tryd.pinned (.plain (OpenSpec.upto semiringNaturalSpec)) semiringNaturalUptoCard

/-- THE SECOND FORM's CARD OF 'palmettelaw39.SemiringLawful'. -/
def semiringLawfulUptoCard : Claim7 := { stood := { row := semiringLawfulUptoRow, standIns := [], harness := (true, "51859fa5bc8e352e53437fe68d7034bd82a09ad78263d68a9e4c59f4da7ba360"), looks := false }, kinds := [], alts := [], laidByText := true, laidKinds := [.data, .data, .data], laidTests := true, laidLooks := .later }
def SemiringLawfulUptoCardSaid : Prop := Claim7.holds Tryd.pinned (.plain (OpenSpec.upto semiringLawfulSpec)) semiringLawfulUptoCard

/-- THE SECOND FORM's CARD OF 'palmettelaw39.SemiringPair'. -/
def semiringPairUptoCard : Claim7 := { stood := { row := semiringPairUptoRow, standIns := [], harness := (true, "51859fa5bc8e352e53437fe68d7034bd82a09ad78263d68a9e4c59f4da7ba360"), looks := false }, kinds := [], alts := [], laidByText := true, laidKinds := [.data, .data, .data], laidTests := true, laidLooks := .later }
def SemiringPairUptoCardSaid : Prop := Claim7.holds Tryd.pinned (.plain (OpenSpec.upto semiringPairSpec)) semiringPairUptoCard

/-- THE SECOND FORM's CARD OF 'palmettelaw39.SemiringFolds'. -/
def semiringFoldsUptoCard : Claim7 := { stood := { row := semiringFoldsUptoRow, standIns := [], harness := (true, "51859fa5bc8e352e53437fe68d7034bd82a09ad78263d68a9e4c59f4da7ba360"), looks := false }, kinds := [], alts := [], laidByText := true, laidKinds := [.data, .data, .data], laidTests := true, laidLooks := .later }
def SemiringFoldsUptoCardSaid : Prop := Claim7.holds Tryd.pinned (.plain (OpenSpec.upto semiringFoldsSpec)) semiringFoldsUptoCard

/-- THE SECOND FORM's CARD OF 'palmettelaw39.SemiringNil'. -/
def semiringNilUptoCard : Claim7 := { stood := { row := semiringNilUptoRow, standIns := [], harness := (true, "51859fa5bc8e352e53437fe68d7034bd82a09ad78263d68a9e4c59f4da7ba360"), looks := false }, kinds := [], alts := [], laidByText := true, laidKinds := [.data, .data, .data], laidTests := true, laidLooks := .later }
def SemiringNilUptoCardSaid : Prop := Claim7.holds Tryd.pinned (.plain (OpenSpec.upto semiringNilSpec)) semiringNilUptoCard
end Rows
end Go.Proofs.YtifellalnojomaaDoor
