/-
  DERIVED. GIVEN WITH THE SEED: THE CARDS: each row of YtbnebkkpmcjmbaaGreatDoorRows.lean that lists a variable, with what it lists TIED to the program's text (the seventh form; the later family's looks); each row that meets fmt, with fmt's text TOLD by the authors' own Lean function (tested against real Go, not proved from fmt's source: count such statements apart). THE CARD IS WHAT COUNTS. Prove the row's statement (the work); the ties are given (YtbnebkkpmcjmbaaGreatDoorTie.lean); close each card by the builder's one call (the guide's Derived/Test/ToyasCard.lean, 'card_holds'). Laid BY PROGRAM, IN A SANDBOX (cutbox-door.mjs). By AI agents, Wed Nov 11 2026. No macro, syntax, notation, axiom, sorry.
-/
import Derived.Test.YtbnebkkpmcjmbaaGreatDoorRows
import GoSem.ClaimSeven
namespace Go.Proofs.YtbnebkkpmcjmbaaGreatDoor
namespace Rows

/-- THE TIED CARD OF 'palmettelaw12.ScopeRename'. -/
def scopeRenameCard : Claim7 := { stood := { row := scopeRenameRow, standIns := [], harness := (true, "80e160d8473cb48acb147e0fd0022e484be4d7d8f049011a2edc508404d813fa"), looks := true }, kinds := [], alts := [], laidByText := true, laidKinds := [.data, .data, .data, .sentinel, .sentinel, .listed, .data, .data, .data], laidTests := true, laidLooks := .later }
def ScopeRenameCardSaid : Prop := Claim7.holds Tryz.pinned (.plain (OpenSpec.ofChange scopeRenameSpec)) scopeRenameCard

/-- THE TIED CARD OF 'palmettelaw12.ScopeRenameInverse'. -/
def scopeRenameInverseCard : Claim7 := { stood := { row := scopeRenameInverseRow, standIns := [], harness := (true, "80e160d8473cb48acb147e0fd0022e484be4d7d8f049011a2edc508404d813fa"), looks := true }, kinds := [], alts := [], laidByText := true, laidKinds := [.data, .data, .data, .sentinel, .sentinel, .listed, .data, .data, .data], laidTests := true, laidLooks := .later }
def ScopeRenameInverseCardSaid : Prop := Claim7.holds Tryz.pinned (.plain (OpenSpec.ofChange scopeRenameInverseSpec)) scopeRenameInverseCard

/-- THE TIED CARD OF 'palmettelaw12.ScopeNoCapture'. -/
def scopeNoCaptureCard : Claim7 := { stood := { row := scopeNoCaptureRow, standIns := [], harness := (true, "80e160d8473cb48acb147e0fd0022e484be4d7d8f049011a2edc508404d813fa"), looks := true }, kinds := [], alts := [], laidByText := true, laidKinds := [.data, .data, .data, .sentinel, .sentinel, .listed, .data, .data, .data], laidTests := true, laidLooks := .later }
def ScopeNoCaptureCardSaid : Prop := Claim7.holds Tryz.pinned (.plain (OpenSpec.ofChange scopeNoCaptureSpec)) scopeNoCaptureCard

/-- THE TIED CARD OF 'palmettelaw12.ScopeNames'. -/
def scopeNamesCard : Claim7 := { stood := { row := scopeNamesRow, standIns := [], harness := (true, "80e160d8473cb48acb147e0fd0022e484be4d7d8f049011a2edc508404d813fa"), looks := true }, kinds := [], alts := [], laidByText := true, laidKinds := [.data, .data, .data, .sentinel, .sentinel, .listed, .data, .data, .data], laidTests := true, laidLooks := .later }
def ScopeNamesCardSaid : Prop := Claim7.holds Tryz.pinned (.plain (OpenSpec.ofChange scopeNamesSpec)) scopeNamesCard

/-- THE TIED CARD OF 'palmettelaw12.ScopeUniqueBinders'. -/
def scopeUniqueBindersCard : Claim7 := { stood := { row := scopeUniqueBindersRow, standIns := [], harness := (true, "80e160d8473cb48acb147e0fd0022e484be4d7d8f049011a2edc508404d813fa"), looks := true }, kinds := [], alts := [], laidByText := true, laidKinds := [.data, .data, .data, .sentinel, .sentinel, .listed, .data, .data, .data], laidTests := true, laidLooks := .later }
def ScopeUniqueBindersCardSaid : Prop := Claim7.holds Tryz.pinned (.plain (OpenSpec.ofChange scopeUniqueBindersSpec)) scopeUniqueBindersCard

/-- THE TIED CARD OF 'palmettelaw12.ScopeAlphaEquivalence'. -/
def scopeAlphaEquivalenceCard : Claim7 := { stood := { row := scopeAlphaEquivalenceRow, standIns := [], harness := (true, "80e160d8473cb48acb147e0fd0022e484be4d7d8f049011a2edc508404d813fa"), looks := true }, kinds := [], alts := [], laidByText := true, laidKinds := [.data, .data, .data, .sentinel, .sentinel, .listed, .data, .data, .data], laidTests := true, laidLooks := .later }
def ScopeAlphaEquivalenceCardSaid : Prop := Claim7.holds Tryz.pinned (.plain (OpenSpec.ofChange scopeAlphaEquivalenceSpec)) scopeAlphaEquivalenceCard

/-- THE SECOND FORM's CARD OF 'palmettelaw12.ScopeRename'. -/
def scopeRenameUptoCard : Claim7 := { stood := { row := scopeRenameUptoRow, standIns := [], harness := (true, "80e160d8473cb48acb147e0fd0022e484be4d7d8f049011a2edc508404d813fa"), looks := true }, kinds := [], alts := [], laidByText := true, laidKinds := [.data, .data, .data, .sentinel, .sentinel, .listed, .data, .data, .data], laidTests := true, laidLooks := .later }
def ScopeRenameUptoCardSaid : Prop := Claim7.holds Tryz.pinned (.plain (OpenSpec.upto scopeRenameSpec)) scopeRenameUptoCard

/-- THE SECOND FORM's CARD OF 'palmettelaw12.ScopeRenameInverse'. -/
def scopeRenameInverseUptoCard : Claim7 := { stood := { row := scopeRenameInverseUptoRow, standIns := [], harness := (true, "80e160d8473cb48acb147e0fd0022e484be4d7d8f049011a2edc508404d813fa"), looks := true }, kinds := [], alts := [], laidByText := true, laidKinds := [.data, .data, .data, .sentinel, .sentinel, .listed, .data, .data, .data], laidTests := true, laidLooks := .later }
def ScopeRenameInverseUptoCardSaid : Prop := Claim7.holds Tryz.pinned (.plain (OpenSpec.upto scopeRenameInverseSpec)) scopeRenameInverseUptoCard

/-- THE SECOND FORM's CARD OF 'palmettelaw12.ScopeNoCapture'. -/
def scopeNoCaptureUptoCard : Claim7 := { stood := { row := scopeNoCaptureUptoRow, standIns := [], harness := (true, "80e160d8473cb48acb147e0fd0022e484be4d7d8f049011a2edc508404d813fa"), looks := true }, kinds := [], alts := [], laidByText := true, laidKinds := [.data, .data, .data, .sentinel, .sentinel, .listed, .data, .data, .data], laidTests := true, laidLooks := .later }
def ScopeNoCaptureUptoCardSaid : Prop := Claim7.holds Tryz.pinned (.plain (OpenSpec.upto scopeNoCaptureSpec)) scopeNoCaptureUptoCard

/-- THE SECOND FORM's CARD OF 'palmettelaw12.ScopeNames'. -/
def scopeNamesUptoCard : Claim7 := { stood := { row := scopeNamesUptoRow, standIns := [], harness := (true, "80e160d8473cb48acb147e0fd0022e484be4d7d8f049011a2edc508404d813fa"), looks := true }, kinds := [], alts := [], laidByText := true, laidKinds := [.data, .data, .data, .sentinel, .sentinel, .listed, .data, .data, .data], laidTests := true, laidLooks := .later }
def ScopeNamesUptoCardSaid : Prop := Claim7.holds Tryz.pinned (.plain (OpenSpec.upto scopeNamesSpec)) scopeNamesUptoCard

/-- THE SECOND FORM's CARD OF 'palmettelaw12.ScopeUniqueBinders'. -/
def scopeUniqueBindersUptoCard : Claim7 := { stood := { row := scopeUniqueBindersUptoRow, standIns := [], harness := (true, "80e160d8473cb48acb147e0fd0022e484be4d7d8f049011a2edc508404d813fa"), looks := true }, kinds := [], alts := [], laidByText := true, laidKinds := [.data, .data, .data, .sentinel, .sentinel, .listed, .data, .data, .data], laidTests := true, laidLooks := .later }
def ScopeUniqueBindersUptoCardSaid : Prop := Claim7.holds Tryz.pinned (.plain (OpenSpec.upto scopeUniqueBindersSpec)) scopeUniqueBindersUptoCard

/-- THE SECOND FORM's CARD OF 'palmettelaw12.ScopeAlphaEquivalence'. -/
def scopeAlphaEquivalenceUptoCard : Claim7 := { stood := { row := scopeAlphaEquivalenceUptoRow, standIns := [], harness := (true, "80e160d8473cb48acb147e0fd0022e484be4d7d8f049011a2edc508404d813fa"), looks := true }, kinds := [], alts := [], laidByText := true, laidKinds := [.data, .data, .data, .sentinel, .sentinel, .listed, .data, .data, .data], laidTests := true, laidLooks := .later }
def ScopeAlphaEquivalenceUptoCardSaid : Prop := Claim7.holds Tryz.pinned (.plain (OpenSpec.upto scopeAlphaEquivalenceSpec)) scopeAlphaEquivalenceUptoCard
end Rows
end Go.Proofs.YtbnebkkpmcjmbaaGreatDoor
