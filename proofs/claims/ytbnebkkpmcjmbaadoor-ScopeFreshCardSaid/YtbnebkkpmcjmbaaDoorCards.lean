/-
  DERIVED. GIVEN WITH THE SEED: THE CARDS: each row of YtbnebkkpmcjmbaaDoorRows.lean that lists a variable, with what it lists TIED to the program's text (the seventh form; the later family's looks); each row that meets fmt, with fmt's text TOLD by the authors' own Lean function (tested against real Go, not proved from fmt's source: count such statements apart). THE CARD IS WHAT COUNTS. Prove the row's statement (the work); the ties are given (YtbnebkkpmcjmbaaDoorTie.lean); close each card by the builder's one call (the guide's Derived/Test/ToyasCard.lean, 'card_holds'). Laid BY PROGRAM, IN A SANDBOX (cutbox-door.mjs). By AI agents, Wed Nov 11 2026. No macro, syntax, notation, axiom, sorry.
-/
import Derived.Test.YtbnebkkpmcjmbaaDoorRows
import GoSem.ClaimSeven
namespace Go.Proofs.YtbnebkkpmcjmbaaDoor
namespace Rows

/-- THE TIED CARD OF 'palmettelaw12.ScopeFresh'. -/
def scopeFreshCard : Claim7 := { stood := { row := scopeFreshRow, standIns := [], harness := (true, "7fb60709e2a4dcb7a4709a2275f003a3ab55aa3b412aef4786efc682abde79fc"), looks := true }, kinds := [], alts := [], laidByText := true, laidKinds := [.data, .data, .data, .sentinel, .sentinel, .listed, .data, .data, .data], laidTests := true, laidLooks := .later }
def ScopeFreshCardSaid : Prop := Claim7.holds Tryd.pinned (.plain (OpenSpec.ofChange scopeFreshSpec)) scopeFreshCard

/-- THE SECOND FORM's CARD OF 'palmettelaw12.ScopeFresh'. -/
def scopeFreshUptoCard : Claim7 := { stood := { row := scopeFreshUptoRow, standIns := [], harness := (true, "7fb60709e2a4dcb7a4709a2275f003a3ab55aa3b412aef4786efc682abde79fc"), looks := true }, kinds := [], alts := [], laidByText := true, laidKinds := [.data, .data, .data, .sentinel, .sentinel, .listed, .data, .data, .data], laidTests := true, laidLooks := .later }
def ScopeFreshUptoCardSaid : Prop := Claim7.holds Tryd.pinned (.plain (OpenSpec.upto scopeFreshSpec)) scopeFreshUptoCard
end Rows
end Go.Proofs.YtbnebkkpmcjmbaaDoor
