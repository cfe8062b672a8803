/-
  DERIVED. GIVEN WITH THE SEED: THE CARDS: each row of YtffnkjlobflhcaaDoorRows.lean that lists a variable, with what it lists TIED to the program's text (the seventh form; the later family's looks); each row that meets fmt, with fmt's text TOLD by the authors' own Lean function (tested against real Go, not proved from fmt's source: count such statements apart). THE CARD IS WHAT COUNTS. Prove the row's statement (the work); the ties are given (YtffnkjlobflhcaaDoorTie.lean); close each card by the builder's one call (the guide's Derived/Test/ToyasCard.lean, 'card_holds'). Laid BY PROGRAM, IN A SANDBOX (cutbox-door.mjs). By AI agents, Wed Nov 11 2026. No macro, syntax, notation, axiom, sorry.
-/
import Derived.Test.YtffnkjlobflhcaaDoorRows
import GoSem.ClaimSeven
namespace Go.Proofs.YtffnkjlobflhcaaDoor
namespace Rows

/-- THE TIED CARD OF 'palmettelaw04.InternStructKeys'. -/
def internStructKeysCard : Claim7 := { stood := { row := internStructKeysRow, standIns := [], harness := (true, "e7e4bb89e4ce8502ac906b0a768118bd6295db72eb004f9ac8b1097b56665889"), looks := false }, kinds := [], alts := [], laidByText := true, laidKinds := [.data, .data, .data], laidTests := true, laidLooks := .later }
def InternStructKeysCardSaid : Prop := Claim7.holds Tryd.pinned (.plain (OpenSpec.ofChange internStructKeysSpec)) internStructKeysCard

/-- THE TIED CARD OF 'palmettelaw04.InternIds'. -/
def internIdsCard : Claim7 := { stood := { row := internIdsRow, standIns := [], harness := (true, "e7e4bb89e4ce8502ac906b0a768118bd6295db72eb004f9ac8b1097b56665889"), looks := false }, kinds := [], alts := [], laidByText := true, laidKinds := [.data, .data, .data], laidTests := true, laidLooks := .later }
def InternIdsCardSaid : Prop := Claim7.holds Tryd.pinned (.plain (OpenSpec.ofChange internIdsSpec)) internIdsCard

/-- THE TIED CARD OF 'palmettelaw04.InternStable'. -/
def internStableCard : Claim7 := { stood := { row := internStableRow, standIns := [], harness := (true, "e7e4bb89e4ce8502ac906b0a768118bd6295db72eb004f9ac8b1097b56665889"), looks := false }, kinds := [], alts := [], laidByText := true, laidKinds := [.data, .data, .data], laidTests := true, laidLooks := .later }
def InternStableCardSaid : Prop := Claim7.holds Tryd.pinned (.plain (OpenSpec.ofChange internStableSpec)) internStableCard

/-- THE TIED CARD OF 'palmettelaw04.InternAll'. -/
def internAllCard : Claim7 := { stood := { row := internAllRow, standIns := [], harness := (true, "e7e4bb89e4ce8502ac906b0a768118bd6295db72eb004f9ac8b1097b56665889"), looks := false }, kinds := [], alts := [], laidByText := true, laidKinds := [.data, .data, .data], laidTests := true, laidLooks := .later }
def InternAllCardSaid : Prop := Claim7.holds Tryd.pinned (.plain (OpenSpec.ofChange internAllSpec)) internAllCard

/-- THE TIED CARD OF 'palmettelaw04.InternSlices'. -/
def internSlicesCard : Claim7 := { stood := { row := internSlicesRow, standIns := [], harness := (true, "e7e4bb89e4ce8502ac906b0a768118bd6295db72eb004f9ac8b1097b56665889"), looks := false }, kinds := [], alts := [], laidByText := true, laidKinds := [.data, .data, .data], laidTests := true, laidLooks := .later }
def InternSlicesCardSaid : Prop := Claim7.holds Tryd.pinned (.plain (OpenSpec.ofChange internSlicesSpec)) internSlicesCard

/-- THE TIED CARD OF 'palmettelaw04.InternClones'. -/
def internClonesCard : Claim7 := { stood := { row := internClonesRow, standIns := [], harness := (true, "e7e4bb89e4ce8502ac906b0a768118bd6295db72eb004f9ac8b1097b56665889"), looks := false }, kinds := [], alts := [], laidByText := true, laidKinds := [.data, .data, .data], laidTests := true, laidLooks := .later }
def InternClonesCardSaid : Prop := Claim7.holds Tryd.pinned (.plain (OpenSpec.ofChange internClonesSpec)) internClonesCard

/-- THE TIED CARD OF 'palmettelaw04.InternSliceCopies'. -/
def internSliceCopiesCard : Claim7 := { stood := { row := internSliceCopiesRow, standIns := [], harness := (true, "e7e4bb89e4ce8502ac906b0a768118bd6295db72eb004f9ac8b1097b56665889"), looks := false }, kinds := [], alts := [], laidByText := true, laidKinds := [.data, .data, .data], laidTests := true, laidLooks := .later }
def InternSliceCopiesCardSaid : Prop := Claim7.holds Tryd.pinned (.plain (OpenSpec.ofChange internSliceCopiesSpec)) internSliceCopiesCard

/-- THE SECOND FORM's CARD OF 'palmettelaw04.InternStructKeys'. -/
def internStructKeysUptoCard : Claim7 := { stood := { row := internStructKeysUptoRow, standIns := [], harness := (true, "e7e4bb89e4ce8502ac906b0a768118bd6295db72eb004f9ac8b1097b56665889"), looks := false }, kinds := [], alts := [], laidByText := true, laidKinds := [.data, .data, .data], laidTests := true, laidLooks := .later }
def InternStructKeysUptoCardSaid : Prop := Claim7.holds Tryd.pinned (.plain (OpenSpec.upto internStructKeysSpec)) internStructKeysUptoCard

/-- THE SECOND FORM's CARD OF 'palmettelaw04.InternIds'. -/
def internIdsUptoCard : Claim7 := { stood := { row := internIdsUptoRow, standIns := [], harness := (true, "e7e4bb89e4ce8502ac906b0a768118bd6295db72eb004f9ac8b1097b56665889"), looks := false }, kinds := [], alts := [], laidByText := true, laidKinds := [.data, .data, .data], laidTests := true, laidLooks := .later }
def InternIdsUptoCardSaid : Prop := Claim7.holds Tryd.pinned (.plain (OpenSpec.upto internIdsSpec)) internIdsUptoCard

/-- THE SECOND FORM's CARD OF 'palmettelaw04.InternStable'. -/
def internStableUptoCard : Claim7 := { stood := { row := internStableUptoRow, standIns := [], harness := (true, "e7e4bb89e4ce8502ac906b0a768118bd6295db72eb004f9ac8b1097b56665889"), looks := false }, kinds := [], alts := [], laidByText := true, laidKinds := [.data, .data, .data], laidTests := true, laidLooks := .later }
def InternStableUptoCardSaid : Prop := Claim7.holds Tryd.pinned (.plain (OpenSpec.upto internStableSpec)) internStableUptoCard

/-- THE SECOND FORM's CARD OF 'palmettelaw04.InternAll'. -/
def internAllUptoCard : Claim7 := { stood := { row := internAllUptoRow, standIns := [], harness := (true, "e7e4bb89e4ce8502ac906b0a768118bd6295db72eb004f9ac8b1097b56665889"), looks := false }, kinds := [], alts := [], laidByText := true, laidKinds := [.data, .data, .data], laidTests := true, laidLooks := .later }
def InternAllUptoCardSaid : Prop := Claim7.holds Tryd.pinned (.plain (OpenSpec.upto internAllSpec)) internAllUptoCard

/-- THE SECOND FORM's CARD OF 'palmettelaw04.InternSlices'. -/
def internSlicesUptoCard : Claim7 := { stood := { row := internSlicesUptoRow, standIns := [], harness := (true, "e7e4bb89e4ce8502ac906b0a768118bd6295db72eb004f9ac8b1097b56665889"), looks := false }, kinds := [], alts := [], laidByText := true, laidKinds := [.data, .data, .data], laidTests := true, laidLooks := .later }
def InternSlicesUptoCardSaid : Prop := Claim7.holds Tryd.pinned (.plain (OpenSpec.upto internSlicesSpec)) internSlicesUptoCard

/-- THE SECOND FORM's CARD OF 'palmettelaw04.InternClones'. -/
def internClonesUptoCard : Claim7 := { stood := { row := internClonesUptoRow, standIns := [], harness := (true, "e7e4bb89e4ce8502ac906b0a768118bd6295db72eb004f9ac8b1097b56665889"), looks := false }, kinds := [], alts := [], laidByText := true, laidKinds := [.data, .data, .data], laidTests := true, laidLooks := .later }
def InternClonesUptoCardSaid : Prop := Claim7.holds Tryd.pinned (.plain (OpenSpec.upto internClonesSpec)) internClonesUptoCard

/-- THE SECOND FORM's CARD OF 'palmettelaw04.InternSliceCopies'. -/
def internSliceCopiesUptoCard : Claim7 := { stood := { row := internSliceCopiesUptoRow, standIns := [], harness := (true, "e7e4bb89e4ce8502ac906b0a768118bd6295db72eb004f9ac8b1097b56665889"), looks := false }, kinds := [], alts := [], laidByText := true, laidKinds := [.data, .data, .data], laidTests := true, laidLooks := .later }
def InternSliceCopiesUptoCardSaid : Prop := Claim7.holds Tryd.pinned (.plain (OpenSpec.upto internSliceCopiesSpec)) internSliceCopiesUptoCard
end Rows
end Go.Proofs.YtffnkjlobflhcaaDoor
