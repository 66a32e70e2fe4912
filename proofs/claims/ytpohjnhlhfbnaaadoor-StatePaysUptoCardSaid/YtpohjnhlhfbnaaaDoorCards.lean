/-
  DERIVED. GIVEN WITH THE SEED: THE CARDS: each row of YtpohjnhlhfbnaaaDoorRows.lean that lists a variable, with what it lists TIED to the program's text (the seventh form; the later family's looks); each row that meets fmt, with fmt's text TOLD by the authors' own Lean function (tested against real Go, not proved from fmt's source: count such statements apart). THE CARD IS WHAT COUNTS. Prove the row's statement (the work); the ties are given (YtpohjnhlhfbnaaaDoorTie.lean); close each card by the builder's one call (the guide's Derived/Test/ToyasCard.lean, 'card_holds'). Laid BY PROGRAM, IN A SANDBOX (cutbox-door.mjs). By AI agents, Wed Nov 11 2026. No macro, syntax, notation, axiom, sorry.
-/
import Derived.Test.YtpohjnhlhfbnaaaDoorRows
import GoSem.ClaimSeven
namespace Go.Proofs.YtpohjnhlhfbnaaaDoor
namespace Rows

/-- THE TIED CARD OF 'bayoulaw13.StateMoves'. -/
def stateMovesCard : Claim7 := { stood := { row := stateMovesRow, standIns := [], harness := (true, "ce5dce8b57aa9579f420acde944b6fa28cb7a203eab8fa59655185f09567f433"), looks := true }, kinds := [], alts := [], laidByText := true, laidKinds := [.handle], laidTests := true, laidLooks := .later }
def StateMovesCardSaid : Prop := Claim7.holds Tryd.pinned (.plain (OpenSpec.ofChange stateMovesSpec)) stateMovesCard

/-- THE TIED CARD OF 'bayoulaw13.StateSizes'. -/
def stateSizesCard : Claim7 := { stood := { row := stateSizesRow, standIns := [], harness := (true, "ce5dce8b57aa9579f420acde944b6fa28cb7a203eab8fa59655185f09567f433"), looks := true }, kinds := [], alts := [], laidByText := true, laidKinds := [.handle], laidTests := true, laidLooks := .later }
def StateSizesCardSaid : Prop := Claim7.holds Tryd.pinned (.plain (OpenSpec.ofChange stateSizesSpec)) stateSizesCard

/-- THE TIED CARD OF 'bayoulaw13.StateReads'. -/
def stateReadsCard : Claim7 := { stood := { row := stateReadsRow, standIns := [], harness := (true, "ce5dce8b57aa9579f420acde944b6fa28cb7a203eab8fa59655185f09567f433"), looks := true }, kinds := [], alts := [], laidByText := true, laidKinds := [.handle], laidTests := true, laidLooks := .later }
def StateReadsCardSaid : Prop := Claim7.holds Tryd.pinned (.plain (OpenSpec.ofChange stateReadsSpec)) stateReadsCard

/-- THE TIED CARD OF 'bayoulaw13.StateKeeps'. -/
def stateKeepsCard : Claim7 := { stood := { row := stateKeepsRow, standIns := [], harness := (true, "ce5dce8b57aa9579f420acde944b6fa28cb7a203eab8fa59655185f09567f433"), looks := true }, kinds := [], alts := [], laidByText := true, laidKinds := [.data], laidTests := true, laidLooks := .later }
def StateKeepsCardSaid : Prop := Claim7.holds Tryd.pinned (.plain (OpenSpec.ofChange stateKeepsSpec)) stateKeepsCard

/-- THE TIED CARD OF 'bayoulaw13.StateBack'. -/
def stateBackCard : Claim7 := { stood := { row := stateBackRow, standIns := [], harness := (true, "ce5dce8b57aa9579f420acde944b6fa28cb7a203eab8fa59655185f09567f433"), looks := true }, kinds := [], alts := [], laidByText := true, laidKinds := [.handle, .data], laidTests := true, laidLooks := .later }
def StateBackCardSaid : Prop := Claim7.holds Tryd.pinned (.plain (OpenSpec.ofChange stateBackSpec)) stateBackCard

/-- THE TIED CARD OF 'bayoulaw13.StateHolds'. -/
def stateHoldsCard : Claim7 := { stood := { row := stateHoldsRow, standIns := [], harness := (true, "ce5dce8b57aa9579f420acde944b6fa28cb7a203eab8fa59655185f09567f433"), looks := true }, kinds := [], alts := [], laidByText := true, laidKinds := [.handle], laidTests := true, laidLooks := .later }
def StateHoldsCardSaid : Prop := Claim7.holds Tryd.pinned (.plain (OpenSpec.ofChange stateHoldsSpec)) stateHoldsCard

/-- THE TIED CARD OF 'bayoulaw13.StatePays'. -/
def statePaysCard : Claim7 := { stood := { row := statePaysRow, standIns := [], harness := (true, "ce5dce8b57aa9579f420acde944b6fa28cb7a203eab8fa59655185f09567f433"), looks := true }, kinds := [], alts := [], laidByText := true, laidKinds := [.handle, .data], laidTests := true, laidLooks := .later }
def StatePaysCardSaid : Prop := Claim7.holds Tryd.pinned (.plain (OpenSpec.ofChange statePaysSpec)) statePaysCard

/-- THE SECOND FORM's CARD OF 'bayoulaw13.StateMoves'. -/
def stateMovesUptoCard : Claim7 := { stood := { row := stateMovesUptoRow, standIns := [], harness := (true, "ce5dce8b57aa9579f420acde944b6fa28cb7a203eab8fa59655185f09567f433"), looks := true }, kinds := [], alts := [], laidByText := true, laidKinds := [.handle], laidTests := true, laidLooks := .later }
def StateMovesUptoCardSaid : Prop := Claim7.holds Tryd.pinned (.plain (OpenSpec.upto stateMovesSpec)) stateMovesUptoCard

/-- THE SECOND FORM's CARD OF 'bayoulaw13.StateSizes'. -/
def stateSizesUptoCard : Claim7 := { stood := { row := stateSizesUptoRow, standIns := [], harness := (true, "ce5dce8b57aa9579f420acde944b6fa28cb7a203eab8fa59655185f09567f433"), looks := true }, kinds := [], alts := [], laidByText := true, laidKinds := [.handle], laidTests := true, laidLooks := .later }
def StateSizesUptoCardSaid : Prop := Claim7.holds Tryd.pinned (.plain (OpenSpec.upto stateSizesSpec)) stateSizesUptoCard

/-- THE SECOND FORM's CARD OF 'bayoulaw13.StateReads'. -/
def stateReadsUptoCard : Claim7 := { stood := { row := stateReadsUptoRow, standIns := [], harness := (true, "ce5dce8b57aa9579f420acde944b6fa28cb7a203eab8fa59655185f09567f433"), looks := true }, kinds := [], alts := [], laidByText := true, laidKinds := [.handle], laidTests := true, laidLooks := .later }
def StateReadsUptoCardSaid : Prop := Claim7.holds Tryd.pinned (.plain (OpenSpec.upto stateReadsSpec)) stateReadsUptoCard

/-- THE SECOND FORM's CARD OF 'bayoulaw13.StateKeeps'. -/
def stateKeepsUptoCard : Claim7 := { stood := { row := stateKeepsUptoRow, standIns := [], harness := (true, "ce5dce8b57aa9579f420acde944b6fa28cb7a203eab8fa59655185f09567f433"), looks := true }, kinds := [], alts := [], laidByText := true, laidKinds := [.data], laidTests := true, laidLooks := .later }
def StateKeepsUptoCardSaid : Prop := Claim7.holds Tryd.pinned (.plain (OpenSpec.upto stateKeepsSpec)) stateKeepsUptoCard

/-- THE SECOND FORM's CARD OF 'bayoulaw13.StateBack'. -/
def stateBackUptoCard : Claim7 := { stood := { row := stateBackUptoRow, standIns := [], harness := (true, "ce5dce8b57aa9579f420acde944b6fa28cb7a203eab8fa59655185f09567f433"), looks := true }, kinds := [], alts := [], laidByText := true, laidKinds := [.handle, .data], laidTests := true, laidLooks := .later }
def StateBackUptoCardSaid : Prop := Claim7.holds Tryd.pinned (.plain (OpenSpec.upto stateBackSpec)) stateBackUptoCard

/-- THE SECOND FORM's CARD OF 'bayoulaw13.StateHolds'. -/
def stateHoldsUptoCard : Claim7 := { stood := { row := stateHoldsUptoRow, standIns := [], harness := (true, "ce5dce8b57aa9579f420acde944b6fa28cb7a203eab8fa59655185f09567f433"), looks := true }, kinds := [], alts := [], laidByText := true, laidKinds := [.handle], laidTests := true, laidLooks := .later }
def StateHoldsUptoCardSaid : Prop := Claim7.holds Tryd.pinned (.plain (OpenSpec.upto stateHoldsSpec)) stateHoldsUptoCard

/-- THE SECOND FORM's CARD OF 'bayoulaw13.StatePays'. -/
def statePaysUptoCard : Claim7 := { stood := { row := statePaysUptoRow, standIns := [], harness := (true, "ce5dce8b57aa9579f420acde944b6fa28cb7a203eab8fa59655185f09567f433"), looks := true }, kinds := [], alts := [], laidByText := true, laidKinds := [.handle, .data], laidTests := true, laidLooks := .later }
def StatePaysUptoCardSaid : Prop := Claim7.holds Tryd.pinned (.plain (OpenSpec.upto statePaysSpec)) statePaysUptoCard
end Rows
end Go.Proofs.YtpohjnhlhfbnaaaDoor
