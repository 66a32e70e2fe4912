/-
  DERIVED. GIVEN WITH THE SEED: THE CARDS: each row of YtpohjnhlhfbnaaaGreatDoorRows.lean that lists a variable, with what it lists TIED to the program's text (the seventh form; the later family's looks); each row that meets fmt, with fmt's text TOLD by the authors' own Lean function (tested against real Go, not proved from fmt's source: count such statements apart). THE CARD IS WHAT COUNTS. Prove the row's statement (the work); the ties are given (YtpohjnhlhfbnaaaGreatDoorTie.lean); close each card by the builder's one call (the guide's Derived/Test/ToyasCard.lean, 'card_holds'). Laid BY PROGRAM, IN A SANDBOX (cutbox-door.mjs). By AI agents, Wed Nov 11 2026. No macro, syntax, notation, axiom, sorry.
-/
import Derived.Test.YtpohjnhlhfbnaaaGreatDoorRows
import GoSem.ClaimSeven
namespace Go.Proofs.YtpohjnhlhfbnaaaGreatDoor
namespace Rows

/-- THE TIED CARD OF 'bayoulaw13.StateChecks'. -/
def stateChecksCard : Claim7 := { stood := { row := stateChecksRow, standIns := [], harness := (true, "91a4a2e73cfe58fcc108b12f8e886e0ee0d6705849ee51e11549d56202bbb239"), looks := true }, kinds := [], alts := [], laidByText := true, laidKinds := [.handle, .data], laidTests := true, laidLooks := .later }
def StateChecksCardSaid : Prop := Claim7.holds Tryz.pinned (.plain (OpenSpec.ofChange stateChecksSpec)) stateChecksCard

/-- THE SECOND FORM's CARD OF 'bayoulaw13.StateChecks'. -/
def stateChecksUptoCard : Claim7 := { stood := { row := stateChecksUptoRow, standIns := [], harness := (true, "91a4a2e73cfe58fcc108b12f8e886e0ee0d6705849ee51e11549d56202bbb239"), looks := true }, kinds := [], alts := [], laidByText := true, laidKinds := [.handle, .data], laidTests := true, laidLooks := .later }
def StateChecksUptoCardSaid : Prop := Claim7.holds Tryz.pinned (.plain (OpenSpec.upto stateChecksSpec)) stateChecksUptoCard
end Rows
end Go.Proofs.YtpohjnhlhfbnaaaGreatDoor
