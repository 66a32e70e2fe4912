/-
  DERIVED. GIVEN WITH THE SEED: THE CARDS: each row of YtbbcofojjgofmaaDoorRows.lean that lists a variable, with what it lists TIED to the program's text (the seventh form; the later family's looks); each row that meets fmt, with fmt's text TOLD by the authors' own Lean function (tested against real Go, not proved from fmt's source: count such statements apart). THE CARD IS WHAT COUNTS. Prove the row's statement (the work); the ties are given (YtbbcofojjgofmaaDoorTie.lean); close each card by the builder's one call (the guide's Derived/Test/ToyasCard.lean, 'card_holds'). Laid BY PROGRAM, IN A SANDBOX (cutbox-door.mjs). By AI agents, Wed Nov 11 2026. No macro, syntax, notation, axiom, sorry.
-/
import Derived.Test.YtbbcofojjgofmaaDoorRows
import GoSem.ClaimSeven
namespace Go.Proofs.YtbbcofojjgofmaaDoor
namespace Rows

/-- THE TIED CARD OF 'bayoulaw01.EncInts'. -/
def encIntsCard : Claim7 := { stood := { row := encIntsRow, standIns := [], harness := (true, "71dbac421d5426b170e897b1cc743f9206521e7e6ba38130fe35538a167ff58a"), looks := true }, kinds := [], alts := [], laidByText := true, laidKinds := [.handle], laidTests := true, laidLooks := .later }
def EncIntsCardSaid : Prop := Claim7.holds Tryd.pinned (.plain (OpenSpec.ofChange encIntsSpec)) encIntsCard

/-- THE TIED CARD OF 'bayoulaw01.EncStrings'. -/
def encStringsCard : Claim7 := { stood := { row := encStringsRow, standIns := [], harness := (true, "71dbac421d5426b170e897b1cc743f9206521e7e6ba38130fe35538a167ff58a"), looks := true }, kinds := [], alts := [], laidByText := true, laidKinds := [.handle], laidTests := true, laidLooks := .later }
def EncStringsCardSaid : Prop := Claim7.holds Tryd.pinned (.plain (OpenSpec.ofChange encStringsSpec)) encStringsCard

/-- THE TIED CARD OF 'bayoulaw01.EncTakes'. -/
def encTakesCard : Claim7 := { stood := { row := encTakesRow, standIns := [], harness := (true, "71dbac421d5426b170e897b1cc743f9206521e7e6ba38130fe35538a167ff58a"), looks := true }, kinds := [], alts := [], laidByText := true, laidKinds := [.handle], laidTests := true, laidLooks := .later }
def EncTakesCardSaid : Prop := Claim7.holds Tryd.pinned (.plain (OpenSpec.ofChange encTakesSpec)) encTakesCard

/-- THE SECOND FORM's CARD OF 'bayoulaw01.EncInts'. -/
def encIntsUptoCard : Claim7 := { stood := { row := encIntsUptoRow, standIns := [], harness := (true, "71dbac421d5426b170e897b1cc743f9206521e7e6ba38130fe35538a167ff58a"), looks := true }, kinds := [], alts := [], laidByText := true, laidKinds := [.handle], laidTests := true, laidLooks := .later }
def EncIntsUptoCardSaid : Prop := Claim7.holds Tryd.pinned (.plain (OpenSpec.upto encIntsSpec)) encIntsUptoCard

/-- THE SECOND FORM's CARD OF 'bayoulaw01.EncStrings'. -/
def encStringsUptoCard : Claim7 := { stood := { row := encStringsUptoRow, standIns := [], harness := (true, "71dbac421d5426b170e897b1cc743f9206521e7e6ba38130fe35538a167ff58a"), looks := true }, kinds := [], alts := [], laidByText := true, laidKinds := [.handle], laidTests := true, laidLooks := .later }
def EncStringsUptoCardSaid : Prop := Claim7.holds Tryd.pinned (.plain (OpenSpec.upto encStringsSpec)) encStringsUptoCard

/-- THE SECOND FORM's CARD OF 'bayoulaw01.EncTakes'. -/
def encTakesUptoCard : Claim7 := { stood := { row := encTakesUptoRow, standIns := [], harness := (true, "71dbac421d5426b170e897b1cc743f9206521e7e6ba38130fe35538a167ff58a"), looks := true }, kinds := [], alts := [], laidByText := true, laidKinds := [.handle], laidTests := true, laidLooks := .later }
def EncTakesUptoCardSaid : Prop := Claim7.holds Tryd.pinned (.plain (OpenSpec.upto encTakesSpec)) encTakesUptoCard
end Rows
end Go.Proofs.YtbbcofojjgofmaaDoor
