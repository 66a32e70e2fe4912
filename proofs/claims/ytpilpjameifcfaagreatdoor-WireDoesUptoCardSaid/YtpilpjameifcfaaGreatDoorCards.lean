/-
  DERIVED. GIVEN WITH THE SEED: THE CARDS: each row of YtpilpjameifcfaaGreatDoorRows.lean that lists a variable, with what it lists TIED to the program's text (the seventh form; the later family's looks); each row that meets fmt, with fmt's text TOLD by the authors' own Lean function (tested against real Go, not proved from fmt's source: count such statements apart). THE CARD IS WHAT COUNTS. Prove the row's statement (the work); the ties are given (YtpilpjameifcfaaGreatDoorTie.lean); close each card by the builder's one call (the guide's Derived/Test/ToyasCard.lean, 'card_holds'). Laid BY PROGRAM, IN A SANDBOX (cutbox-door.mjs). By AI agents, Wed Nov 11 2026. No macro, syntax, notation, axiom, sorry.
-/
import Derived.Test.YtpilpjameifcfaaGreatDoorRows
import GoSem.ClaimSeven
namespace Go.Proofs.YtpilpjameifcfaaGreatDoor
namespace Rows

/-- THE TIED CARD OF 'bayoulaw15.WireDoes'. -/
def wireDoesCard : Claim7 := { stood := { row := wireDoesRow, standIns := [], harness := (true, "a21f4c540b344b3e10017ab2cbc310c5d5f3e26b56330a5a17ef9c803b4e179c"), looks := true }, kinds := [], alts := [], laidByText := true, laidKinds := [.handle, .data], laidTests := true, laidLooks := .later }
def WireDoesCardSaid : Prop := Claim7.holds Tryz.pinned (.plain (OpenSpec.ofChange wireDoesSpec)) wireDoesCard

/-- THE TIED CARD OF 'bayoulaw15.WireBytes'. -/
def wireBytesCard : Claim7 := { stood := { row := wireBytesRow, standIns := [], harness := (true, "a21f4c540b344b3e10017ab2cbc310c5d5f3e26b56330a5a17ef9c803b4e179c"), looks := true }, kinds := [], alts := [], laidByText := true, laidKinds := [.handle, .data], laidTests := true, laidLooks := .later }
def WireBytesCardSaid : Prop := Claim7.holds Tryz.pinned (.plain (OpenSpec.ofChange wireBytesSpec)) wireBytesCard

/-- THE SECOND FORM's CARD OF 'bayoulaw15.WireDoes'. -/
def wireDoesUptoCard : Claim7 := { stood := { row := wireDoesUptoRow, standIns := [], harness := (true, "a21f4c540b344b3e10017ab2cbc310c5d5f3e26b56330a5a17ef9c803b4e179c"), looks := true }, kinds := [], alts := [], laidByText := true, laidKinds := [.handle, .data], laidTests := true, laidLooks := .later }
def WireDoesUptoCardSaid : Prop := Claim7.holds Tryz.pinned (.plain (OpenSpec.upto wireDoesSpec)) wireDoesUptoCard

/-- THE SECOND FORM's CARD OF 'bayoulaw15.WireBytes'. -/
def wireBytesUptoCard : Claim7 := { stood := { row := wireBytesUptoRow, standIns := [], harness := (true, "a21f4c540b344b3e10017ab2cbc310c5d5f3e26b56330a5a17ef9c803b4e179c"), looks := true }, kinds := [], alts := [], laidByText := true, laidKinds := [.handle, .data], laidTests := true, laidLooks := .later }
def WireBytesUptoCardSaid : Prop := Claim7.holds Tryz.pinned (.plain (OpenSpec.upto wireBytesSpec)) wireBytesUptoCard
end Rows
end Go.Proofs.YtpilpjameifcfaaGreatDoor
