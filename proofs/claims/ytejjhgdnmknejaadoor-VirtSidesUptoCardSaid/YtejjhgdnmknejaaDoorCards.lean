/-
  DERIVED. GIVEN WITH THE SEED: THE CARDS: each row of YtejjhgdnmknejaaDoorRows.lean that lists a variable, with what it lists TIED to the program's text (the seventh form; the later family's looks); each row that meets fmt, with fmt's text TOLD by the authors' own Lean function (tested against real Go, not proved from fmt's source: count such statements apart). THE CARD IS WHAT COUNTS. Prove the row's statement (the work); the ties are given (YtejjhgdnmknejaaDoorTie.lean); close each card by the builder's one call (the guide's Derived/Test/ToyasCard.lean, 'card_holds'). Laid BY PROGRAM, IN A SANDBOX (cutbox-door.mjs). By AI agents, Wed Nov 11 2026. No macro, syntax, notation, axiom, sorry.
-/
import Derived.Test.YtejjhgdnmknejaaDoorRows
import GoSem.ClaimSeven
namespace Go.Proofs.YtejjhgdnmknejaaDoor
namespace Rows

/-- THE TIED CARD OF 'bayoulaw20.VirtSides'. -/
def virtSidesCard : Claim7 := { stood := { row := virtSidesRow, standIns := [], harness := (true, "6e03950705824fc36a62e13e4efb89e65ed594ff48a61ac57c3e1d355d094f25"), looks := true }, kinds := [], alts := [], laidByText := true, laidKinds := [.handle], laidTests := true, laidLooks := .later }
def VirtSidesCardSaid : Prop := Claim7.holds Tryd.pinned (.plain (OpenSpec.ofChange virtSidesSpec)) virtSidesCard

/-- THE SECOND FORM's CARD OF 'bayoulaw20.VirtSides'. -/
def virtSidesUptoCard : Claim7 := { stood := { row := virtSidesUptoRow, standIns := [], harness := (true, "6e03950705824fc36a62e13e4efb89e65ed594ff48a61ac57c3e1d355d094f25"), looks := true }, kinds := [], alts := [], laidByText := true, laidKinds := [.handle], laidTests := true, laidLooks := .later }
def VirtSidesUptoCardSaid : Prop := Claim7.holds Tryd.pinned (.plain (OpenSpec.upto virtSidesSpec)) virtSidesUptoCard
end Rows
end Go.Proofs.YtejjhgdnmknejaaDoor
