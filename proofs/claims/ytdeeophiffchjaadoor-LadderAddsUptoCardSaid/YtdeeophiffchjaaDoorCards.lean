/-
  DERIVED. GIVEN WITH THE SEED: THE CARDS: each row of YtdeeophiffchjaaDoorRows.lean that lists a variable, with what it lists TIED to the program's text (the seventh form; the later family's looks); each row that meets fmt, with fmt's text TOLD by the authors' own Lean function (tested against real Go, not proved from fmt's source: count such statements apart). THE CARD IS WHAT COUNTS. Prove the row's statement (the work); the ties are given (YtdeeophiffchjaaDoorTie.lean); close each card by the builder's one call (the guide's Derived/Test/ToyasCard.lean, 'card_holds'). Laid BY PROGRAM, IN A SANDBOX (cutbox-door.mjs). By AI agents, Wed Nov 11 2026. No macro, syntax, notation, axiom, sorry.
-/
import Derived.Test.YtdeeophiffchjaaDoorRows
import GoSem.ClaimSeven
namespace Go.Proofs.YtdeeophiffchjaaDoor
namespace Rows

/-- THE TIED CARD OF 'bayoulaw11.LadderMay'. -/
def ladderMayCard : Claim7 := { stood := { row := ladderMayRow, standIns := [], harness := (true, "051b415d69d0e22aa95a39cd933ed13a0c649dda7f1238e140d9c777b8454124"), looks := true }, kinds := [], alts := [], laidByText := true, laidKinds := [.data, .data], laidTests := true, laidLooks := .later }
def LadderMayCardSaid : Prop := Claim7.holds Tryd.pinned (.plain (OpenSpec.ofChange ladderMaySpec)) ladderMayCard

/-- THE TIED CARD OF 'bayoulaw11.LadderMakes'. -/
def ladderMakesCard : Claim7 := { stood := { row := ladderMakesRow, standIns := [], harness := (true, "051b415d69d0e22aa95a39cd933ed13a0c649dda7f1238e140d9c777b8454124"), looks := true }, kinds := [], alts := [], laidByText := true, laidKinds := [.data, .handle, .data], laidTests := true, laidLooks := .later }
def LadderMakesCardSaid : Prop := Claim7.holds Tryd.pinned (.plain (OpenSpec.ofChange ladderMakesSpec)) ladderMakesCard

/-- THE TIED CARD OF 'bayoulaw11.LadderAdds'. -/
def ladderAddsCard : Claim7 := { stood := { row := ladderAddsRow, standIns := [], harness := (true, "051b415d69d0e22aa95a39cd933ed13a0c649dda7f1238e140d9c777b8454124"), looks := true }, kinds := [], alts := [], laidByText := true, laidKinds := [.data, .handle, .data], laidTests := true, laidLooks := .later }
def LadderAddsCardSaid : Prop := Claim7.holds Tryd.pinned (.plain (OpenSpec.ofChange ladderAddsSpec)) ladderAddsCard

/-- THE TIED CARD OF 'bayoulaw11.LadderGets'. -/
def ladderGetsCard : Claim7 := { stood := { row := ladderGetsRow, standIns := [], harness := (true, "051b415d69d0e22aa95a39cd933ed13a0c649dda7f1238e140d9c777b8454124"), looks := true }, kinds := [], alts := [], laidByText := true, laidKinds := [.data, .handle, .data], laidTests := true, laidLooks := .later }
def LadderGetsCardSaid : Prop := Claim7.holds Tryd.pinned (.plain (OpenSpec.ofChange ladderGetsSpec)) ladderGetsCard

/-- THE SECOND FORM's CARD OF 'bayoulaw11.LadderMay'. -/
def ladderMayUptoCard : Claim7 := { stood := { row := ladderMayUptoRow, standIns := [], harness := (true, "051b415d69d0e22aa95a39cd933ed13a0c649dda7f1238e140d9c777b8454124"), looks := true }, kinds := [], alts := [], laidByText := true, laidKinds := [.data, .data], laidTests := true, laidLooks := .later }
def LadderMayUptoCardSaid : Prop := Claim7.holds Tryd.pinned (.plain (OpenSpec.upto ladderMaySpec)) ladderMayUptoCard

/-- THE SECOND FORM's CARD OF 'bayoulaw11.LadderMakes'. -/
def ladderMakesUptoCard : Claim7 := { stood := { row := ladderMakesUptoRow, standIns := [], harness := (true, "051b415d69d0e22aa95a39cd933ed13a0c649dda7f1238e140d9c777b8454124"), looks := true }, kinds := [], alts := [], laidByText := true, laidKinds := [.data, .handle, .data], laidTests := true, laidLooks := .later }
def LadderMakesUptoCardSaid : Prop := Claim7.holds Tryd.pinned (.plain (OpenSpec.upto ladderMakesSpec)) ladderMakesUptoCard

/-- THE SECOND FORM's CARD OF 'bayoulaw11.LadderAdds'. -/
def ladderAddsUptoCard : Claim7 := { stood := { row := ladderAddsUptoRow, standIns := [], harness := (true, "051b415d69d0e22aa95a39cd933ed13a0c649dda7f1238e140d9c777b8454124"), looks := true }, kinds := [], alts := [], laidByText := true, laidKinds := [.data, .handle, .data], laidTests := true, laidLooks := .later }
def LadderAddsUptoCardSaid : Prop := Claim7.holds Tryd.pinned (.plain (OpenSpec.upto ladderAddsSpec)) ladderAddsUptoCard

/-- THE SECOND FORM's CARD OF 'bayoulaw11.LadderGets'. -/
def ladderGetsUptoCard : Claim7 := { stood := { row := ladderGetsUptoRow, standIns := [], harness := (true, "051b415d69d0e22aa95a39cd933ed13a0c649dda7f1238e140d9c777b8454124"), looks := true }, kinds := [], alts := [], laidByText := true, laidKinds := [.data, .handle, .data], laidTests := true, laidLooks := .later }
def LadderGetsUptoCardSaid : Prop := Claim7.holds Tryd.pinned (.plain (OpenSpec.upto ladderGetsSpec)) ladderGetsUptoCard
end Rows
end Go.Proofs.YtdeeophiffchjaaDoor
