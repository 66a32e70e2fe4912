/-
  DERIVED. GIVEN WITH THE SEED: THE CARDS: each row of YtoomdgmggkcgfaaDoorRows.lean that lists a variable, with what it lists TIED to the program's text (the seventh form; the later family's looks); each row that meets fmt, with fmt's text TOLD by the authors' own Lean function (tested against real Go, not proved from fmt's source: count such statements apart). THE CARD IS WHAT COUNTS. Prove the row's statement (the work); the ties are given (YtoomdgmggkcgfaaDoorTie.lean); close each card by the builder's one call (the guide's Derived/Test/ToyasCard.lean, 'card_holds'). Laid BY PROGRAM, IN A SANDBOX (cutbox-door.mjs). By AI agents, Wed Nov 11 2026. No macro, syntax, notation, axiom, sorry.
-/
import Derived.Test.YtoomdgmggkcgfaaDoorRows
import GoSem.ClaimSeven
namespace Go.Proofs.YtoomdgmggkcgfaaDoor
namespace Rows

/-- THE TIED CARD OF 'bayoulaw17.TreeNewer'. -/
def treeNewerCard : Claim7 := { stood := { row := treeNewerRow, standIns := [], harness := (true, "27034b491f81c21113a894013646c10c45dc05a95518d4525e84120da75805da"), looks := true }, kinds := [], alts := [], laidByText := true, laidKinds := [.handle], laidTests := true, laidLooks := .later }
def TreeNewerCardSaid : Prop := Claim7.holds Tryd.pinned (.plain (OpenSpec.ofChange treeNewerSpec)) treeNewerCard

/-- THE TIED CARD OF 'bayoulaw17.TreeLefts'. -/
def treeLeftsCard : Claim7 := { stood := { row := treeLeftsRow, standIns := [], harness := (true, "27034b491f81c21113a894013646c10c45dc05a95518d4525e84120da75805da"), looks := true }, kinds := [], alts := [], laidByText := true, laidKinds := [.handle], laidTests := true, laidLooks := .later }
def TreeLeftsCardSaid : Prop := Claim7.holds Tryd.pinned (.plain (OpenSpec.ofChange treeLeftsSpec)) treeLeftsCard

/-- THE TIED CARD OF 'bayoulaw17.TreeNexts'. -/
def treeNextsCard : Claim7 := { stood := { row := treeNextsRow, standIns := [], harness := (true, "27034b491f81c21113a894013646c10c45dc05a95518d4525e84120da75805da"), looks := true }, kinds := [], alts := [], laidByText := true, laidKinds := [.handle], laidTests := true, laidLooks := .later }
def TreeNextsCardSaid : Prop := Claim7.holds Tryd.pinned (.plain (OpenSpec.ofChange treeNextsSpec)) treeNextsCard

/-- THE TIED CARD OF 'bayoulaw17.TreePaths'. -/
def treePathsCard : Claim7 := { stood := { row := treePathsRow, standIns := [], harness := (true, "27034b491f81c21113a894013646c10c45dc05a95518d4525e84120da75805da"), looks := true }, kinds := [], alts := [], laidByText := true, laidKinds := [.handle], laidTests := true, laidLooks := .later }
def TreePathsCardSaid : Prop := Claim7.holds Tryd.pinned (.plain (OpenSpec.ofChange treePathsSpec)) treePathsCard

/-- THE TIED CARD OF 'bayoulaw17.TreeShares'. -/
def treeSharesCard : Claim7 := { stood := { row := treeSharesRow, standIns := [], harness := (true, "27034b491f81c21113a894013646c10c45dc05a95518d4525e84120da75805da"), looks := true }, kinds := [], alts := [], laidByText := true, laidKinds := [.data], laidTests := true, laidLooks := .later }
def TreeSharesCardSaid : Prop := Claim7.holds Tryd.pinned (.plain (OpenSpec.ofChange treeSharesSpec)) treeSharesCard

/-- THE SECOND FORM's CARD OF 'bayoulaw17.TreeNewer'. -/
def treeNewerUptoCard : Claim7 := { stood := { row := treeNewerUptoRow, standIns := [], harness := (true, "27034b491f81c21113a894013646c10c45dc05a95518d4525e84120da75805da"), looks := true }, kinds := [], alts := [], laidByText := true, laidKinds := [.handle], laidTests := true, laidLooks := .later }
def TreeNewerUptoCardSaid : Prop := Claim7.holds Tryd.pinned (.plain (OpenSpec.upto treeNewerSpec)) treeNewerUptoCard

/-- THE SECOND FORM's CARD OF 'bayoulaw17.TreeLefts'. -/
def treeLeftsUptoCard : Claim7 := { stood := { row := treeLeftsUptoRow, standIns := [], harness := (true, "27034b491f81c21113a894013646c10c45dc05a95518d4525e84120da75805da"), looks := true }, kinds := [], alts := [], laidByText := true, laidKinds := [.handle], laidTests := true, laidLooks := .later }
def TreeLeftsUptoCardSaid : Prop := Claim7.holds Tryd.pinned (.plain (OpenSpec.upto treeLeftsSpec)) treeLeftsUptoCard

/-- THE SECOND FORM's CARD OF 'bayoulaw17.TreeNexts'. -/
def treeNextsUptoCard : Claim7 := { stood := { row := treeNextsUptoRow, standIns := [], harness := (true, "27034b491f81c21113a894013646c10c45dc05a95518d4525e84120da75805da"), looks := true }, kinds := [], alts := [], laidByText := true, laidKinds := [.handle], laidTests := true, laidLooks := .later }
def TreeNextsUptoCardSaid : Prop := Claim7.holds Tryd.pinned (.plain (OpenSpec.upto treeNextsSpec)) treeNextsUptoCard

/-- THE SECOND FORM's CARD OF 'bayoulaw17.TreePaths'. -/
def treePathsUptoCard : Claim7 := { stood := { row := treePathsUptoRow, standIns := [], harness := (true, "27034b491f81c21113a894013646c10c45dc05a95518d4525e84120da75805da"), looks := true }, kinds := [], alts := [], laidByText := true, laidKinds := [.handle], laidTests := true, laidLooks := .later }
def TreePathsUptoCardSaid : Prop := Claim7.holds Tryd.pinned (.plain (OpenSpec.upto treePathsSpec)) treePathsUptoCard

/-- THE SECOND FORM's CARD OF 'bayoulaw17.TreeShares'. -/
def treeSharesUptoCard : Claim7 := { stood := { row := treeSharesUptoRow, standIns := [], harness := (true, "27034b491f81c21113a894013646c10c45dc05a95518d4525e84120da75805da"), looks := true }, kinds := [], alts := [], laidByText := true, laidKinds := [.data], laidTests := true, laidLooks := .later }
def TreeSharesUptoCardSaid : Prop := Claim7.holds Tryd.pinned (.plain (OpenSpec.upto treeSharesSpec)) treeSharesUptoCard
end Rows
end Go.Proofs.YtoomdgmggkcgfaaDoor
