/-
  DERIVED. GIVEN WITH THE SEED: THE CARDS: each row of YtpilpjameifcfaaDoorRows.lean that lists a variable, with what it lists TIED to the program's text (the seventh form; the later family's looks); each row that meets fmt, with fmt's text TOLD by the authors' own Lean function (tested against real Go, not proved from fmt's source: count such statements apart). THE CARD IS WHAT COUNTS. Prove the row's statement (the work); the ties are given (YtpilpjameifcfaaDoorTie.lean); close each card by the builder's one call (the guide's Derived/Test/ToyasCard.lean, 'card_holds'). Laid BY PROGRAM, IN A SANDBOX (cutbox-door.mjs). By AI agents, Wed Nov 11 2026. No macro, syntax, notation, axiom, sorry.
-/
import Derived.Test.YtpilpjameifcfaaDoorRows
import GoSem.ClaimSeven
namespace Go.Proofs.YtpilpjameifcfaaDoor
namespace Rows

/-- THE TIED CARD OF 'bayoulaw15.WireGives'. -/
def wireGivesCard : Claim7 := { stood := { row := wireGivesRow, standIns := [], harness := (true, "bbea5307a47bbb59a17a81833e3b2c515ca4a340358406b7655df291393f9b94"), looks := true }, kinds := [], alts := [], laidByText := true, laidKinds := [.data], laidTests := true, laidLooks := .later }
def WireGivesCardSaid : Prop := Claim7.holds Tryd.pinned (.plain (OpenSpec.ofChange wireGivesSpec)) wireGivesCard

/-- THE TIED CARD OF 'bayoulaw15.WireBack'. -/
def wireBackCard : Claim7 := { stood := { row := wireBackRow, standIns := [], harness := (true, "bbea5307a47bbb59a17a81833e3b2c515ca4a340358406b7655df291393f9b94"), looks := true }, kinds := [], alts := [], laidByText := true, laidKinds := [.data], laidTests := true, laidLooks := .later }
def WireBackCardSaid : Prop := Claim7.holds Tryd.pinned (.plain (OpenSpec.ofChange wireBackSpec)) wireBackCard

/-- THE TIED CARD OF 'bayoulaw15.WireOps'. -/
def wireOpsCard : Claim7 := { stood := { row := wireOpsRow, standIns := [], harness := (true, "bbea5307a47bbb59a17a81833e3b2c515ca4a340358406b7655df291393f9b94"), looks := true }, kinds := [], alts := [], laidByText := true, laidKinds := [.handle, .data], laidTests := true, laidLooks := .later }
def WireOpsCardSaid : Prop := Claim7.holds Tryd.pinned (.plain (OpenSpec.ofChange wireOpsSpec)) wireOpsCard

/-- THE SECOND FORM's CARD OF 'bayoulaw15.WireGives'. -/
def wireGivesUptoCard : Claim7 := { stood := { row := wireGivesUptoRow, standIns := [], harness := (true, "bbea5307a47bbb59a17a81833e3b2c515ca4a340358406b7655df291393f9b94"), looks := true }, kinds := [], alts := [], laidByText := true, laidKinds := [.data], laidTests := true, laidLooks := .later }
def WireGivesUptoCardSaid : Prop := Claim7.holds Tryd.pinned (.plain (OpenSpec.upto wireGivesSpec)) wireGivesUptoCard

/-- THE SECOND FORM's CARD OF 'bayoulaw15.WireBack'. -/
def wireBackUptoCard : Claim7 := { stood := { row := wireBackUptoRow, standIns := [], harness := (true, "bbea5307a47bbb59a17a81833e3b2c515ca4a340358406b7655df291393f9b94"), looks := true }, kinds := [], alts := [], laidByText := true, laidKinds := [.data], laidTests := true, laidLooks := .later }
def WireBackUptoCardSaid : Prop := Claim7.holds Tryd.pinned (.plain (OpenSpec.upto wireBackSpec)) wireBackUptoCard

/-- THE SECOND FORM's CARD OF 'bayoulaw15.WireOps'. -/
def wireOpsUptoCard : Claim7 := { stood := { row := wireOpsUptoRow, standIns := [], harness := (true, "bbea5307a47bbb59a17a81833e3b2c515ca4a340358406b7655df291393f9b94"), looks := true }, kinds := [], alts := [], laidByText := true, laidKinds := [.handle, .data], laidTests := true, laidLooks := .later }
def WireOpsUptoCardSaid : Prop := Claim7.holds Tryd.pinned (.plain (OpenSpec.upto wireOpsSpec)) wireOpsUptoCard
end Rows
end Go.Proofs.YtpilpjameifcfaaDoor
