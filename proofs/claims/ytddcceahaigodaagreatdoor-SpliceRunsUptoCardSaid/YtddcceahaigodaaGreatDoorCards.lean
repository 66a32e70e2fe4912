/-
  DERIVED. GIVEN WITH THE SEED: THE CARDS: each row of YtddcceahaigodaaGreatDoorRows.lean that lists a variable, with what it lists TIED to the program's text (the seventh form; the later family's looks); each row that meets fmt, with fmt's text TOLD by the authors' own Lean function (tested against real Go, not proved from fmt's source: count such statements apart). THE CARD IS WHAT COUNTS. Prove the row's statement (the work); the ties are given (YtddcceahaigodaaGreatDoorTie.lean); close each card by the builder's one call (the guide's Derived/Test/ToyasCard.lean, 'card_holds'). Laid BY PROGRAM, IN A SANDBOX (cutbox-door.mjs). By AI agents, Wed Nov 11 2026. No macro, syntax, notation, axiom, sorry.
-/
import Derived.Test.YtddcceahaigodaaGreatDoorRows
import GoSem.ClaimSeven
namespace Go.Proofs.YtddcceahaigodaaGreatDoor
namespace Rows

/-- THE TIED CARD OF 'bayoulaw19.SpliceRuns'. -/
def spliceRunsCard : Claim7 := { stood := { row := spliceRunsRow, standIns := [], harness := (true, "e51cf5afbc2e180ff7f9e2afaa4c77b60e104e1f3a48f32aa16f300779f34f9f"), looks := true }, kinds := [], alts := [], laidByText := true, laidKinds := [.handle, .data], laidTests := true, laidLooks := .later }
def SpliceRunsCardSaid : Prop := Claim7.holds Tryz.pinned (.plain (OpenSpec.ofChange spliceRunsSpec)) spliceRunsCard

/-- THE TIED CARD OF 'bayoulaw19.SpliceSums'. -/
def spliceSumsCard : Claim7 := { stood := { row := spliceSumsRow, standIns := [], harness := (true, "e51cf5afbc2e180ff7f9e2afaa4c77b60e104e1f3a48f32aa16f300779f34f9f"), looks := true }, kinds := [], alts := [], laidByText := true, laidKinds := [.handle, .data], laidTests := true, laidLooks := .later }
def SpliceSumsCardSaid : Prop := Claim7.holds Tryz.pinned (.plain (OpenSpec.ofChange spliceSumsSpec)) spliceSumsCard

/-- THE TIED CARD OF 'bayoulaw19.SpliceBoth'. -/
def spliceBothCard : Claim7 := { stood := { row := spliceBothRow, standIns := [], harness := (true, "e51cf5afbc2e180ff7f9e2afaa4c77b60e104e1f3a48f32aa16f300779f34f9f"), looks := true }, kinds := [], alts := [], laidByText := true, laidKinds := [.handle, .data], laidTests := true, laidLooks := .later }
def SpliceBothCardSaid : Prop := Claim7.holds Tryz.pinned (.plain (OpenSpec.ofChange spliceBothSpec)) spliceBothCard

/-- THE SECOND FORM's CARD OF 'bayoulaw19.SpliceRuns'. -/
def spliceRunsUptoCard : Claim7 := { stood := { row := spliceRunsUptoRow, standIns := [], harness := (true, "e51cf5afbc2e180ff7f9e2afaa4c77b60e104e1f3a48f32aa16f300779f34f9f"), looks := true }, kinds := [], alts := [], laidByText := true, laidKinds := [.handle, .data], laidTests := true, laidLooks := .later }
def SpliceRunsUptoCardSaid : Prop := Claim7.holds Tryz.pinned (.plain (OpenSpec.upto spliceRunsSpec)) spliceRunsUptoCard

/-- THE SECOND FORM's CARD OF 'bayoulaw19.SpliceSums'. -/
def spliceSumsUptoCard : Claim7 := { stood := { row := spliceSumsUptoRow, standIns := [], harness := (true, "e51cf5afbc2e180ff7f9e2afaa4c77b60e104e1f3a48f32aa16f300779f34f9f"), looks := true }, kinds := [], alts := [], laidByText := true, laidKinds := [.handle, .data], laidTests := true, laidLooks := .later }
def SpliceSumsUptoCardSaid : Prop := Claim7.holds Tryz.pinned (.plain (OpenSpec.upto spliceSumsSpec)) spliceSumsUptoCard

/-- THE SECOND FORM's CARD OF 'bayoulaw19.SpliceBoth'. -/
def spliceBothUptoCard : Claim7 := { stood := { row := spliceBothUptoRow, standIns := [], harness := (true, "e51cf5afbc2e180ff7f9e2afaa4c77b60e104e1f3a48f32aa16f300779f34f9f"), looks := true }, kinds := [], alts := [], laidByText := true, laidKinds := [.handle, .data], laidTests := true, laidLooks := .later }
def SpliceBothUptoCardSaid : Prop := Claim7.holds Tryz.pinned (.plain (OpenSpec.upto spliceBothSpec)) spliceBothUptoCard
end Rows
end Go.Proofs.YtddcceahaigodaaGreatDoor
