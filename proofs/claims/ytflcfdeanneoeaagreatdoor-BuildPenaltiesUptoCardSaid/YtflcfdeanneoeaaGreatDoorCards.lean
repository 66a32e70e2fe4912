/-
  DERIVED. GIVEN WITH THE SEED: THE CARDS: each row of YtflcfdeanneoeaaGreatDoorRows.lean that lists a variable, with what it lists TIED to the program's text (the seventh form; the later family's looks); each row that meets fmt, with fmt's text TOLD by the authors' own Lean function (tested against real Go, not proved from fmt's source: count such statements apart). THE CARD IS WHAT COUNTS. Prove the row's statement (the work); the ties are given (YtflcfdeanneoeaaGreatDoorTie.lean); close each card by the builder's one call (the guide's Derived/Test/ToyasCard.lean, 'card_holds'). Laid BY PROGRAM, IN A SANDBOX (cutbox-door.mjs). By AI agents, Wed Nov 11 2026. No macro, syntax, notation, axiom, sorry.
-/
import Derived.Test.YtflcfdeanneoeaaGreatDoorRows
import GoSem.ClaimSeven
namespace Go.Proofs.YtflcfdeanneoeaaGreatDoor
namespace Rows

/-- THE TIED CARD OF 'bayoulaw14.BuildPlaces'. -/
def buildPlacesCard : Claim7 := { stood := { row := buildPlacesRow, standIns := [], harness := (true, "bda48a96e9ff8fc101a4e8c638166606ecae5a29ea7f2c65c53dadc099fc3fc8"), looks := true }, kinds := [], alts := [], laidByText := true, laidKinds := [.handle], laidTests := true, laidLooks := .later }
def BuildPlacesCardSaid : Prop := Claim7.holds Tryz.pinned (.plain (OpenSpec.ofChange buildPlacesSpec)) buildPlacesCard

/-- THE TIED CARD OF 'bayoulaw14.BuildCommits'. -/
def buildCommitsCard : Claim7 := { stood := { row := buildCommitsRow, standIns := [], harness := (true, "bda48a96e9ff8fc101a4e8c638166606ecae5a29ea7f2c65c53dadc099fc3fc8"), looks := true }, kinds := [], alts := [], laidByText := true, laidKinds := [.handle], laidTests := true, laidLooks := .later }
def BuildCommitsCardSaid : Prop := Claim7.holds Tryz.pinned (.plain (OpenSpec.ofChange buildCommitsSpec)) buildCommitsCard

/-- THE TIED CARD OF 'bayoulaw14.BuildCloses'. -/
def buildClosesCard : Claim7 := { stood := { row := buildClosesRow, standIns := [], harness := (true, "bda48a96e9ff8fc101a4e8c638166606ecae5a29ea7f2c65c53dadc099fc3fc8"), looks := true }, kinds := [], alts := [], laidByText := true, laidKinds := [.handle], laidTests := true, laidLooks := .later }
def BuildClosesCardSaid : Prop := Claim7.holds Tryz.pinned (.plain (OpenSpec.ofChange buildClosesSpec)) buildClosesCard

/-- THE TIED CARD OF 'bayoulaw14.BuildFunds'. -/
def buildFundsCard : Claim7 := { stood := { row := buildFundsRow, standIns := [], harness := (true, "bda48a96e9ff8fc101a4e8c638166606ecae5a29ea7f2c65c53dadc099fc3fc8"), looks := true }, kinds := [], alts := [], laidByText := true, laidKinds := [.handle], laidTests := true, laidLooks := .later }
def BuildFundsCardSaid : Prop := Claim7.holds Tryz.pinned (.plain (OpenSpec.ofChange buildFundsSpec)) buildFundsCard

/-- THE TIED CARD OF 'bayoulaw14.BuildPenalties'. -/
def buildPenaltiesCard : Claim7 := { stood := { row := buildPenaltiesRow, standIns := [], harness := (true, "bda48a96e9ff8fc101a4e8c638166606ecae5a29ea7f2c65c53dadc099fc3fc8"), looks := true }, kinds := [], alts := [], laidByText := true, laidKinds := [.handle, .data], laidTests := true, laidLooks := .later }
def BuildPenaltiesCardSaid : Prop := Claim7.holds Tryz.pinned (.plain (OpenSpec.ofChange buildPenaltiesSpec)) buildPenaltiesCard

/-- THE TIED CARD OF 'bayoulaw14.BuildSums'. -/
def buildSumsCard : Claim7 := { stood := { row := buildSumsRow, standIns := [], harness := (true, "bda48a96e9ff8fc101a4e8c638166606ecae5a29ea7f2c65c53dadc099fc3fc8"), looks := true }, kinds := [], alts := [], laidByText := true, laidKinds := [.data], laidTests := true, laidLooks := .later }
def BuildSumsCardSaid : Prop := Claim7.holds Tryz.pinned (.plain (OpenSpec.ofChange buildSumsSpec)) buildSumsCard

/-- THE TIED CARD OF 'bayoulaw14.BuildWaits'. -/
def buildWaitsCard : Claim7 := { stood := { row := buildWaitsRow, standIns := [], harness := (true, "bda48a96e9ff8fc101a4e8c638166606ecae5a29ea7f2c65c53dadc099fc3fc8"), looks := true }, kinds := [], alts := [], laidByText := true, laidKinds := [.handle, .data], laidTests := true, laidLooks := .later }
def BuildWaitsCardSaid : Prop := Claim7.holds Tryz.pinned (.plain (OpenSpec.ofChange buildWaitsSpec)) buildWaitsCard

/-- THE TIED CARD OF 'bayoulaw14.BuildTakes'. -/
def buildTakesCard : Claim7 := { stood := { row := buildTakesRow, standIns := [], harness := (true, "bda48a96e9ff8fc101a4e8c638166606ecae5a29ea7f2c65c53dadc099fc3fc8"), looks := true }, kinds := [], alts := [], laidByText := true, laidKinds := [.handle, .data], laidTests := true, laidLooks := .later }
def BuildTakesCardSaid : Prop := Claim7.holds Tryz.pinned (.plain (OpenSpec.ofChange buildTakesSpec)) buildTakesCard

/-- THE SECOND FORM's CARD OF 'bayoulaw14.BuildPlaces'. -/
def buildPlacesUptoCard : Claim7 := { stood := { row := buildPlacesUptoRow, standIns := [], harness := (true, "bda48a96e9ff8fc101a4e8c638166606ecae5a29ea7f2c65c53dadc099fc3fc8"), looks := true }, kinds := [], alts := [], laidByText := true, laidKinds := [.handle], laidTests := true, laidLooks := .later }
def BuildPlacesUptoCardSaid : Prop := Claim7.holds Tryz.pinned (.plain (OpenSpec.upto buildPlacesSpec)) buildPlacesUptoCard

/-- THE SECOND FORM's CARD OF 'bayoulaw14.BuildCommits'. -/
def buildCommitsUptoCard : Claim7 := { stood := { row := buildCommitsUptoRow, standIns := [], harness := (true, "bda48a96e9ff8fc101a4e8c638166606ecae5a29ea7f2c65c53dadc099fc3fc8"), looks := true }, kinds := [], alts := [], laidByText := true, laidKinds := [.handle], laidTests := true, laidLooks := .later }
def BuildCommitsUptoCardSaid : Prop := Claim7.holds Tryz.pinned (.plain (OpenSpec.upto buildCommitsSpec)) buildCommitsUptoCard

/-- THE SECOND FORM's CARD OF 'bayoulaw14.BuildCloses'. -/
def buildClosesUptoCard : Claim7 := { stood := { row := buildClosesUptoRow, standIns := [], harness := (true, "bda48a96e9ff8fc101a4e8c638166606ecae5a29ea7f2c65c53dadc099fc3fc8"), looks := true }, kinds := [], alts := [], laidByText := true, laidKinds := [.handle], laidTests := true, laidLooks := .later }
def BuildClosesUptoCardSaid : Prop := Claim7.holds Tryz.pinned (.plain (OpenSpec.upto buildClosesSpec)) buildClosesUptoCard

/-- THE SECOND FORM's CARD OF 'bayoulaw14.BuildFunds'. -/
def buildFundsUptoCard : Claim7 := { stood := { row := buildFundsUptoRow, standIns := [], harness := (true, "bda48a96e9ff8fc101a4e8c638166606ecae5a29ea7f2c65c53dadc099fc3fc8"), looks := true }, kinds := [], alts := [], laidByText := true, laidKinds := [.handle], laidTests := true, laidLooks := .later }
def BuildFundsUptoCardSaid : Prop := Claim7.holds Tryz.pinned (.plain (OpenSpec.upto buildFundsSpec)) buildFundsUptoCard

/-- THE SECOND FORM's CARD OF 'bayoulaw14.BuildPenalties'. -/
def buildPenaltiesUptoCard : Claim7 := { stood := { row := buildPenaltiesUptoRow, standIns := [], harness := (true, "bda48a96e9ff8fc101a4e8c638166606ecae5a29ea7f2c65c53dadc099fc3fc8"), looks := true }, kinds := [], alts := [], laidByText := true, laidKinds := [.handle, .data], laidTests := true, laidLooks := .later }
def BuildPenaltiesUptoCardSaid : Prop := Claim7.holds Tryz.pinned (.plain (OpenSpec.upto buildPenaltiesSpec)) buildPenaltiesUptoCard

/-- THE SECOND FORM's CARD OF 'bayoulaw14.BuildSums'. -/
def buildSumsUptoCard : Claim7 := { stood := { row := buildSumsUptoRow, standIns := [], harness := (true, "bda48a96e9ff8fc101a4e8c638166606ecae5a29ea7f2c65c53dadc099fc3fc8"), looks := true }, kinds := [], alts := [], laidByText := true, laidKinds := [.data], laidTests := true, laidLooks := .later }
def BuildSumsUptoCardSaid : Prop := Claim7.holds Tryz.pinned (.plain (OpenSpec.upto buildSumsSpec)) buildSumsUptoCard

/-- THE SECOND FORM's CARD OF 'bayoulaw14.BuildWaits'. -/
def buildWaitsUptoCard : Claim7 := { stood := { row := buildWaitsUptoRow, standIns := [], harness := (true, "bda48a96e9ff8fc101a4e8c638166606ecae5a29ea7f2c65c53dadc099fc3fc8"), looks := true }, kinds := [], alts := [], laidByText := true, laidKinds := [.handle, .data], laidTests := true, laidLooks := .later }
def BuildWaitsUptoCardSaid : Prop := Claim7.holds Tryz.pinned (.plain (OpenSpec.upto buildWaitsSpec)) buildWaitsUptoCard

/-- THE SECOND FORM's CARD OF 'bayoulaw14.BuildTakes'. -/
def buildTakesUptoCard : Claim7 := { stood := { row := buildTakesUptoRow, standIns := [], harness := (true, "bda48a96e9ff8fc101a4e8c638166606ecae5a29ea7f2c65c53dadc099fc3fc8"), looks := true }, kinds := [], alts := [], laidByText := true, laidKinds := [.handle, .data], laidTests := true, laidLooks := .later }
def BuildTakesUptoCardSaid : Prop := Claim7.holds Tryz.pinned (.plain (OpenSpec.upto buildTakesSpec)) buildTakesUptoCard
end Rows
end Go.Proofs.YtflcfdeanneoeaaGreatDoor
