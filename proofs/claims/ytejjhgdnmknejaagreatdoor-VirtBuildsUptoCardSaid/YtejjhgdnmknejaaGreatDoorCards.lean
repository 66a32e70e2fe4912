/-
  DERIVED. GIVEN WITH THE SEED: THE CARDS: each row of YtejjhgdnmknejaaGreatDoorRows.lean that lists a variable, with what it lists TIED to the program's text (the seventh form; the later family's looks); each row that meets fmt, with fmt's text TOLD by the authors' own Lean function (tested against real Go, not proved from fmt's source: count such statements apart). THE CARD IS WHAT COUNTS. Prove the row's statement (the work); the ties are given (YtejjhgdnmknejaaGreatDoorTie.lean); close each card by the builder's one call (the guide's Derived/Test/ToyasCard.lean, 'card_holds'). Laid BY PROGRAM, IN A SANDBOX (cutbox-door.mjs). By AI agents, Wed Nov 11 2026. No macro, syntax, notation, axiom, sorry.
-/
import Derived.Test.YtejjhgdnmknejaaGreatDoorRows
import GoSem.ClaimSeven
namespace Go.Proofs.YtejjhgdnmknejaaGreatDoor
namespace Rows

/-- THE TIED CARD OF 'bayoulaw20.VirtRuns'. -/
def virtRunsCard : Claim7 := { stood := { row := virtRunsRow, standIns := [], harness := (true, "4481af195c67782d6e3bd9834389bbcb7d33082a89b91f899c55fa846960d5b6"), looks := true }, kinds := [], alts := [], laidByText := true, laidKinds := [.handle], laidTests := true, laidLooks := .later }
def VirtRunsCardSaid : Prop := Claim7.holds Tryz.pinned (.plain (OpenSpec.ofChange virtRunsSpec)) virtRunsCard

/-- THE TIED CARD OF 'bayoulaw20.VirtOffloads'. -/
def virtOffloadsCard : Claim7 := { stood := { row := virtOffloadsRow, standIns := [], harness := (true, "4481af195c67782d6e3bd9834389bbcb7d33082a89b91f899c55fa846960d5b6"), looks := true }, kinds := [], alts := [], laidByText := true, laidKinds := [.handle], laidTests := true, laidLooks := .later }
def VirtOffloadsCardSaid : Prop := Claim7.holds Tryz.pinned (.plain (OpenSpec.ofChange virtOffloadsSpec)) virtOffloadsCard

/-- THE TIED CARD OF 'bayoulaw20.VirtBuilds'. -/
def virtBuildsCard : Claim7 := { stood := { row := virtBuildsRow, standIns := [], harness := (true, "4481af195c67782d6e3bd9834389bbcb7d33082a89b91f899c55fa846960d5b6"), looks := true }, kinds := [], alts := [], laidByText := true, laidKinds := [.handle, .data], laidTests := true, laidLooks := .later }
def VirtBuildsCardSaid : Prop := Claim7.holds Tryz.pinned (.plain (OpenSpec.ofChange virtBuildsSpec)) virtBuildsCard

/-- THE TIED CARD OF 'bayoulaw20.VirtSafe'. -/
def virtSafeCard : Claim7 := { stood := { row := virtSafeRow, standIns := [], harness := (true, "4481af195c67782d6e3bd9834389bbcb7d33082a89b91f899c55fa846960d5b6"), looks := true }, kinds := [], alts := [], laidByText := true, laidKinds := [.data], laidTests := true, laidLooks := .later }
def VirtSafeCardSaid : Prop := Claim7.holds Tryz.pinned (.plain (OpenSpec.ofChange virtSafeSpec)) virtSafeCard

/-- THE SECOND FORM's CARD OF 'bayoulaw20.VirtRuns'. -/
def virtRunsUptoCard : Claim7 := { stood := { row := virtRunsUptoRow, standIns := [], harness := (true, "4481af195c67782d6e3bd9834389bbcb7d33082a89b91f899c55fa846960d5b6"), looks := true }, kinds := [], alts := [], laidByText := true, laidKinds := [.handle], laidTests := true, laidLooks := .later }
def VirtRunsUptoCardSaid : Prop := Claim7.holds Tryz.pinned (.plain (OpenSpec.upto virtRunsSpec)) virtRunsUptoCard

/-- THE SECOND FORM's CARD OF 'bayoulaw20.VirtOffloads'. -/
def virtOffloadsUptoCard : Claim7 := { stood := { row := virtOffloadsUptoRow, standIns := [], harness := (true, "4481af195c67782d6e3bd9834389bbcb7d33082a89b91f899c55fa846960d5b6"), looks := true }, kinds := [], alts := [], laidByText := true, laidKinds := [.handle], laidTests := true, laidLooks := .later }
def VirtOffloadsUptoCardSaid : Prop := Claim7.holds Tryz.pinned (.plain (OpenSpec.upto virtOffloadsSpec)) virtOffloadsUptoCard

/-- THE SECOND FORM's CARD OF 'bayoulaw20.VirtBuilds'. -/
def virtBuildsUptoCard : Claim7 := { stood := { row := virtBuildsUptoRow, standIns := [], harness := (true, "4481af195c67782d6e3bd9834389bbcb7d33082a89b91f899c55fa846960d5b6"), looks := true }, kinds := [], alts := [], laidByText := true, laidKinds := [.handle, .data], laidTests := true, laidLooks := .later }
def VirtBuildsUptoCardSaid : Prop := Claim7.holds Tryz.pinned (.plain (OpenSpec.upto virtBuildsSpec)) virtBuildsUptoCard

/-- THE SECOND FORM's CARD OF 'bayoulaw20.VirtSafe'. -/
def virtSafeUptoCard : Claim7 := { stood := { row := virtSafeUptoRow, standIns := [], harness := (true, "4481af195c67782d6e3bd9834389bbcb7d33082a89b91f899c55fa846960d5b6"), looks := true }, kinds := [], alts := [], laidByText := true, laidKinds := [.data], laidTests := true, laidLooks := .later }
def VirtSafeUptoCardSaid : Prop := Claim7.holds Tryz.pinned (.plain (OpenSpec.upto virtSafeSpec)) virtSafeUptoCard
end Rows
end Go.Proofs.YtejjhgdnmknejaaGreatDoor
