/-
  NARROWER THAN 'FOR EVERY INPUT', by the rows' own cells (each row's printed sentence says how): BuildPlaces: laid · BuildCommits: laid · BuildCloses: laid · BuildFunds: laid · BuildPenalties: laid · BuildSums: laid · BuildWaits: laid · BuildTakes: laid.
  DERIVED. THE GIVEN ROWS OF THIS SEAT. 8 by the template 'for every input the law returns true; each argument reads behind the call as it read before'; 0 by the template 'total and deterministic' (their statements: YtflcfdeanneoeaaGreatDoorTotals.lean).
  GIVEN WITH THE SEED: the statements are not yours to turn. If you find one false, say at which input.
  Laid BY PROGRAM, IN A SANDBOX (cutbox-rows.mjs): the forced cells as the released guide's own fill.sh prints them over the translation de04eef5435aed5d… (all of the seat's roots in one cut). By AI agents, Wed Nov 11 2026. No macro, syntax, notation, axiom, sorry.
-/
import Derived.Test.YtflcfdeanneoeaaGreatDoorChecked
import GoSem.Claim
import GoSem.ClaimJoined
import GoSem.ClaimMapViews
import Derived.JoinedTies
import Derived.KernelRfl
namespace Go.Proofs.YtflcfdeanneoeaaGreatDoor
/- THE CELL 'sum', in the pinned program and in every row, IS THE sha256 OF THE DUMP (.gsa) THAT YtflcfdeanneoeaaGreatDoorProg.lean LOADS. Nothing in Lean hashes anything: it is a label: what it is worth is what the hold of that sum in a sandbox is worth. -/
noncomputable def Tryz.pinned : Pinned := { name := "ytflcfdeanneoeaagreatdoor", sum := "de04eef5435aed5d1c45c465d906149ce51e3238b48eb46894c5030473cdbec0", checked := Tryz.checked }
namespace Rows
def none {H : Type} : Left H := { results := [], args := [] }

/- WHAT THE LISTED PACKAGE-LEVEL VARIABLES READ AS WHEN THE CALL BEGINS. Each datum BY PROGRAM (the guide's laid-datum.mjs) off the statement by which the dump's own 'gosem.cut.vars' lays the variable. In a bare row this is a premise. The card (YtflcfdeanneoeaaGreatDoorCards.lean) ties it to the program's text. -/
def laid_errors_errorType {H : Type} : DataW H := .iface "internal/reflectlite.rtype" (.agg [.ptr (.lit (.string [101, 114, 114, 111, 114]))])
def laid_bayou_blake_order {H : Type} : DataW H := .agg [.agg [.lit (.int .u8 0), .lit (.int .u8 1), .lit (.int .u8 2), .lit (.int .u8 3), .lit (.int .u8 4), .lit (.int .u8 5), .lit (.int .u8 6), .lit (.int .u8 7), .lit (.int .u8 8), .lit (.int .u8 9), .lit (.int .u8 10), .lit (.int .u8 11), .lit (.int .u8 12), .lit (.int .u8 13), .lit (.int .u8 14), .lit (.int .u8 15)], .agg [.lit (.int .u8 14), .lit (.int .u8 10), .lit (.int .u8 4), .lit (.int .u8 8), .lit (.int .u8 9), .lit (.int .u8 15), .lit (.int .u8 13), .lit (.int .u8 6), .lit (.int .u8 1), .lit (.int .u8 12), .lit (.int .u8 0), .lit (.int .u8 2), .lit (.int .u8 11), .lit (.int .u8 7), .lit (.int .u8 5), .lit (.int .u8 3)], .agg [.lit (.int .u8 11), .lit (.int .u8 8), .lit (.int .u8 12), .lit (.int .u8 0), .lit (.int .u8 5), .lit (.int .u8 2), .lit (.int .u8 15), .lit (.int .u8 13), .lit (.int .u8 10), .lit (.int .u8 14), .lit (.int .u8 3), .lit (.int .u8 6), .lit (.int .u8 7), .lit (.int .u8 1), .lit (.int .u8 9), .lit (.int .u8 4)], .agg [.lit (.int .u8 7), .lit (.int .u8 9), .lit (.int .u8 3), .lit (.int .u8 1), .lit (.int .u8 13), .lit (.int .u8 12), .lit (.int .u8 11), .lit (.int .u8 14), .lit (.int .u8 2), .lit (.int .u8 6), .lit (.int .u8 5), .lit (.int .u8 10), .lit (.int .u8 4), .lit (.int .u8 0), .lit (.int .u8 15), .lit (.int .u8 8)], .agg [.lit (.int .u8 9), .lit (.int .u8 0), .lit (.int .u8 5), .lit (.int .u8 7), .lit (.int .u8 2), .lit (.int .u8 4), .lit (.int .u8 10), .lit (.int .u8 15), .lit (.int .u8 14), .lit (.int .u8 1), .lit (.int .u8 11), .lit (.int .u8 12), .lit (.int .u8 6), .lit (.int .u8 8), .lit (.int .u8 3), .lit (.int .u8 13)], .agg [.lit (.int .u8 2), .lit (.int .u8 12), .lit (.int .u8 6), .lit (.int .u8 10), .lit (.int .u8 0), .lit (.int .u8 11), .lit (.int .u8 8), .lit (.int .u8 3), .lit (.int .u8 4), .lit (.int .u8 13), .lit (.int .u8 7), .lit (.int .u8 5), .lit (.int .u8 15), .lit (.int .u8 14), .lit (.int .u8 1), .lit (.int .u8 9)], .agg [.lit (.int .u8 12), .lit (.int .u8 5), .lit (.int .u8 1), .lit (.int .u8 15), .lit (.int .u8 14), .lit (.int .u8 13), .lit (.int .u8 4), .lit (.int .u8 10), .lit (.int .u8 0), .lit (.int .u8 7), .lit (.int .u8 6), .lit (.int .u8 3), .lit (.int .u8 9), .lit (.int .u8 2), .lit (.int .u8 8), .lit (.int .u8 11)], .agg [.lit (.int .u8 13), .lit (.int .u8 11), .lit (.int .u8 7), .lit (.int .u8 14), .lit (.int .u8 12), .lit (.int .u8 1), .lit (.int .u8 3), .lit (.int .u8 9), .lit (.int .u8 5), .lit (.int .u8 0), .lit (.int .u8 15), .lit (.int .u8 4), .lit (.int .u8 8), .lit (.int .u8 6), .lit (.int .u8 2), .lit (.int .u8 10)], .agg [.lit (.int .u8 6), .lit (.int .u8 15), .lit (.int .u8 14), .lit (.int .u8 9), .lit (.int .u8 11), .lit (.int .u8 3), .lit (.int .u8 0), .lit (.int .u8 8), .lit (.int .u8 12), .lit (.int .u8 2), .lit (.int .u8 13), .lit (.int .u8 7), .lit (.int .u8 1), .lit (.int .u8 4), .lit (.int .u8 10), .lit (.int .u8 5)], .agg [.lit (.int .u8 10), .lit (.int .u8 2), .lit (.int .u8 8), .lit (.int .u8 4), .lit (.int .u8 7), .lit (.int .u8 6), .lit (.int .u8 1), .lit (.int .u8 5), .lit (.int .u8 15), .lit (.int .u8 11), .lit (.int .u8 9), .lit (.int .u8 14), .lit (.int .u8 3), .lit (.int .u8 12), .lit (.int .u8 13), .lit (.int .u8 0)]]

/-- 'bayoulaw14.BuildPlaces': WHATEVER THE INPUT: true; the input reads as it did. -/
def buildPlacesSpec : ChangeSpec := { name := "buildPlaces", fn := fun _ => fun
  | [d1, d2, d3] => { results := [.lit (.bool true)], args := [d1, d2, d3] }
  | _ => none }
def buildPlacesRow : OpenClaim := { program := "ytflcfdeanneoeaagreatdoor", sum := "de04eef5435aed5d1c45c465d906149ce51e3238b48eb46894c5030473cdbec0", func := "bayou/bayoulaw14.BuildPlaces", spec := "buildPlaces", inPlace := ["internal/reflectlite.ValueOf", "(internal/reflectlite.Value).Type", "(internal/reflectlite.Value).IsNil", "internal/reflectlite.TypeOf", "(internal/reflectlite.Value).Elem", "(internal/reflectlite.Value).Set"], unfollowed := true, recurses := true, named := ["errors.errorType"], plainKeys := false, apart := false, laid := [("errors.errorType", laid_errors_errorType)] }
def BuildPlacesSaid : Prop := buildPlacesRow.holds Tryz.pinned (OpenSpec.ofChange buildPlacesSpec)

/-- ITS FALSE NEIGHBOUR: 'it returns false'. Refute it at one input. -/
def buildPlacesWrong : ChangeSpec := { name := "buildPlaces", fn := fun _ => fun
  | [d1, d2, d3] => { results := [.lit (.bool false)], args := [d1, d2, d3] }
  | _ => none }
def BuildPlacesWrongFalsely : Prop := buildPlacesRow.holds Tryz.pinned (OpenSpec.ofChange buildPlacesWrong)

/-- 'bayoulaw14.BuildCommits': WHATEVER THE INPUT: true; the input reads as it did. -/
def buildCommitsSpec : ChangeSpec := { name := "buildCommits", fn := fun _ => fun
  | [d1, d2, d3] => { results := [.lit (.bool true)], args := [d1, d2, d3] }
  | _ => none }
def buildCommitsRow : OpenClaim := { program := "ytflcfdeanneoeaagreatdoor", sum := "de04eef5435aed5d1c45c465d906149ce51e3238b48eb46894c5030473cdbec0", func := "bayou/bayoulaw14.BuildCommits", spec := "buildCommits", inPlace := ["internal/reflectlite.ValueOf", "(internal/reflectlite.Value).Type", "(internal/reflectlite.Value).IsNil", "internal/reflectlite.TypeOf", "(internal/reflectlite.Value).Elem", "(internal/reflectlite.Value).Set"], unfollowed := true, recurses := true, named := ["errors.errorType"], plainKeys := false, apart := false, laid := [("errors.errorType", laid_errors_errorType)] }
def BuildCommitsSaid : Prop := buildCommitsRow.holds Tryz.pinned (OpenSpec.ofChange buildCommitsSpec)

/-- ITS FALSE NEIGHBOUR: 'it returns false'. Refute it at one input. -/
def buildCommitsWrong : ChangeSpec := { name := "buildCommits", fn := fun _ => fun
  | [d1, d2, d3] => { results := [.lit (.bool false)], args := [d1, d2, d3] }
  | _ => none }
def BuildCommitsWrongFalsely : Prop := buildCommitsRow.holds Tryz.pinned (OpenSpec.ofChange buildCommitsWrong)

/-- 'bayoulaw14.BuildCloses': WHATEVER THE INPUT: true; the input reads as it did. -/
def buildClosesSpec : ChangeSpec := { name := "buildCloses", fn := fun _ => fun
  | [d1, d2] => { results := [.lit (.bool true)], args := [d1, d2] }
  | _ => none }
def buildClosesRow : OpenClaim := { program := "ytflcfdeanneoeaagreatdoor", sum := "de04eef5435aed5d1c45c465d906149ce51e3238b48eb46894c5030473cdbec0", func := "bayou/bayoulaw14.BuildCloses", spec := "buildCloses", inPlace := ["internal/reflectlite.ValueOf", "(internal/reflectlite.Value).Type", "(internal/reflectlite.Value).IsNil", "internal/reflectlite.TypeOf", "(internal/reflectlite.Value).Elem", "(internal/reflectlite.Value).Set"], unfollowed := true, recurses := true, named := ["errors.errorType"], plainKeys := false, apart := false, laid := [("errors.errorType", laid_errors_errorType)] }
def BuildClosesSaid : Prop := buildClosesRow.holds Tryz.pinned (OpenSpec.ofChange buildClosesSpec)

/-- ITS FALSE NEIGHBOUR: 'it returns false'. Refute it at one input. -/
def buildClosesWrong : ChangeSpec := { name := "buildCloses", fn := fun _ => fun
  | [d1, d2] => { results := [.lit (.bool false)], args := [d1, d2] }
  | _ => none }
def BuildClosesWrongFalsely : Prop := buildClosesRow.holds Tryz.pinned (OpenSpec.ofChange buildClosesWrong)

/-- 'bayoulaw14.BuildFunds': WHATEVER THE INPUT: true; the input reads as it did. -/
def buildFundsSpec : ChangeSpec := { name := "buildFunds", fn := fun _ => fun
  | [d1, d2, d3] => { results := [.lit (.bool true)], args := [d1, d2, d3] }
  | _ => none }
def buildFundsRow : OpenClaim := { program := "ytflcfdeanneoeaagreatdoor", sum := "de04eef5435aed5d1c45c465d906149ce51e3238b48eb46894c5030473cdbec0", func := "bayou/bayoulaw14.BuildFunds", spec := "buildFunds", inPlace := ["internal/reflectlite.ValueOf", "(internal/reflectlite.Value).Type", "(internal/reflectlite.Value).IsNil", "internal/reflectlite.TypeOf", "(internal/reflectlite.Value).Elem", "(internal/reflectlite.Value).Set"], unfollowed := true, recurses := true, named := ["errors.errorType"], plainKeys := false, apart := false, laid := [("errors.errorType", laid_errors_errorType)] }
def BuildFundsSaid : Prop := buildFundsRow.holds Tryz.pinned (OpenSpec.ofChange buildFundsSpec)

/-- ITS FALSE NEIGHBOUR: 'it returns false'. Refute it at one input. -/
def buildFundsWrong : ChangeSpec := { name := "buildFunds", fn := fun _ => fun
  | [d1, d2, d3] => { results := [.lit (.bool false)], args := [d1, d2, d3] }
  | _ => none }
def BuildFundsWrongFalsely : Prop := buildFundsRow.holds Tryz.pinned (OpenSpec.ofChange buildFundsWrong)

/-- 'bayoulaw14.BuildPenalties': WHATEVER THE INPUT: true; the input reads as it did. -/
def buildPenaltiesSpec : ChangeSpec := { name := "buildPenalties", fn := fun _ => fun
  | [d1, d2, d3] => { results := [.lit (.bool true)], args := [d1, d2, d3] }
  | _ => none }
def buildPenaltiesRow : OpenClaim := { program := "ytflcfdeanneoeaagreatdoor", sum := "de04eef5435aed5d1c45c465d906149ce51e3238b48eb46894c5030473cdbec0", func := "bayou/bayoulaw14.BuildPenalties", spec := "buildPenalties", inPlace := ["internal/reflectlite.ValueOf", "(internal/reflectlite.Value).Type", "(internal/reflectlite.Value).IsNil", "internal/reflectlite.TypeOf", "(internal/reflectlite.Value).Elem", "(internal/reflectlite.Value).Set"], unfollowed := true, recurses := true, named := ["bayou/blake.order", "errors.errorType"], plainKeys := false, apart := false, laid := [("errors.errorType", laid_errors_errorType), ("bayou/blake.order", laid_bayou_blake_order)] }
def BuildPenaltiesSaid : Prop := buildPenaltiesRow.holds Tryz.pinned (OpenSpec.ofChange buildPenaltiesSpec)

/-- ITS FALSE NEIGHBOUR: 'it returns false'. Refute it at one input. -/
def buildPenaltiesWrong : ChangeSpec := { name := "buildPenalties", fn := fun _ => fun
  | [d1, d2, d3] => { results := [.lit (.bool false)], args := [d1, d2, d3] }
  | _ => none }
def BuildPenaltiesWrongFalsely : Prop := buildPenaltiesRow.holds Tryz.pinned (OpenSpec.ofChange buildPenaltiesWrong)

/-- 'bayoulaw14.BuildSums': WHATEVER THE INPUT: true; the input reads as it did. -/
def buildSumsSpec : ChangeSpec := { name := "buildSums", fn := fun _ => fun
  | [d1, d2, d3] => { results := [.lit (.bool true)], args := [d1, d2, d3] }
  | _ => none }
def buildSumsRow : OpenClaim := { program := "ytflcfdeanneoeaagreatdoor", sum := "de04eef5435aed5d1c45c465d906149ce51e3238b48eb46894c5030473cdbec0", func := "bayou/bayoulaw14.BuildSums", spec := "buildSums", inPlace := ["slices.overlaps[bayou/state.Pay]", "slices.overlaps[int]"], unfollowed := true, recurses := true, named := ["bayou/blake.order"], plainKeys := false, apart := false, laid := [("bayou/blake.order", laid_bayou_blake_order)] }
def BuildSumsSaid : Prop := buildSumsRow.holds Tryz.pinned (OpenSpec.ofChange buildSumsSpec)

/-- ITS FALSE NEIGHBOUR: 'it returns false'. Refute it at one input. -/
def buildSumsWrong : ChangeSpec := { name := "buildSums", fn := fun _ => fun
  | [d1, d2, d3] => { results := [.lit (.bool false)], args := [d1, d2, d3] }
  | _ => none }
def BuildSumsWrongFalsely : Prop := buildSumsRow.holds Tryz.pinned (OpenSpec.ofChange buildSumsWrong)

/-- 'bayoulaw14.BuildWaits': WHATEVER THE INPUT: true; the input reads as it did. -/
def buildWaitsSpec : ChangeSpec := { name := "buildWaits", fn := fun _ => fun
  | [d1, d2, d3] => { results := [.lit (.bool true)], args := [d1, d2, d3] }
  | _ => none }
def buildWaitsRow : OpenClaim := { program := "ytflcfdeanneoeaagreatdoor", sum := "de04eef5435aed5d1c45c465d906149ce51e3238b48eb46894c5030473cdbec0", func := "bayou/bayoulaw14.BuildWaits", spec := "buildWaits", inPlace := ["slices.overlaps[bayou/state.Pay]", "slices.overlaps[int]", "internal/reflectlite.ValueOf", "(internal/reflectlite.Value).Type", "(internal/reflectlite.Value).IsNil", "internal/reflectlite.TypeOf", "(internal/reflectlite.Value).Elem", "(internal/reflectlite.Value).Set"], unfollowed := true, recurses := true, named := ["bayou/blake.order", "errors.errorType"], plainKeys := false, apart := false, laid := [("errors.errorType", laid_errors_errorType), ("bayou/blake.order", laid_bayou_blake_order)] }
def BuildWaitsSaid : Prop := buildWaitsRow.holds Tryz.pinned (OpenSpec.ofChange buildWaitsSpec)

/-- ITS FALSE NEIGHBOUR: 'it returns false'. Refute it at one input. -/
def buildWaitsWrong : ChangeSpec := { name := "buildWaits", fn := fun _ => fun
  | [d1, d2, d3] => { results := [.lit (.bool false)], args := [d1, d2, d3] }
  | _ => none }
def BuildWaitsWrongFalsely : Prop := buildWaitsRow.holds Tryz.pinned (OpenSpec.ofChange buildWaitsWrong)

/-- 'bayoulaw14.BuildTakes': WHATEVER THE INPUT: true; the input reads as it did. -/
def buildTakesSpec : ChangeSpec := { name := "buildTakes", fn := fun _ => fun
  | [d1, d2, d3] => { results := [.lit (.bool true)], args := [d1, d2, d3] }
  | _ => none }
def buildTakesRow : OpenClaim := { program := "ytflcfdeanneoeaagreatdoor", sum := "de04eef5435aed5d1c45c465d906149ce51e3238b48eb46894c5030473cdbec0", func := "bayou/bayoulaw14.BuildTakes", spec := "buildTakes", inPlace := ["slices.overlaps[bayou/state.Pay]", "slices.overlaps[int]", "internal/reflectlite.ValueOf", "(internal/reflectlite.Value).Type", "(internal/reflectlite.Value).IsNil", "internal/reflectlite.TypeOf", "(internal/reflectlite.Value).Elem", "(internal/reflectlite.Value).Set"], unfollowed := true, recurses := true, named := ["bayou/blake.order", "errors.errorType"], plainKeys := false, apart := false, laid := [("errors.errorType", laid_errors_errorType), ("bayou/blake.order", laid_bayou_blake_order)] }
def BuildTakesSaid : Prop := buildTakesRow.holds Tryz.pinned (OpenSpec.ofChange buildTakesSpec)

/-- ITS FALSE NEIGHBOUR: 'it returns false'. Refute it at one input. -/
def buildTakesWrong : ChangeSpec := { name := "buildTakes", fn := fun _ => fun
  | [d1, d2, d3] => { results := [.lit (.bool false)], args := [d1, d2, d3] }
  | _ => none }
def BuildTakesWrongFalsely : Prop := buildTakesRow.holds Tryz.pinned (OpenSpec.ofChange buildTakesWrong)

/- THE SECOND FORM. 'bulk': how many values and letters a reading holds, each counted each time it is reached (what is shared counts as often as it is met; a slice's spare places count too). A statement '..UptoSaid' is the law's where the arguments, and the package variables that the reading takes, are together of bulk at most 1048576: NARROWER than '..Said'. Prove '..Said' where nothing that the law and all that it calls make is longer than what came in: it says more and counts as full. Else prove '..UptoSaid'. A law counts once. -/
mutual
def uptoBulk {H : Type} : DataW H → Nat
  | .lit (.string bytes) => bytes.length + 1
  | .lit _ => 1
  | .nil => 1
  | .ptr d => uptoBulk d + 1
  | .slice elems spare => uptoBulkAll elems + uptoBulkAll spare + 1
  | .agg parts => uptoBulkAll parts + 1
  | .iface _ d => uptoBulk d + 1
  | .map entries => uptoBulkEntries entries + 1
  | .held _ => 1
def uptoBulkAll {H : Type} : List (DataW H) → Nat
  | [] => 0
  | d :: r => uptoBulk d + uptoBulkAll r
def uptoBulkEntries {H : Type} : List (Lit × DataW H) → Nat
  | [] => 0
  | x :: r => uptoBulkEntry x + uptoBulkEntries r
def uptoBulkEntry {H : Type} : Lit × DataW H → Nat
  | (.string bytes, d) => bytes.length + uptoBulk d + 1
  | (_, d) => uptoBulk d + 1
 end
def uptoSmall : (H : Type) → List (DataW H) → Bool := fun _ ds => decide (uptoBulkAll ds ≤ 1048576)
def OpenSpec.upto (s : _root_.Go.ChangeSpec) : _root_.Go.OpenSpec := { _root_.Go.OpenSpec.ofChange s with cond := some uptoSmall }

/-- 'bayoulaw14.BuildPlaces', WHERE WHAT IT READS IS OF BULK AT MOST 1048576: true; the input reads as it did. -/
def buildPlacesUptoRow : OpenClaim := { program := "ytflcfdeanneoeaagreatdoor", sum := "de04eef5435aed5d1c45c465d906149ce51e3238b48eb46894c5030473cdbec0", func := "bayou/bayoulaw14.BuildPlaces", spec := "buildPlaces", inPlace := ["internal/reflectlite.ValueOf", "(internal/reflectlite.Value).Type", "(internal/reflectlite.Value).IsNil", "internal/reflectlite.TypeOf", "(internal/reflectlite.Value).Elem", "(internal/reflectlite.Value).Set"], unfollowed := true, recurses := true, named := ["errors.errorType"], plainKeys := false, apart := false, laid := [("errors.errorType", laid_errors_errorType)], narrowed := true }
def BuildPlacesUptoSaid : Prop := buildPlacesUptoRow.holds Tryz.pinned (OpenSpec.upto buildPlacesSpec)

/-- 'bayoulaw14.BuildCommits', WHERE WHAT IT READS IS OF BULK AT MOST 1048576: true; the input reads as it did. -/
def buildCommitsUptoRow : OpenClaim := { program := "ytflcfdeanneoeaagreatdoor", sum := "de04eef5435aed5d1c45c465d906149ce51e3238b48eb46894c5030473cdbec0", func := "bayou/bayoulaw14.BuildCommits", spec := "buildCommits", inPlace := ["internal/reflectlite.ValueOf", "(internal/reflectlite.Value).Type", "(internal/reflectlite.Value).IsNil", "internal/reflectlite.TypeOf", "(internal/reflectlite.Value).Elem", "(internal/reflectlite.Value).Set"], unfollowed := true, recurses := true, named := ["errors.errorType"], plainKeys := false, apart := false, laid := [("errors.errorType", laid_errors_errorType)], narrowed := true }
def BuildCommitsUptoSaid : Prop := buildCommitsUptoRow.holds Tryz.pinned (OpenSpec.upto buildCommitsSpec)

/-- 'bayoulaw14.BuildCloses', WHERE WHAT IT READS IS OF BULK AT MOST 1048576: true; the input reads as it did. -/
def buildClosesUptoRow : OpenClaim := { program := "ytflcfdeanneoeaagreatdoor", sum := "de04eef5435aed5d1c45c465d906149ce51e3238b48eb46894c5030473cdbec0", func := "bayou/bayoulaw14.BuildCloses", spec := "buildCloses", inPlace := ["internal/reflectlite.ValueOf", "(internal/reflectlite.Value).Type", "(internal/reflectlite.Value).IsNil", "internal/reflectlite.TypeOf", "(internal/reflectlite.Value).Elem", "(internal/reflectlite.Value).Set"], unfollowed := true, recurses := true, named := ["errors.errorType"], plainKeys := false, apart := false, laid := [("errors.errorType", laid_errors_errorType)], narrowed := true }
def BuildClosesUptoSaid : Prop := buildClosesUptoRow.holds Tryz.pinned (OpenSpec.upto buildClosesSpec)

/-- 'bayoulaw14.BuildFunds', WHERE WHAT IT READS IS OF BULK AT MOST 1048576: true; the input reads as it did. -/
def buildFundsUptoRow : OpenClaim := { program := "ytflcfdeanneoeaagreatdoor", sum := "de04eef5435aed5d1c45c465d906149ce51e3238b48eb46894c5030473cdbec0", func := "bayou/bayoulaw14.BuildFunds", spec := "buildFunds", inPlace := ["internal/reflectlite.ValueOf", "(internal/reflectlite.Value).Type", "(internal/reflectlite.Value).IsNil", "internal/reflectlite.TypeOf", "(internal/reflectlite.Value).Elem", "(internal/reflectlite.Value).Set"], unfollowed := true, recurses := true, named := ["errors.errorType"], plainKeys := false, apart := false, laid := [("errors.errorType", laid_errors_errorType)], narrowed := true }
def BuildFundsUptoSaid : Prop := buildFundsUptoRow.holds Tryz.pinned (OpenSpec.upto buildFundsSpec)

/-- 'bayoulaw14.BuildPenalties', WHERE WHAT IT READS IS OF BULK AT MOST 1048576: true; the input reads as it did. -/
def buildPenaltiesUptoRow : OpenClaim := { program := "ytflcfdeanneoeaagreatdoor", sum := "de04eef5435aed5d1c45c465d906149ce51e3238b48eb46894c5030473cdbec0", func := "bayou/bayoulaw14.BuildPenalties", spec := "buildPenalties", inPlace := ["internal/reflectlite.ValueOf", "(internal/reflectlite.Value).Type", "(internal/reflectlite.Value).IsNil", "internal/reflectlite.TypeOf", "(internal/reflectlite.Value).Elem", "(internal/reflectlite.Value).Set"], unfollowed := true, recurses := true, named := ["bayou/blake.order", "errors.errorType"], plainKeys := false, apart := false, laid := [("errors.errorType", laid_errors_errorType), ("bayou/blake.order", laid_bayou_blake_order)], narrowed := true }
def BuildPenaltiesUptoSaid : Prop := buildPenaltiesUptoRow.holds Tryz.pinned (OpenSpec.upto buildPenaltiesSpec)

/-- 'bayoulaw14.BuildSums', WHERE WHAT IT READS IS OF BULK AT MOST 1048576: true; the input reads as it did. -/
def buildSumsUptoRow : OpenClaim := { program := "ytflcfdeanneoeaagreatdoor", sum := "de04eef5435aed5d1c45c465d906149ce51e3238b48eb46894c5030473cdbec0", func := "bayou/bayoulaw14.BuildSums", spec := "buildSums", inPlace := ["slices.overlaps[bayou/state.Pay]", "slices.overlaps[int]"], unfollowed := true, recurses := true, named := ["bayou/blake.order"], plainKeys := false, apart := false, laid := [("bayou/blake.order", laid_bayou_blake_order)], narrowed := true }
def BuildSumsUptoSaid : Prop := buildSumsUptoRow.holds Tryz.pinned (OpenSpec.upto buildSumsSpec)

/-- 'bayoulaw14.BuildWaits', WHERE WHAT IT READS IS OF BULK AT MOST 1048576: true; the input reads as it did. -/
def buildWaitsUptoRow : OpenClaim := { program := "ytflcfdeanneoeaagreatdoor", sum := "de04eef5435aed5d1c45c465d906149ce51e3238b48eb46894c5030473cdbec0", func := "bayou/bayoulaw14.BuildWaits", spec := "buildWaits", inPlace := ["slices.overlaps[bayou/state.Pay]", "slices.overlaps[int]", "internal/reflectlite.ValueOf", "(internal/reflectlite.Value).Type", "(internal/reflectlite.Value).IsNil", "internal/reflectlite.TypeOf", "(internal/reflectlite.Value).Elem", "(internal/reflectlite.Value).Set"], unfollowed := true, recurses := true, named := ["bayou/blake.order", "errors.errorType"], plainKeys := false, apart := false, laid := [("errors.errorType", laid_errors_errorType), ("bayou/blake.order", laid_bayou_blake_order)], narrowed := true }
def BuildWaitsUptoSaid : Prop := buildWaitsUptoRow.holds Tryz.pinned (OpenSpec.upto buildWaitsSpec)

/-- 'bayoulaw14.BuildTakes', WHERE WHAT IT READS IS OF BULK AT MOST 1048576: true; the input reads as it did. -/
def buildTakesUptoRow : OpenClaim := { program := "ytflcfdeanneoeaagreatdoor", sum := "de04eef5435aed5d1c45c465d906149ce51e3238b48eb46894c5030473cdbec0", func := "bayou/bayoulaw14.BuildTakes", spec := "buildTakes", inPlace := ["slices.overlaps[bayou/state.Pay]", "slices.overlaps[int]", "internal/reflectlite.ValueOf", "(internal/reflectlite.Value).Type", "(internal/reflectlite.Value).IsNil", "internal/reflectlite.TypeOf", "(internal/reflectlite.Value).Elem", "(internal/reflectlite.Value).Set"], unfollowed := true, recurses := true, named := ["bayou/blake.order", "errors.errorType"], plainKeys := false, apart := false, laid := [("errors.errorType", laid_errors_errorType), ("bayou/blake.order", laid_bayou_blake_order)], narrowed := true }
def BuildTakesUptoSaid : Prop := buildTakesUptoRow.holds Tryz.pinned (OpenSpec.upto buildTakesSpec)

end Rows
end Go.Proofs.YtflcfdeanneoeaaGreatDoor
