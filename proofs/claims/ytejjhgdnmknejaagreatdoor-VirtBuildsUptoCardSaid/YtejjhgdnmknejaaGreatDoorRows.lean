/-
  NARROWER THAN 'FOR EVERY INPUT', by the rows' own cells (each row's printed sentence says how): VirtRuns: laid · VirtOffloads: laid · VirtBuilds: laid · VirtSafe: laid.
  DERIVED. THE GIVEN ROWS OF THIS SEAT. 4 by the template 'for every input the law returns true; each argument reads behind the call as it read before'; 0 by the template 'total and deterministic' (their statements: YtejjhgdnmknejaaGreatDoorTotals.lean).
  GIVEN WITH THE SEED: the statements are not yours to turn. If you find one false, say at which input.
  Laid BY PROGRAM, IN A SANDBOX (cutbox-rows.mjs): the forced cells as the released guide's own fill.sh prints them over the translation 2c4e9d96626cc4d2… (all of the seat's roots in one cut). By AI agents, Wed Nov 11 2026. No macro, syntax, notation, axiom, sorry.
-/
import Derived.Test.YtejjhgdnmknejaaGreatDoorChecked
import GoSem.Claim
import GoSem.ClaimJoined
import GoSem.ClaimMapViews
import Derived.JoinedTies
import Derived.KernelRfl
namespace Go.Proofs.YtejjhgdnmknejaaGreatDoor
/- THE CELL 'sum', in the pinned program and in every row, IS THE sha256 OF THE DUMP (.gsa) THAT YtejjhgdnmknejaaGreatDoorProg.lean LOADS. Nothing in Lean hashes anything: it is a label: what it is worth is what the hold of that sum in a sandbox is worth. -/
noncomputable def Tryz.pinned : Pinned := { name := "ytejjhgdnmknejaagreatdoor", sum := "2c4e9d96626cc4d243f2cc42f0357d4626f70a8f6b947947fbc609248dc0142f", checked := Tryz.checked }
namespace Rows
def none {H : Type} : Left H := { results := [], args := [] }

/- WHAT THE LISTED PACKAGE-LEVEL VARIABLES READ AS WHEN THE CALL BEGINS. Each datum BY PROGRAM (the guide's laid-datum.mjs) off the statement by which the dump's own 'gosem.cut.vars' lays the variable. In a bare row this is a premise. The card (YtejjhgdnmknejaaGreatDoorCards.lean) ties it to the program's text. -/
def laid_errors_errorType {H : Type} : DataW H := .iface "internal/reflectlite.rtype" (.agg [.ptr (.lit (.string [101, 114, 114, 111, 114]))])
def laid_bayou_blake_order {H : Type} : DataW H := .agg [.agg [.lit (.int .u8 0), .lit (.int .u8 1), .lit (.int .u8 2), .lit (.int .u8 3), .lit (.int .u8 4), .lit (.int .u8 5), .lit (.int .u8 6), .lit (.int .u8 7), .lit (.int .u8 8), .lit (.int .u8 9), .lit (.int .u8 10), .lit (.int .u8 11), .lit (.int .u8 12), .lit (.int .u8 13), .lit (.int .u8 14), .lit (.int .u8 15)], .agg [.lit (.int .u8 14), .lit (.int .u8 10), .lit (.int .u8 4), .lit (.int .u8 8), .lit (.int .u8 9), .lit (.int .u8 15), .lit (.int .u8 13), .lit (.int .u8 6), .lit (.int .u8 1), .lit (.int .u8 12), .lit (.int .u8 0), .lit (.int .u8 2), .lit (.int .u8 11), .lit (.int .u8 7), .lit (.int .u8 5), .lit (.int .u8 3)], .agg [.lit (.int .u8 11), .lit (.int .u8 8), .lit (.int .u8 12), .lit (.int .u8 0), .lit (.int .u8 5), .lit (.int .u8 2), .lit (.int .u8 15), .lit (.int .u8 13), .lit (.int .u8 10), .lit (.int .u8 14), .lit (.int .u8 3), .lit (.int .u8 6), .lit (.int .u8 7), .lit (.int .u8 1), .lit (.int .u8 9), .lit (.int .u8 4)], .agg [.lit (.int .u8 7), .lit (.int .u8 9), .lit (.int .u8 3), .lit (.int .u8 1), .lit (.int .u8 13), .lit (.int .u8 12), .lit (.int .u8 11), .lit (.int .u8 14), .lit (.int .u8 2), .lit (.int .u8 6), .lit (.int .u8 5), .lit (.int .u8 10), .lit (.int .u8 4), .lit (.int .u8 0), .lit (.int .u8 15), .lit (.int .u8 8)], .agg [.lit (.int .u8 9), .lit (.int .u8 0), .lit (.int .u8 5), .lit (.int .u8 7), .lit (.int .u8 2), .lit (.int .u8 4), .lit (.int .u8 10), .lit (.int .u8 15), .lit (.int .u8 14), .lit (.int .u8 1), .lit (.int .u8 11), .lit (.int .u8 12), .lit (.int .u8 6), .lit (.int .u8 8), .lit (.int .u8 3), .lit (.int .u8 13)], .agg [.lit (.int .u8 2), .lit (.int .u8 12), .lit (.int .u8 6), .lit (.int .u8 10), .lit (.int .u8 0), .lit (.int .u8 11), .lit (.int .u8 8), .lit (.int .u8 3), .lit (.int .u8 4), .lit (.int .u8 13), .lit (.int .u8 7), .lit (.int .u8 5), .lit (.int .u8 15), .lit (.int .u8 14), .lit (.int .u8 1), .lit (.int .u8 9)], .agg [.lit (.int .u8 12), .lit (.int .u8 5), .lit (.int .u8 1), .lit (.int .u8 15), .lit (.int .u8 14), .lit (.int .u8 13), .lit (.int .u8 4), .lit (.int .u8 10), .lit (.int .u8 0), .lit (.int .u8 7), .lit (.int .u8 6), .lit (.int .u8 3), .lit (.int .u8 9), .lit (.int .u8 2), .lit (.int .u8 8), .lit (.int .u8 11)], .agg [.lit (.int .u8 13), .lit (.int .u8 11), .lit (.int .u8 7), .lit (.int .u8 14), .lit (.int .u8 12), .lit (.int .u8 1), .lit (.int .u8 3), .lit (.int .u8 9), .lit (.int .u8 5), .lit (.int .u8 0), .lit (.int .u8 15), .lit (.int .u8 4), .lit (.int .u8 8), .lit (.int .u8 6), .lit (.int .u8 2), .lit (.int .u8 10)], .agg [.lit (.int .u8 6), .lit (.int .u8 15), .lit (.int .u8 14), .lit (.int .u8 9), .lit (.int .u8 11), .lit (.int .u8 3), .lit (.int .u8 0), .lit (.int .u8 8), .lit (.int .u8 12), .lit (.int .u8 2), .lit (.int .u8 13), .lit (.int .u8 7), .lit (.int .u8 1), .lit (.int .u8 4), .lit (.int .u8 10), .lit (.int .u8 5)], .agg [.lit (.int .u8 10), .lit (.int .u8 2), .lit (.int .u8 8), .lit (.int .u8 4), .lit (.int .u8 7), .lit (.int .u8 6), .lit (.int .u8 1), .lit (.int .u8 5), .lit (.int .u8 15), .lit (.int .u8 11), .lit (.int .u8 9), .lit (.int .u8 14), .lit (.int .u8 3), .lit (.int .u8 12), .lit (.int .u8 13), .lit (.int .u8 0)]]

/-- 'bayoulaw20.VirtRuns': WHATEVER THE INPUT: true; the input reads as it did. -/
def virtRunsSpec : ChangeSpec := { name := "virtRuns", fn := fun _ => fun
  | [d1, d2, d3] => { results := [.lit (.bool true)], args := [d1, d2, d3] }
  | _ => none }
def virtRunsRow : OpenClaim := { program := "ytejjhgdnmknejaagreatdoor", sum := "2c4e9d96626cc4d243f2cc42f0357d4626f70a8f6b947947fbc609248dc0142f", func := "bayou/bayoulaw20.VirtRuns", spec := "virtRuns", inPlace := ["slices.overlaps[bayou/state.Hold]", "internal/reflectlite.ValueOf", "(internal/reflectlite.Value).Type", "(internal/reflectlite.Value).IsNil", "internal/reflectlite.TypeOf", "(internal/reflectlite.Value).Elem", "(internal/reflectlite.Value).Set"], unfollowed := true, recurses := true, named := ["errors.errorType"], plainKeys := false, apart := false, laid := [("errors.errorType", laid_errors_errorType)] }
def VirtRunsSaid : Prop := virtRunsRow.holds Tryz.pinned (OpenSpec.ofChange virtRunsSpec)

/-- ITS FALSE NEIGHBOUR: 'it returns false'. Refute it at one input. -/
def virtRunsWrong : ChangeSpec := { name := "virtRuns", fn := fun _ => fun
  | [d1, d2, d3] => { results := [.lit (.bool false)], args := [d1, d2, d3] }
  | _ => none }
def VirtRunsWrongFalsely : Prop := virtRunsRow.holds Tryz.pinned (OpenSpec.ofChange virtRunsWrong)

/-- 'bayoulaw20.VirtOffloads': WHATEVER THE INPUT: true; the input reads as it did. -/
def virtOffloadsSpec : ChangeSpec := { name := "virtOffloads", fn := fun _ => fun
  | [d1, d2, d3] => { results := [.lit (.bool true)], args := [d1, d2, d3] }
  | _ => none }
def virtOffloadsRow : OpenClaim := { program := "ytejjhgdnmknejaagreatdoor", sum := "2c4e9d96626cc4d243f2cc42f0357d4626f70a8f6b947947fbc609248dc0142f", func := "bayou/bayoulaw20.VirtOffloads", spec := "virtOffloads", inPlace := ["internal/reflectlite.ValueOf", "(internal/reflectlite.Value).Type", "(internal/reflectlite.Value).IsNil", "internal/reflectlite.TypeOf", "(internal/reflectlite.Value).Elem", "(internal/reflectlite.Value).Set", "slices.overlaps[bayou/state.Hold]"], unfollowed := true, recurses := true, named := ["errors.errorType"], plainKeys := false, apart := false, laid := [("errors.errorType", laid_errors_errorType)] }
def VirtOffloadsSaid : Prop := virtOffloadsRow.holds Tryz.pinned (OpenSpec.ofChange virtOffloadsSpec)

/-- ITS FALSE NEIGHBOUR: 'it returns false'. Refute it at one input. -/
def virtOffloadsWrong : ChangeSpec := { name := "virtOffloads", fn := fun _ => fun
  | [d1, d2, d3] => { results := [.lit (.bool false)], args := [d1, d2, d3] }
  | _ => none }
def VirtOffloadsWrongFalsely : Prop := virtOffloadsRow.holds Tryz.pinned (OpenSpec.ofChange virtOffloadsWrong)

/-- 'bayoulaw20.VirtBuilds': WHATEVER THE INPUT: true; the input reads as it did. -/
def virtBuildsSpec : ChangeSpec := { name := "virtBuilds", fn := fun _ => fun
  | [d1, d2, d3] => { results := [.lit (.bool true)], args := [d1, d2, d3] }
  | _ => none }
def virtBuildsRow : OpenClaim := { program := "ytejjhgdnmknejaagreatdoor", sum := "2c4e9d96626cc4d243f2cc42f0357d4626f70a8f6b947947fbc609248dc0142f", func := "bayou/bayoulaw20.VirtBuilds", spec := "virtBuilds", inPlace := ["slices.overlaps[bayou/state.Hold]", "internal/reflectlite.ValueOf", "(internal/reflectlite.Value).Type", "(internal/reflectlite.Value).IsNil", "internal/reflectlite.TypeOf", "(internal/reflectlite.Value).Elem", "(internal/reflectlite.Value).Set"], unfollowed := true, recurses := true, named := ["bayou/blake.order", "errors.errorType"], plainKeys := false, apart := false, laid := [("errors.errorType", laid_errors_errorType), ("bayou/blake.order", laid_bayou_blake_order)] }
def VirtBuildsSaid : Prop := virtBuildsRow.holds Tryz.pinned (OpenSpec.ofChange virtBuildsSpec)

/-- ITS FALSE NEIGHBOUR: 'it returns false'. Refute it at one input. -/
def virtBuildsWrong : ChangeSpec := { name := "virtBuilds", fn := fun _ => fun
  | [d1, d2, d3] => { results := [.lit (.bool false)], args := [d1, d2, d3] }
  | _ => none }
def VirtBuildsWrongFalsely : Prop := virtBuildsRow.holds Tryz.pinned (OpenSpec.ofChange virtBuildsWrong)

/-- 'bayoulaw20.VirtSafe': WHATEVER THE INPUT: true; the input reads as it did. -/
def virtSafeSpec : ChangeSpec := { name := "virtSafe", fn := fun _ => fun
  | [d1, d2, d3] => { results := [.lit (.bool true)], args := [d1, d2, d3] }
  | _ => none }
def virtSafeRow : OpenClaim := { program := "ytejjhgdnmknejaagreatdoor", sum := "2c4e9d96626cc4d243f2cc42f0357d4626f70a8f6b947947fbc609248dc0142f", func := "bayou/bayoulaw20.VirtSafe", spec := "virtSafe", inPlace := ["slices.overlaps[bayou/state.Hold]", "slices.overlaps[int]"], unfollowed := true, recurses := true, named := ["bayou/blake.order"], plainKeys := false, apart := false, laid := [("bayou/blake.order", laid_bayou_blake_order)] }
def VirtSafeSaid : Prop := virtSafeRow.holds Tryz.pinned (OpenSpec.ofChange virtSafeSpec)

/-- ITS FALSE NEIGHBOUR: 'it returns false'. Refute it at one input. -/
def virtSafeWrong : ChangeSpec := { name := "virtSafe", fn := fun _ => fun
  | [d1, d2, d3] => { results := [.lit (.bool false)], args := [d1, d2, d3] }
  | _ => none }
def VirtSafeWrongFalsely : Prop := virtSafeRow.holds Tryz.pinned (OpenSpec.ofChange virtSafeWrong)

/- THE SECOND FORM. 'bulk': how many values and letters a reading holds, each counted each time it is reached (what is shared counts as often as it is met; a slice's spare places count too). A statement '..UptoSaid' is the law's where the arguments, and the package variables that the reading takes, are together of bulk at most 1048576: NARROWER than '..Said'. Prove '..Said' where nothing that the law and all that it calls make is longer than what came in: it says more and counts as full. Else prove '..UptoSaid'. A law counts once. -/
mutual
def uptoBulk {H : Type} : DataW H → Nat
  | .lit (.string bytes) => bytes.length + 1
  | .lit _ => 1
  | .nil => 1
  | .ptr d => uptoBulk d + 1
  | .slice elems spare => uptoBulkAll elems + uptoBulkAll spare + 1
  | .agg parts => uptoBulkAll parts + 1
  | .iface _ d => uptoBulk d + 1
  | .map entries => uptoBulkEntries entries + 1
  | .held _ => 1
def uptoBulkAll {H : Type} : List (DataW H) → Nat
  | [] => 0
  | d :: r => uptoBulk d + uptoBulkAll r
def uptoBulkEntries {H : Type} : List (Lit × DataW H) → Nat
  | [] => 0
  | x :: r => uptoBulkEntry x + uptoBulkEntries r
def uptoBulkEntry {H : Type} : Lit × DataW H → Nat
  | (.string bytes, d) => bytes.length + uptoBulk d + 1
  | (_, d) => uptoBulk d + 1
 end
def uptoSmall : (H : Type) → List (DataW H) → Bool := fun _ ds => decide (uptoBulkAll ds ≤ 1048576)
def OpenSpec.upto (s : _root_.Go.ChangeSpec) : _root_.Go.OpenSpec := { _root_.Go.OpenSpec.ofChange s with cond := some uptoSmall }

/-- 'bayoulaw20.VirtRuns', WHERE WHAT IT READS IS OF BULK AT MOST 1048576: true; the input reads as it did. -/
def virtRunsUptoRow : OpenClaim := { program := "ytejjhgdnmknejaagreatdoor", sum := "2c4e9d96626cc4d243f2cc42f0357d4626f70a8f6b947947fbc609248dc0142f", func := "bayou/bayoulaw20.VirtRuns", spec := "virtRuns", inPlace := ["slices.overlaps[bayou/state.Hold]", "internal/reflectlite.ValueOf", "(internal/reflectlite.Value).Type", "(internal/reflectlite.Value).IsNil", "internal/reflectlite.TypeOf", "(internal/reflectlite.Value).Elem", "(internal/reflectlite.Value).Set"], unfollowed := true, recurses := true, named := ["errors.errorType"], plainKeys := false, apart := false, laid := [("errors.errorType", laid_errors_errorType)], narrowed := true }
def VirtRunsUptoSaid : Prop := virtRunsUptoRow.holds Tryz.pinned (OpenSpec.upto virtRunsSpec)

/-- 'bayoulaw20.VirtOffloads', WHERE WHAT IT READS IS OF BULK AT MOST 1048576: true; the input reads as it did. -/
def virtOffloadsUptoRow : OpenClaim := { program := "ytejjhgdnmknejaagreatdoor", sum := "2c4e9d96626cc4d243f2cc42f0357d4626f70a8f6b947947fbc609248dc0142f", func := "bayou/bayoulaw20.VirtOffloads", spec := "virtOffloads", inPlace := ["internal/reflectlite.ValueOf", "(internal/reflectlite.Value).Type", "(internal/reflectlite.Value).IsNil", "internal/reflectlite.TypeOf", "(internal/reflectlite.Value).Elem", "(internal/reflectlite.Value).Set", "slices.overlaps[bayou/state.Hold]"], unfollowed := true, recurses := true, named := ["errors.errorType"], plainKeys := false, apart := false, laid := [("errors.errorType", laid_errors_errorType)], narrowed := true }
def VirtOffloadsUptoSaid : Prop := virtOffloadsUptoRow.holds Tryz.pinned (OpenSpec.upto virtOffloadsSpec)

/-- 'bayoulaw20.VirtBuilds', WHERE WHAT IT READS IS OF BULK AT MOST 1048576: true; the input reads as it did. -/
def virtBuildsUptoRow : OpenClaim := { program := "ytejjhgdnmknejaagreatdoor", sum := "2c4e9d96626cc4d243f2cc42f0357d4626f70a8f6b947947fbc609248dc0142f", func := "bayou/bayoulaw20.VirtBuilds", spec := "virtBuilds", inPlace := ["slices.overlaps[bayou/state.Hold]", "internal/reflectlite.ValueOf", "(internal/reflectlite.Value).Type", "(internal/reflectlite.Value).IsNil", "internal/reflectlite.TypeOf", "(internal/reflectlite.Value).Elem", "(internal/reflectlite.Value).Set"], unfollowed := true, recurses := true, named := ["bayou/blake.order", "errors.errorType"], plainKeys := false, apart := false, laid := [("errors.errorType", laid_errors_errorType), ("bayou/blake.order", laid_bayou_blake_order)], narrowed := true }
def VirtBuildsUptoSaid : Prop := virtBuildsUptoRow.holds Tryz.pinned (OpenSpec.upto virtBuildsSpec)

/-- 'bayoulaw20.VirtSafe', WHERE WHAT IT READS IS OF BULK AT MOST 1048576: true; the input reads as it did. -/
def virtSafeUptoRow : OpenClaim := { program := "ytejjhgdnmknejaagreatdoor", sum := "2c4e9d96626cc4d243f2cc42f0357d4626f70a8f6b947947fbc609248dc0142f", func := "bayou/bayoulaw20.VirtSafe", spec := "virtSafe", inPlace := ["slices.overlaps[bayou/state.Hold]", "slices.overlaps[int]"], unfollowed := true, recurses := true, named := ["bayou/blake.order"], plainKeys := false, apart := false, laid := [("bayou/blake.order", laid_bayou_blake_order)], narrowed := true }
def VirtSafeUptoSaid : Prop := virtSafeUptoRow.holds Tryz.pinned (OpenSpec.upto virtSafeSpec)

end Rows
end Go.Proofs.YtejjhgdnmknejaaGreatDoor
