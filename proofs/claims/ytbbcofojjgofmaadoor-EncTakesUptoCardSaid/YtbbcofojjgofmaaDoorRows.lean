/-
  NARROWER THAN 'FOR EVERY INPUT', by the rows' own cells (each row's printed sentence says how): EncInts: laid · EncStrings: laid · EncTakes: laid.
  DERIVED. THE GIVEN ROWS OF THIS SEAT. 3 by the template 'for every input the law returns true; each argument reads behind the call as it read before'; 0 by the template 'total and deterministic' (their statements: YtbbcofojjgofmaaDoorTotals.lean).
  GIVEN WITH THE SEED: the statements are not yours to turn. If you find one false, say at which input.
  Laid BY PROGRAM, IN A SANDBOX (cutbox-rows.mjs): the forced cells as the released guide's own fill.sh prints them over the translation 47e8bbdbc05436de… (all of the seat's roots in one cut). By AI agents, Wed Nov 11 2026. No macro, syntax, notation, axiom, sorry.
-/
import Derived.Test.YtbbcofojjgofmaaDoorChecked
import GoSem.Claim
import GoSem.ClaimJoined
import GoSem.ClaimMapViews
import Derived.JoinedTies
import Derived.KernelRfl
namespace Go.Proofs.YtbbcofojjgofmaaDoor
/- THE CELL 'sum', in the pinned program and in every row, IS THE sha256 OF THE DUMP (.gsa) THAT YtbbcofojjgofmaaDoorProg.lean LOADS. Nothing in Lean hashes anything: it is a label: what it is worth is what the hold of that sum in a sandbox is worth. -/
noncomputable def Tryd.pinned : Pinned := { name := "ytbbcofojjgofmaadoor", sum := "47e8bbdbc05436de9a56e224288762dfcce8b2a6846a4a9c220f93c1dd5e0f19", checked := Tryd.checked }
namespace Rows
def none {H : Type} : Left H := { results := [], args := [] }

/- WHAT THE LISTED PACKAGE-LEVEL VARIABLES READ AS WHEN THE CALL BEGINS. Each datum BY PROGRAM (the guide's laid-datum.mjs) off the statement by which the dump's own 'gosem.cut.vars' lays the variable. In a bare row this is a premise. The card (YtbbcofojjgofmaaDoorCards.lean) ties it to the program's text. -/
def laid_errors_errorType {H : Type} : DataW H := .iface "internal/reflectlite.rtype" (.agg [.ptr (.lit (.string [101, 114, 114, 111, 114]))])

/-- 'bayoulaw01.EncInts': WHATEVER THE INPUT: true; the input reads as it did. -/
def encIntsSpec : ChangeSpec := { name := "encInts", fn := fun _ => fun
  | [d1, d2] => { results := [.lit (.bool true)], args := [d1, d2] }
  | _ => none }
def encIntsRow : OpenClaim := { program := "ytbbcofojjgofmaadoor", sum := "47e8bbdbc05436de9a56e224288762dfcce8b2a6846a4a9c220f93c1dd5e0f19", func := "bayou/bayoulaw01.EncInts", spec := "encInts", inPlace := ["internal/reflectlite.ValueOf", "(internal/reflectlite.Value).Type", "(internal/reflectlite.Value).IsNil", "internal/reflectlite.TypeOf", "(internal/reflectlite.Value).Elem", "(internal/reflectlite.Value).Set"], unfollowed := true, recurses := true, named := ["errors.errorType"], apart := false, laid := [("errors.errorType", laid_errors_errorType)] }
def EncIntsSaid : Prop := encIntsRow.holds Tryd.pinned (OpenSpec.ofChange encIntsSpec)

/-- ITS FALSE NEIGHBOUR: 'it returns false'. Refute it at one input. -/
def encIntsWrong : ChangeSpec := { name := "encInts", fn := fun _ => fun
  | [d1, d2] => { results := [.lit (.bool false)], args := [d1, d2] }
  | _ => none }
def EncIntsWrongFalsely : Prop := encIntsRow.holds Tryd.pinned (OpenSpec.ofChange encIntsWrong)

/-- 'bayoulaw01.EncStrings': WHATEVER THE INPUT: true; the input reads as it did. -/
def encStringsSpec : ChangeSpec := { name := "encStrings", fn := fun _ => fun
  | [d1, d2] => { results := [.lit (.bool true)], args := [d1, d2] }
  | _ => none }
def encStringsRow : OpenClaim := { program := "ytbbcofojjgofmaadoor", sum := "47e8bbdbc05436de9a56e224288762dfcce8b2a6846a4a9c220f93c1dd5e0f19", func := "bayou/bayoulaw01.EncStrings", spec := "encStrings", inPlace := ["internal/reflectlite.ValueOf", "(internal/reflectlite.Value).Type", "(internal/reflectlite.Value).IsNil", "internal/reflectlite.TypeOf", "(internal/reflectlite.Value).Elem", "(internal/reflectlite.Value).Set"], unfollowed := true, recurses := true, named := ["errors.errorType"], apart := false, laid := [("errors.errorType", laid_errors_errorType)] }
def EncStringsSaid : Prop := encStringsRow.holds Tryd.pinned (OpenSpec.ofChange encStringsSpec)

/-- ITS FALSE NEIGHBOUR: 'it returns false'. Refute it at one input. -/
def encStringsWrong : ChangeSpec := { name := "encStrings", fn := fun _ => fun
  | [d1, d2] => { results := [.lit (.bool false)], args := [d1, d2] }
  | _ => none }
def EncStringsWrongFalsely : Prop := encStringsRow.holds Tryd.pinned (OpenSpec.ofChange encStringsWrong)

/-- 'bayoulaw01.EncTakes': WHATEVER THE INPUT: true; the input reads as it did. -/
def encTakesSpec : ChangeSpec := { name := "encTakes", fn := fun _ => fun
  | [d1, d2] => { results := [.lit (.bool true)], args := [d1, d2] }
  | _ => none }
def encTakesRow : OpenClaim := { program := "ytbbcofojjgofmaadoor", sum := "47e8bbdbc05436de9a56e224288762dfcce8b2a6846a4a9c220f93c1dd5e0f19", func := "bayou/bayoulaw01.EncTakes", spec := "encTakes", inPlace := ["internal/reflectlite.ValueOf", "(internal/reflectlite.Value).Type", "(internal/reflectlite.Value).IsNil", "internal/reflectlite.TypeOf", "(internal/reflectlite.Value).Elem", "(internal/reflectlite.Value).Set"], unfollowed := true, recurses := true, named := ["errors.errorType"], apart := false, laid := [("errors.errorType", laid_errors_errorType)] }
def EncTakesSaid : Prop := encTakesRow.holds Tryd.pinned (OpenSpec.ofChange encTakesSpec)

/-- ITS FALSE NEIGHBOUR: 'it returns false'. Refute it at one input. -/
def encTakesWrong : ChangeSpec := { name := "encTakes", fn := fun _ => fun
  | [d1, d2] => { results := [.lit (.bool false)], args := [d1, d2] }
  | _ => none }
def EncTakesWrongFalsely : Prop := encTakesRow.holds Tryd.pinned (OpenSpec.ofChange encTakesWrong)

/- THE SECOND FORM. 'bulk': how many values and letters a reading holds, each counted each time it is reached (what is shared counts as often as it is met; a slice's spare places count too). A statement '..UptoSaid' is the law's where the arguments, and the package variables that the reading takes, are together of bulk at most 1048576: NARROWER than '..Said'. Prove '..Said' where nothing that the law and all that it calls make is longer than what came in: it says more and counts as full. Else prove '..UptoSaid'. A law counts once. -/
mutual
def uptoBulk {H : Type} : DataW H → Nat
  | .lit (.string bytes) => bytes.length + 1
  | .lit _ => 1
  | .nil => 1
  | .ptr d => uptoBulk d + 1
  | .slice elems spare => uptoBulkAll elems + uptoBulkAll spare + 1
  | .agg parts => uptoBulkAll parts + 1
  | .iface _ d => uptoBulk d + 1
  | .map entries => uptoBulkEntries entries + 1
  | .held _ => 1
def uptoBulkAll {H : Type} : List (DataW H) → Nat
  | [] => 0
  | d :: r => uptoBulk d + uptoBulkAll r
def uptoBulkEntries {H : Type} : List (Lit × DataW H) → Nat
  | [] => 0
  | x :: r => uptoBulkEntry x + uptoBulkEntries r
def uptoBulkEntry {H : Type} : Lit × DataW H → Nat
  | (.string bytes, d) => bytes.length + uptoBulk d + 1
  | (_, d) => uptoBulk d + 1
 end
def uptoSmall : (H : Type) → List (DataW H) → Bool := fun _ ds => decide (uptoBulkAll ds ≤ 1048576)
def OpenSpec.upto (s : _root_.Go.ChangeSpec) : _root_.Go.OpenSpec := { _root_.Go.OpenSpec.ofChange s with cond := some uptoSmall }

/-- 'bayoulaw01.EncInts', WHERE WHAT IT READS IS OF BULK AT MOST 1048576: true; the input reads as it did. -/
def encIntsUptoRow : OpenClaim := { program := "ytbbcofojjgofmaadoor", sum := "47e8bbdbc05436de9a56e224288762dfcce8b2a6846a4a9c220f93c1dd5e0f19", func := "bayou/bayoulaw01.EncInts", spec := "encInts", inPlace := ["internal/reflectlite.ValueOf", "(internal/reflectlite.Value).Type", "(internal/reflectlite.Value).IsNil", "internal/reflectlite.TypeOf", "(internal/reflectlite.Value).Elem", "(internal/reflectlite.Value).Set"], unfollowed := true, recurses := true, named := ["errors.errorType"], apart := false, laid := [("errors.errorType", laid_errors_errorType)], narrowed := true }
def EncIntsUptoSaid : Prop := encIntsUptoRow.holds Tryd.pinned (OpenSpec.upto encIntsSpec)

/-- 'bayoulaw01.EncStrings', WHERE WHAT IT READS IS OF BULK AT MOST 1048576: true; the input reads as it did. -/
def encStringsUptoRow : OpenClaim := { program := "ytbbcofojjgofmaadoor", sum := "47e8bbdbc05436de9a56e224288762dfcce8b2a6846a4a9c220f93c1dd5e0f19", func := "bayou/bayoulaw01.EncStrings", spec := "encStrings", inPlace := ["internal/reflectlite.ValueOf", "(internal/reflectlite.Value).Type", "(internal/reflectlite.Value).IsNil", "internal/reflectlite.TypeOf", "(internal/reflectlite.Value).Elem", "(internal/reflectlite.Value).Set"], unfollowed := true, recurses := true, named := ["errors.errorType"], apart := false, laid := [("errors.errorType", laid_errors_errorType)], narrowed := true }
def EncStringsUptoSaid : Prop := encStringsUptoRow.holds Tryd.pinned (OpenSpec.upto encStringsSpec)

/-- 'bayoulaw01.EncTakes', WHERE WHAT IT READS IS OF BULK AT MOST 1048576: true; the input reads as it did. -/
def encTakesUptoRow : OpenClaim := { program := "ytbbcofojjgofmaadoor", sum := "47e8bbdbc05436de9a56e224288762dfcce8b2a6846a4a9c220f93c1dd5e0f19", func := "bayou/bayoulaw01.EncTakes", spec := "encTakes", inPlace := ["internal/reflectlite.ValueOf", "(internal/reflectlite.Value).Type", "(internal/reflectlite.Value).IsNil", "internal/reflectlite.TypeOf", "(internal/reflectlite.Value).Elem", "(internal/reflectlite.Value).Set"], unfollowed := true, recurses := true, named := ["errors.errorType"], apart := false, laid := [("errors.errorType", laid_errors_errorType)], narrowed := true }
def EncTakesUptoSaid : Prop := encTakesUptoRow.holds Tryd.pinned (OpenSpec.upto encTakesSpec)

end Rows
end Go.Proofs.YtbbcofojjgofmaaDoor
