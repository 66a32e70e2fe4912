/-
  No cell of these rows narrows 'for every input' (looked for: loops, veiled, ifaces, maps, wideKeys, modest, calm, conditions, laid).
  DERIVED. THE GIVEN ROWS OF THIS SEAT. 3 by the template 'for every input the law returns true; each argument reads behind the call as it read before'; 0 by the template 'total and deterministic' (their statements: YtbbcofojjgofmaaTotals.lean).
  GIVEN WITH THE SEED: the statements are not yours to turn. If you find one false, say at which input.
  Laid BY PROGRAM, IN A SANDBOX (cutbox-rows.mjs): the forced cells as the released guide's own fill.sh prints them over the translation c7c51a242cd7c127… (all of the seat's roots in one cut). By AI agents, Wed Nov 11 2026. No macro, syntax, notation, axiom, sorry.
-/
import Derived.Test.YtbbcofojjgofmaaChecked
import GoSem.Claim
import GoSem.ClaimJoined
import GoSem.ClaimMapViews
import Derived.JoinedTies
import Derived.KernelRfl
namespace Go.Proofs.Ytbbcofojjgofmaa
/- THE CELL 'sum', in the pinned program and in every row, IS THE sha256 OF THE DUMP (.gsa) THAT YtbbcofojjgofmaaProg.lean LOADS. Nothing in Lean hashes anything: it is a label: what it is worth is what the hold of that sum in a sandbox is worth. -/
noncomputable def Try.pinned : Pinned := { name := "ytbbcofojjgofmaa", sum := "c7c51a242cd7c1276bedb96100e7ac9fb2815203e76679ceabd8f38ee73eacd5", checked := Try.checked }
namespace Rows
def none {H : Type} : Left H := { results := [], args := [] }

/-- 'bayoulaw01.EncLays': WHATEVER THE INPUT: true; the input reads as it did. -/
def encLaysSpec : ChangeSpec := { name := "encLays", fn := fun _ => fun
  | [d] => { results := [.lit (.bool true)], args := [d] }
  | _ => none }
def encLaysRow : OpenClaim := { program := "ytbbcofojjgofmaa", sum := "c7c51a242cd7c1276bedb96100e7ac9fb2815203e76679ceabd8f38ee73eacd5", func := "bayou/bayoulaw01.EncLays", spec := "encLays", apart := false }
def EncLaysSaid : Prop := encLaysRow.holds Try.pinned (OpenSpec.ofChange encLaysSpec)

/-- ITS FALSE NEIGHBOUR: 'it returns false'. Refute it at one input. -/
def encLaysWrong : ChangeSpec := { name := "encLays", fn := fun _ => fun
  | [d] => { results := [.lit (.bool false)], args := [d] }
  | _ => none }
def EncLaysWrongFalsely : Prop := encLaysRow.holds Try.pinned (OpenSpec.ofChange encLaysWrong)

/-- 'bayoulaw01.EncOrder': WHATEVER THE INPUT: true; the input reads as it did. -/
def encOrderSpec : ChangeSpec := { name := "encOrder", fn := fun _ => fun
  | [d1, d2, d3] => { results := [.lit (.bool true)], args := [d1, d2, d3] }
  | _ => none }
def encOrderRow : OpenClaim := { program := "ytbbcofojjgofmaa", sum := "c7c51a242cd7c1276bedb96100e7ac9fb2815203e76679ceabd8f38ee73eacd5", func := "bayou/bayoulaw01.EncOrder", spec := "encOrder", apart := false }
def EncOrderSaid : Prop := encOrderRow.holds Try.pinned (OpenSpec.ofChange encOrderSpec)

/-- ITS FALSE NEIGHBOUR: 'it returns false'. Refute it at one input. -/
def encOrderWrong : ChangeSpec := { name := "encOrder", fn := fun _ => fun
  | [d1, d2, d3] => { results := [.lit (.bool false)], args := [d1, d2, d3] }
  | _ => none }
def EncOrderWrongFalsely : Prop := encOrderRow.holds Try.pinned (OpenSpec.ofChange encOrderWrong)

/-- 'bayoulaw01.EncBack': WHATEVER THE INPUT: true; the input reads as it did. -/
def encBackSpec : ChangeSpec := { name := "encBack", fn := fun _ => fun
  | [d] => { results := [.lit (.bool true)], args := [d] }
  | _ => none }
def encBackRow : OpenClaim := { program := "ytbbcofojjgofmaa", sum := "c7c51a242cd7c1276bedb96100e7ac9fb2815203e76679ceabd8f38ee73eacd5", func := "bayou/bayoulaw01.EncBack", spec := "encBack", apart := false }
def EncBackSaid : Prop := encBackRow.holds Try.pinned (OpenSpec.ofChange encBackSpec)

/-- ITS FALSE NEIGHBOUR: 'it returns false'. Refute it at one input. -/
def encBackWrong : ChangeSpec := { name := "encBack", fn := fun _ => fun
  | [d] => { results := [.lit (.bool false)], args := [d] }
  | _ => none }
def EncBackWrongFalsely : Prop := encBackRow.holds Try.pinned (OpenSpec.ofChange encBackWrong)

/- THE SECOND FORM. 'bulk': how many values and letters a reading holds, each counted each time it is reached (what is shared counts as often as it is met; a slice's spare places count too). A statement '..UptoSaid' is the law's where the arguments, and the package variables that the reading takes, are together of bulk at most 1048576: NARROWER than '..Said'. Prove '..Said' where nothing that the law and all that it calls make is longer than what came in: it says more and counts as full. Else prove '..UptoSaid'. A law counts once. -/
mutual
def uptoBulk {H : Type} : DataW H → Nat
  | .lit (.string bytes) => bytes.length + 1
  | .lit _ => 1
  | .nil => 1
  | .ptr d => uptoBulk d + 1
  | .slice elems spare => uptoBulkAll elems + uptoBulkAll spare + 1
  | .agg parts => uptoBulkAll parts + 1
  | .iface _ d => uptoBulk d + 1
  | .map entries => uptoBulkEntries entries + 1
  | .held _ => 1
def uptoBulkAll {H : Type} : List (DataW H) → Nat
  | [] => 0
  | d :: r => uptoBulk d + uptoBulkAll r
def uptoBulkEntries {H : Type} : List (Lit × DataW H) → Nat
  | [] => 0
  | x :: r => uptoBulkEntry x + uptoBulkEntries r
def uptoBulkEntry {H : Type} : Lit × DataW H → Nat
  | (.string bytes, d) => bytes.length + uptoBulk d + 1
  | (_, d) => uptoBulk d + 1
 end
def uptoSmall : (H : Type) → List (DataW H) → Bool := fun _ ds => decide (uptoBulkAll ds ≤ 1048576)
def OpenSpec.upto (s : _root_.Go.ChangeSpec) : _root_.Go.OpenSpec := { _root_.Go.OpenSpec.ofChange s with cond := some uptoSmall }

/-- 'bayoulaw01.EncLays', WHERE WHAT IT READS IS OF BULK AT MOST 1048576: true; the input reads as it did. -/
def encLaysUptoRow : OpenClaim := { program := "ytbbcofojjgofmaa", sum := "c7c51a242cd7c1276bedb96100e7ac9fb2815203e76679ceabd8f38ee73eacd5", func := "bayou/bayoulaw01.EncLays", spec := "encLays", apart := false, narrowed := true }
def EncLaysUptoSaid : Prop := encLaysUptoRow.holds Try.pinned (OpenSpec.upto encLaysSpec)

/-- 'bayoulaw01.EncOrder', WHERE WHAT IT READS IS OF BULK AT MOST 1048576: true; the input reads as it did. -/
def encOrderUptoRow : OpenClaim := { program := "ytbbcofojjgofmaa", sum := "c7c51a242cd7c1276bedb96100e7ac9fb2815203e76679ceabd8f38ee73eacd5", func := "bayou/bayoulaw01.EncOrder", spec := "encOrder", apart := false, narrowed := true }
def EncOrderUptoSaid : Prop := encOrderUptoRow.holds Try.pinned (OpenSpec.upto encOrderSpec)

/-- 'bayoulaw01.EncBack', WHERE WHAT IT READS IS OF BULK AT MOST 1048576: true; the input reads as it did. -/
def encBackUptoRow : OpenClaim := { program := "ytbbcofojjgofmaa", sum := "c7c51a242cd7c1276bedb96100e7ac9fb2815203e76679ceabd8f38ee73eacd5", func := "bayou/bayoulaw01.EncBack", spec := "encBack", apart := false, narrowed := true }
def EncBackUptoSaid : Prop := encBackUptoRow.holds Try.pinned (OpenSpec.upto encBackSpec)

end Rows
end Go.Proofs.Ytbbcofojjgofmaa
