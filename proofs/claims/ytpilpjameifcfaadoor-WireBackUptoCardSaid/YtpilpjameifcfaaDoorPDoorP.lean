import Derived.Test.YtpilpjameifcfaaDoorPOpen
import Derived.Test.YtpilpjameifcfaaDoorCards
import Derived.Test.YtpilpjameifcfaaDoorTie
import Derived.LaidHandle
import Derived.Deep.DeepHandedRow
import Derived.LaidLaws
namespace Go.Proofs.YtpilpjameifcfaaDoor
open Go Go.EW Go.ChangeShapes Go.WideShapes Go.RowKit

def litOf : DataW Unit → Value
  | .lit (.int k n) => .int k n
  | _ => .int .u8 0
def rowOf : DataW Unit → List Value
  | .agg ps => ps.map litOf
  | _ => []
/-- The cells of blake.order. -/
def ordC : Array Value := (match (Rows.laid_bayou_blake_order : DataW Unit) with
  | .agg rs => rs.flatMap rowOf
  | _ => []).toArray

theorem glob_of_laid {W : World} {l : List (String × DataW Unit)} (_ : laidMetH Tryd.prog l W) : GOK (Cx0 W) := fun g cs h => by simp [gcells] at h

/-- A world that meets the condition: the settled one, the variable's cell laid. -/
noncomputable def laidWorld (os : Os) : World :=
  let w0 := World.holding Tryd.prog os ⟨#[], #[], []⟩
  { w0 with heap := w0.heap.modify 1 fun
      | .cells _ t frozen => .cells ordC t frozen
      | o => o }

end Go.Proofs.YtpilpjameifcfaaDoor
