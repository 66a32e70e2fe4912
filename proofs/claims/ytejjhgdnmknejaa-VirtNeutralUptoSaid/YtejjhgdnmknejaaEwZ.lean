/- Frozen values; the package-level variables whose cells are known when the law's call begins (a seat's own list). -/
import Derived.Below
namespace Go.EW
open Go
inductive FV where
  | lit (v : Value)
  | sl (es : Nat) (xs : List (List FV))
  deriving Inhabited
def gcells : Nat → Option (List FV) := fun _ => none
end Go.EW
