import Derived.Test.YtpilpjameifcfaaDoorPEnc9
namespace Go.Proofs.YtpilpjameifcfaaDoor
open Go Go.EW
set_option linter.unusedSimpArgs false
set_option linter.unusedVariables false



/-- How many things come: not more than there are bytes left. -/
def cntS (b : List UInt8) (most : Int) : Nat × Nat × Nat :=
  let q := numS b (max 0 most).toNat
  if q.1 ≠ 0 then (q.1, 0, 0) else if b.length - q.2.2 < q.2.1 then (2, 0, 0) else q

end Go.Proofs.YtpilpjameifcfaaDoor
