import Derived.Test.YtbbcofojjgofmaaEnc8
namespace Go.Proofs.Ytbbcofojjgofmaa
open Go Go.EW
set_option linter.unusedSimpArgs false
set_option linter.unusedVariables false



/-- The document's reader: what is left, the first error. -/
def rvC (b : List UInt8) (e : Nat) : List EC := [.fz (.sl 1 (bsv b)), .fz (.lit (.int .i64 e))]
def RV (b : List UInt8) (e : Nat) : EV := .v (.agg [.fz (.sl 1 (bsv b)), .fz (.lit (.int .i64 e))])

end Go.Proofs.Ytbbcofojjgofmaa
