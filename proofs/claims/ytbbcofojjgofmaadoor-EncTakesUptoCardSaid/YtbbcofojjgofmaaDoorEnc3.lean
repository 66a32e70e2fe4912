import Derived.Test.YtbbcofojjgofmaaDoorEnc2
namespace Go.Proofs.YtbbcofojjgofmaaDoor
open Go Go.EW
set_option linter.unusedSimpArgs false



end Go.Proofs.YtbbcofojjgofmaaDoor
