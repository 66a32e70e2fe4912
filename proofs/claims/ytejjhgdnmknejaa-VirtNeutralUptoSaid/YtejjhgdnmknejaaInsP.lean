import Derived.Test.YtejjhgdnmknejaaProg
import Derived.Test.YtejjhgdnmknejaaEwY
set_option linter.unusedVariables false
set_option linter.unusedSimpArgs false
namespace Go.Proofs.Ytejjhgdnmknejaa
open Go.RowKit Go.Lib Go.EW
namespace InsP

end InsP
end Go.Proofs.Ytejjhgdnmknejaa
