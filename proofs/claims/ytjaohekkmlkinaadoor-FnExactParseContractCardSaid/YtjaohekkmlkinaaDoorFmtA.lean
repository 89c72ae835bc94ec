/- Contracts: the text of an assertion (impl). -/
import Derived.Test.YtjaohekkmlkinaaDoorFmtI
import Derived.Test.YtjaohekkmlkinaaDoorFmtP
import Derived.Test.YtjaohekkmlkinaaDoorShf
set_option linter.unusedSimpArgs false
set_option linter.unusedVariables false
namespace Go.Proofs.YtjaohekkmlkinaaDoor
open Go Go.RowKit Go.Proofs
end Go.Proofs.YtjaohekkmlkinaaDoor
