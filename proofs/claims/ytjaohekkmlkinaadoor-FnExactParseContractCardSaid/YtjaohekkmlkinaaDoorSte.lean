/- Contracts: states, cells, truth. -/
import Derived.Test.YtjaohekkmlkinaaDoorOwn
import Derived.Test.YtjaohekkmlkinaaDoorVal
import Derived.Test.YtjaohekkmlkinaaDoorDefS
set_option linter.unusedSimpArgs false
set_option linter.unusedVariables false
namespace Go.Proofs.YtjaohekkmlkinaaDoor
open Go Go.RowKit Go.Proofs
end Go.Proofs.YtjaohekkmlkinaaDoor
