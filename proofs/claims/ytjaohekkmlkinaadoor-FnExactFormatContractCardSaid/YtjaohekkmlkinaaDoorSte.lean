/- Contracts: states, cells, truth. -/
import Derived.Test.YtjaohekkmlkinaaDoorOwn
import Derived.Test.YtjaohekkmlkinaaDoorVal
import Derived.Test.YtjaohekkmlkinaaDoorDefS
set_option linter.unusedSimpArgs false
set_option linter.unusedVariables false
set_option maxRecDepth 100000
set_option maxHeartbeats 25600000
namespace Go.Proofs.YtjaohekkmlkinaaDoor
section
open Go Go.RowKit Go.Proofs
end
end Go.Proofs.YtjaohekkmlkinaaDoor
