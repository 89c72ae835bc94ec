/- Contracts: ways through the heap. -/
import Derived.Test.YtjaohekkmlkinaaDoorApp
import Derived.Test.YtjaohekkmlkinaaDoorSte
set_option linter.unusedSimpArgs false
set_option linter.unusedVariables false
namespace Go.Proofs.YtjaohekkmlkinaaDoor
open Go Go.RowKit Go.Proofs
end Go.Proofs.YtjaohekkmlkinaaDoor
