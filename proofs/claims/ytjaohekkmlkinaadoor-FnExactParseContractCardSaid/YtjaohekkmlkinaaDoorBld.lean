/- Contracts: a strings.Builder of our own: WriteString. -/
import Derived.Test.YtjaohekkmlkinaaDoorStr
import Derived.Shelf.Strings.Builder1
set_option linter.unusedSimpArgs false
set_option linter.unusedVariables false
namespace Go.Proofs.YtjaohekkmlkinaaDoor
open Go Go.RowKit Go.Proofs
end Go.Proofs.YtjaohekkmlkinaaDoor
