/- The library's contracts at this program (laid by the kit's shelf, in plain words). -/
import Derived.Test.YtjaohekkmlkinaaDoorStr
import Derived.Shelf.Strings.Builder1
import Derived.Shelf.Strings.Builder2
import Derived.Shelf.Strings.OnBuilder
import Derived.Shelf.Strings.BuilderF
import Derived.Shelf.Strings.BuilderK
set_option linter.unusedSimpArgs false
set_option linter.unusedVariables false
namespace Go.Proofs.YtjaohekkmlkinaaDoor
open Go Go.Shelf Go.RowKit Go.Proofs
end Go.Proofs.YtjaohekkmlkinaaDoor
