/- Sets as bits of a 16-bit number. Plain lemmas. -/
import Derived.Test.YtjaohekkmlkinaaDoorMem
import Derived.Laws.BitsAllLaws
import Derived.Laws.BitsLemmas
set_option linter.unusedSimpArgs false
set_option linter.unusedVariables false
namespace Go.Proofs.YtjaohekkmlkinaaDoor
open Go Go.RowKit
end Go.Proofs.YtjaohekkmlkinaaDoor
