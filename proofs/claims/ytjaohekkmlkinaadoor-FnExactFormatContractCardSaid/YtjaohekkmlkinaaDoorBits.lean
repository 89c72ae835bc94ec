/- Sets as bits of a 16-bit number. Plain lemmas. -/
import Derived.Test.YtjaohekkmlkinaaDoorMem
import Derived.Laws.BitsAllLaws
import Derived.Laws.BitsLemmas
set_option linter.unusedSimpArgs false
set_option linter.unusedVariables false
set_option maxRecDepth 100000
set_option maxHeartbeats 25600000
namespace Go.Proofs.YtjaohekkmlkinaaDoor
section
open Go Go.RowKit
end
end Go.Proofs.YtjaohekkmlkinaaDoor
