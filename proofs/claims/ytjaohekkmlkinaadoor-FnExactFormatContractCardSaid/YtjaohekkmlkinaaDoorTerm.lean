/- Sets of terms as flags: the spec's contracts. -/
import Derived.Test.YtjaohekkmlkinaaDoorRow
import Derived.Test.YtjaohekkmlkinaaDoorHolds
import Derived.Test.YtjaohekkmlkinaaDoorTidyP
set_option linter.unusedSimpArgs false
set_option linter.unusedVariables false
set_option maxRecDepth 100000
set_option maxHeartbeats 25600000
namespace Go.Proofs.YtjaohekkmlkinaaDoor
section
open Go Go.RowKit Go.Proofs
attribute [local go_sem ↓] Go.wp_at_zero Go.wp_at_succ
end
end Go.Proofs.YtjaohekkmlkinaaDoor
