/- Tidying: impl's contracts. -/
import Derived.Test.YteogcababfenfaaGreatMCmdG
import Derived.Test.YteogcababfenfaaGreatMSte
import Derived.Laws.BitsAllLaws
set_option linter.unusedSimpArgs false
set_option linter.unusedVariables false
namespace Go.Proofs.YteogcababfenfaaGreat
open Go Go.RowKit Go.Proofs
attribute [local go_sem ↓] Go.wp_at_zero Go.wp_at_succ

--@ impl.replaceTerm
--@ impl.isLogicalVar
--@ (impl.termSet).logical
end Go.Proofs.YteogcababfenfaaGreat
