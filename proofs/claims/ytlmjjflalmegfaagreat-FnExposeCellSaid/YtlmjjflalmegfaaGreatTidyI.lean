/- Tidying: impl's contracts. -/
import Derived.Test.YtlmjjflalmegfaaGreatMIntSS
import Derived.Test.YtlmjjflalmegfaaGreatMTlist
import Derived.Laws.BitsAllLaws
set_option linter.unusedSimpArgs false
set_option linter.unusedVariables false
namespace Go.Proofs.YtlmjjflalmegfaaGreat
open Go Go.RowKit Go.Proofs
attribute [local go_sem ↓] Go.wp_at_zero Go.wp_at_succ

--@ impl.replaceTerm
end Go.Proofs.YtlmjjflalmegfaaGreat
