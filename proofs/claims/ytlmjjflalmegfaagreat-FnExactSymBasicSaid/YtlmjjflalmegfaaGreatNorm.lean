/- Normal forms: impl. -/
import Derived.Test.YtlmjjflalmegfaaGreatMIntSS
import Derived.Test.YtlmjjflalmegfaaGreatMAppX
set_option linter.unusedSimpArgs false
set_option linter.unusedVariables false
namespace Go.Proofs.YtlmjjflalmegfaaGreat
open Go Go.RowKit Go.Proofs
attribute [local go_sem ↓] Go.wp_at_zero Go.wp_at_succ

--@ impl.normalForm
end Go.Proofs.YtlmjjflalmegfaaGreat
