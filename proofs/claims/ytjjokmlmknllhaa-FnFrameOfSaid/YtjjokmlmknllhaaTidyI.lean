/- Tidying: impl's contracts. -/
import Derived.Test.YtjjokmlmknllhaaMIntSS
import Derived.Test.YtjjokmlmknllhaaMAppX
import Derived.Laws.BitsAllLaws
set_option linter.unusedSimpArgs false
set_option linter.unusedVariables false
namespace Go.Proofs.Ytjjokmlmknllhaa
open Go Go.RowKit Go.Proofs
attribute [local go_sem ↓] Go.wp_at_zero Go.wp_at_succ
end Go.Proofs.Ytjjokmlmknllhaa
