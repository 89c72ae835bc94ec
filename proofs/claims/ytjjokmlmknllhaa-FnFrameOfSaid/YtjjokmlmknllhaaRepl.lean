/- Tidying: impl's replacement in place. -/
import Derived.Test.YtjjokmlmknllhaaTidyI
set_option linter.unusedSimpArgs false
set_option linter.unusedVariables false
namespace Go.Proofs.Ytjjokmlmknllhaa
open Go Go.RowKit Go.Proofs
attribute [local go_sem ↓] Go.wp_at_zero Go.wp_at_succ
end Go.Proofs.Ytjjokmlmknllhaa
