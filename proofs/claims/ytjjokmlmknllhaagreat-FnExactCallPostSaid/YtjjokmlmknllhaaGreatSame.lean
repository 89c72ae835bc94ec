/- Contracts: equal assertions; impl's normal form. -/
import Derived.Test.YtjjokmlmknllhaaGreatTidyJ
import Derived.Test.YtjjokmlmknllhaaGreatMCov
set_option linter.unusedSimpArgs false
set_option linter.unusedVariables false
namespace Go.Proofs.YtjjokmlmknllhaaGreat
open Go Go.RowKit Go.Proofs
attribute [local go_sem ↓] Go.wp_at_zero Go.wp_at_succ
end Go.Proofs.YtjjokmlmknllhaaGreat
