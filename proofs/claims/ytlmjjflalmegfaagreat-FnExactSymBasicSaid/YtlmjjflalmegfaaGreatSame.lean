/- Contracts: equal assertions; impl's normal form. -/
import Derived.Test.YtlmjjflalmegfaaGreatTidyJ
import Derived.Test.YtlmjjflalmegfaaGreatMAsnSS
set_option linter.unusedSimpArgs false
set_option linter.unusedVariables false
namespace Go.Proofs.YtlmjjflalmegfaaGreat
open Go Go.RowKit Go.Proofs
attribute [local go_sem ↓] Go.wp_at_zero Go.wp_at_succ

--@ impl.sameLists[impl.Fact]
end Go.Proofs.YtlmjjflalmegfaaGreat
