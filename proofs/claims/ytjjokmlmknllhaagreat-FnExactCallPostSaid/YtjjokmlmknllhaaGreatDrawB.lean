/- What the reader draws: assertions. -/
import Derived.Test.YtjjokmlmknllhaaGreatDrawA
import Derived.Test.YtjjokmlmknllhaaGreatMCmd
import Derived.Test.YtjjokmlmknllhaaGreatMCmdA
set_option linter.unusedSimpArgs false
set_option linter.unusedVariables false
namespace Go.Proofs.YtjjokmlmknllhaaGreat
open Go Go.RowKit Go.Proofs
end Go.Proofs.YtjjokmlmknllhaaGreat
