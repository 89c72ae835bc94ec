/- Programs: validity, the spec's way. -/
import Derived.Test.YtjjokmlmknllhaaGreatCmdP
import Derived.Deep.RegionHeld3
set_option linter.unusedSimpArgs false
set_option linter.unusedVariables false
namespace Go.Proofs.YtjjokmlmknllhaaGreat
open Go Go.RowKit Go.Proofs
end Go.Proofs.YtjjokmlmknllhaaGreat
