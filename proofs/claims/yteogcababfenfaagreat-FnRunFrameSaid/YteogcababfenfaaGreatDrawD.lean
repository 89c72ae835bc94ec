/- What the reader draws: assertions, sometimes made invalid. -/
import Derived.Test.YteogcababfenfaaGreatDrawC
import Derived.Deep.LoopGhost
set_option linter.unusedSimpArgs false
set_option linter.unusedVariables false
namespace Go.Proofs.YteogcababfenfaaGreat
open Go Go.RowKit Go.Proofs

--@ spec.l3Mutate
end Go.Proofs.YteogcababfenfaaGreat
