/- What the reader draws: assertions, sometimes made invalid. -/
import Derived.Test.YtciabhddppdioaaGreatDrawC
import Derived.Deep.LoopGhost
set_option linter.unusedSimpArgs false
set_option linter.unusedVariables false
namespace Go.Proofs.YtciabhddppdioaaGreat
open Go Go.RowKit Go.Proofs

--@ spec.l3Mutate
end Go.Proofs.YtciabhddppdioaaGreat
