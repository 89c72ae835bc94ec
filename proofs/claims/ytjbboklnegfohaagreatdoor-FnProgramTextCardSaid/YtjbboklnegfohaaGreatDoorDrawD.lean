/- What the reader draws: assertions, sometimes made invalid. -/
import Derived.Test.YtjbboklnegfohaaGreatDoorDrawC
import Derived.Deep.LoopGhost
set_option linter.unusedSimpArgs false
set_option linter.unusedVariables false
namespace Go.Proofs.YtjbboklnegfohaaGreatDoor
open Go Go.RowKit Go.Proofs
end Go.Proofs.YtjbboklnegfohaaGreatDoor
