/- Tidying: impl's tidy and TidyAssertion. -/
import Derived.Test.YtjbboklnegfohaaGreatDoorMRepl
import Derived.Test.YtjbboklnegfohaaGreatDoorNorm
import Derived.Deep.LoopGhost
set_option linter.unusedSimpArgs false
set_option linter.unusedVariables false
namespace Go.Proofs.YtjbboklnegfohaaGreatDoor
open Go Go.RowKit Go.Proofs
attribute [local go_sem ↓] Go.wp_at_zero Go.wp_at_succ
end Go.Proofs.YtjbboklnegfohaaGreatDoor
