/- Contracts: ways through the heap. -/
import Derived.Test.YtjbboklnegfohaaGreatDoorMRange
import Derived.Test.YtjbboklnegfohaaGreatDoorMFmtP
set_option linter.unusedSimpArgs false
set_option linter.unusedVariables false
namespace Go.Proofs.YtjbboklnegfohaaGreatDoor
open Go Go.RowKit Go.Proofs
end Go.Proofs.YtjbboklnegfohaaGreatDoor
