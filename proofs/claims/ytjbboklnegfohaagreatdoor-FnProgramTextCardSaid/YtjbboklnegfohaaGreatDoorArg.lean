/- Contracts: the laws' own helpers on plain data: sizes, copies into impl's types, equality. -/
import Derived.Test.YtjbboklnegfohaaGreatDoorMRange
set_option linter.unusedSimpArgs false
set_option linter.unusedVariables false
namespace Go.Proofs.YtjbboklnegfohaaGreatDoor
open Go Go.RowKit Go.Proofs
end Go.Proofs.YtjbboklnegfohaaGreatDoor
