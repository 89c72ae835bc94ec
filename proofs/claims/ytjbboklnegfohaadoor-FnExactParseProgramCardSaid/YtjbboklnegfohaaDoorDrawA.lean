/- What the reader draws: numbers, terms, facts, atoms, lists of terms. -/
import Derived.Test.YtjbboklnegfohaaDoorDraw
import Derived.Test.YtjbboklnegfohaaDoorMPrsI
set_option linter.unusedSimpArgs false
set_option linter.unusedVariables false
namespace Go.Proofs.YtjbboklnegfohaaDoor
open Go Go.RowKit Go.Proofs
end Go.Proofs.YtjbboklnegfohaaDoor
