/- What the reader draws: assertions. -/
import Derived.Test.YtjbboklnegfohaaDoorDrawA
import Derived.Test.YtjbboklnegfohaaDoorMBld
import Derived.Test.YtjbboklnegfohaaDoorMAlloc
set_option linter.unusedSimpArgs false
set_option linter.unusedVariables false
namespace Go.Proofs.YtjbboklnegfohaaDoor
open Go Go.RowKit Go.Proofs
end Go.Proofs.YtjbboklnegfohaaDoor
