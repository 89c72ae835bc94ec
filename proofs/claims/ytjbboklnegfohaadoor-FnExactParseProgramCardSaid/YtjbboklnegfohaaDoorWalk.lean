/- Contracts: ways through the heap. -/
import Derived.Test.YtjbboklnegfohaaDoorMBld
import Derived.Test.YtjbboklnegfohaaDoorMPrsI
set_option linter.unusedSimpArgs false
set_option linter.unusedVariables false
namespace Go.Proofs.YtjbboklnegfohaaDoor
open Go Go.RowKit Go.Proofs
end Go.Proofs.YtjbboklnegfohaaDoor
