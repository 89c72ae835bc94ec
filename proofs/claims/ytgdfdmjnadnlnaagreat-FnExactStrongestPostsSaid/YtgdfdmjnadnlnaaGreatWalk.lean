/- Contracts: ways through the heap. -/
import Derived.Test.YtgdfdmjnadnlnaaGreatMAppX
set_option linter.unusedSimpArgs false
set_option linter.unusedVariables false
set_option maxRecDepth 100000
set_option maxHeartbeats 25600000
namespace Go.Proofs.YtgdfdmjnadnlnaaGreat
section
open Go Go.RowKit Go.Proofs
end
end Go.Proofs.YtgdfdmjnadnlnaaGreat
