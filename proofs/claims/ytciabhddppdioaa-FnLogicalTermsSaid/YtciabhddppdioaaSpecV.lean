/- Programs: what the spec gathers over all commands: the changed variables. -/
import Derived.Test.YtciabhddppdioaaVisP
import Derived.Test.YtciabhddppdioaaMCmdW
import Derived.Test.YtciabhddppdioaaMCmd
set_option linter.unusedSimpArgs false
set_option linter.unusedVariables false
namespace Go.Proofs.Ytciabhddppdioaa
open Go Go.RowKit Go.Proofs

--@ spec.l8Changed
--@ spec.ChangedTerms
--@
end Go.Proofs.Ytciabhddppdioaa
