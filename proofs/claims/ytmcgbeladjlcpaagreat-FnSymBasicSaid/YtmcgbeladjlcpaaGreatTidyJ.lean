/- Tidying: impl's tidy and TidyAssertion. -/
import Derived.Test.YtmcgbeladjlcpaaGreatMRunQ
import Derived.Test.YtmcgbeladjlcpaaGreatNorm
import Derived.Deep.LoopGhost
set_option linter.unusedSimpArgs false
set_option linter.unusedVariables false
set_option maxRecDepth 100000
set_option maxHeartbeats 25600000
namespace Go.Proofs.YtmcgbeladjlcpaaGreat
section
open Go Go.RowKit Go.Proofs
attribute [local go_sem ↓] Go.wp_at_zero Go.wp_at_succ
def tidyA (K:Nat) (a:Asn):Option Asn:=if a.valid then some (tidyF K a) else none
end

end Go.Proofs.YtmcgbeladjlcpaaGreat
