/- Tidying: impl's tidy and TidyAssertion. -/
import Derived.Test.YtjjokmlmknllhaaGreatMCallI
import Derived.Test.YtjjokmlmknllhaaGreatNorm
import Derived.Deep.LoopGhost
set_option linter.unusedSimpArgs false
set_option linter.unusedVariables false
namespace Go.Proofs.YtjjokmlmknllhaaGreat
open Go Go.RowKit Go.Proofs
attribute [local go_sem ↓] Go.wp_at_zero Go.wp_at_succ
def tidyA (K:Nat) (a:Asn):Option Asn:=if a.valid then some (tidyF K a) else none
end Go.Proofs.YtjjokmlmknllhaaGreat
