/- Contracts: ways through the heap. -/
import Derived.Test.YtlmjjflalmegfaaGreatMDefS
import Derived.Test.YtlmjjflalmegfaaGreatMSte
set_option linter.unusedSimpArgs false
set_option linter.unusedVariables false
namespace Go.Proofs.YtlmjjflalmegfaaGreat
open Go Go.RowKit Go.Proofs

--@ spec.l2Has
--@ spec.l2Walk
--@ impl.cellSet.has
def usedL (h : List Int) (k : Nat) : List Int := ((List.range' 1 k).filter fun n => allocB h (n : Nat)).map (fun n : Nat => (n : Int))
end Go.Proofs.YtlmjjflalmegfaaGreat
