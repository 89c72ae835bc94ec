/- Contracts: the list of a set of terms. -/
import Derived.Test.YtjjokmlmknllhaaGreatMAppX
import Derived.Test.YtjjokmlmknllhaaGreatMOpenC
import Derived.BigQuiet
import Derived.Deep.RegionHeld3
import Derived.Deep.QuietTactic
set_option linter.unusedSimpArgs false
set_option linter.unusedVariables false
namespace Go.Proofs.YtjjokmlmknllhaaGreat
open Go Go.RowKit Go.Proofs
def tlistL (S k:Nat):List Int:=((List.range k).filter fun n=>S.testBit n).map fun n:Nat=>(n:Int)
end Go.Proofs.YtjjokmlmknllhaaGreat
