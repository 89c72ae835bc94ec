/- Contracts: ways through the heap. -/
import Derived.Test.YtjjokmlmknllhaaGreatMDefS
import Derived.Test.YtjjokmlmknllhaaGreatMAppX
set_option linter.unusedSimpArgs false
set_option linter.unusedVariables false
namespace Go.Proofs.YtjjokmlmknllhaaGreat
open Go Go.RowKit Go.Proofs
def usedL (h:List Int) (k:Nat):List Int:=((List.range' 1 k).filter fun n=>allocB h (n:Nat)).map (fun n:Nat=>(n:Int))
end Go.Proofs.YtjjokmlmknllhaaGreat
