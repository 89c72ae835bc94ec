/- Contracts: ways through the heap. -/
import Derived.Test.YtgdfdmjnadnlnaaGreatMAppX
set_option linter.unusedSimpArgs false
set_option linter.unusedVariables false
set_option maxRecDepth 100000
set_option maxHeartbeats 25600000
namespace Go.Proofs.YtgdfdmjnadnlnaaGreat
section
open Go Go.RowKit Go.Proofs
def usedL (h:List Int) (k:Nat):List Int:=((List.range' 1 k).filter fun n=>allocB h (n:Nat)).map (fun n:Nat=>(n:Int))
end
end Go.Proofs.YtgdfdmjnadnlnaaGreat
