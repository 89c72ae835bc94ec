/- Programs: validity, impl's way. -/
import Derived.Test.YtjjokmlmknllhaaGreatMCmdG
import Derived.Test.YtjjokmlmknllhaaGreatCmdP
set_option linter.unusedSimpArgs false
set_option linter.unusedVariables false
namespace Go.Proofs.YtjjokmlmknllhaaGreat
open Go Go.RowKit Go.Proofs
/- a basic command that is not plain -/
def cvB (L:Cms) (d:Nat) (room:Int):Bool:=L.shape d&&decide ((L.sz:Int)≤room)
def cvN (L:Cms) (d:Nat) (room:Int):Int:=if cvB L d room then L.sz else 0
end Go.Proofs.YtjjokmlmknllhaaGreat
