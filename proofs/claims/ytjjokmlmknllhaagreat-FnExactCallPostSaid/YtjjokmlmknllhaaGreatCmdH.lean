/- Programs: a basic command's fields. -/
import Derived.Test.YtjjokmlmknllhaaGreatMCmdG
import Derived.Test.YtjjokmlmknllhaaGreatVal
set_option linter.unusedSimpArgs false
set_option linter.unusedVariables false
namespace Go.Proofs.YtjjokmlmknllhaaGreat
open Go Go.RowKit Go.Proofs
def plainB (t:Fct) (i:Asn) (body els:Cms):Bool:=noFct t&&(noAsn i&&(decide (body.len=0)&&decide (els.len=0)))
def fieldsB (k a b:Int):Bool:=
 if k=1∨k=2 then isProgB a&&isTermB b else if k=3 then isTermB a&&isTermB b else if k=4 then isProgB a&&decide (b=0) else if k=5 then isTermB a&&decide (b=0) else false
end Go.Proofs.YtjjokmlmknllhaaGreat
