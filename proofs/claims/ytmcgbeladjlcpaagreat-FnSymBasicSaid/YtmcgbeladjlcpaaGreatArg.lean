/- Contracts: the laws' own helpers on plain data: sizes, copies into impl's types, equality. -/
import Derived.Test.YtmcgbeladjlcpaaGreatMOpenC
set_option linter.unusedSimpArgs false
set_option linter.unusedVariables false
set_option maxRecDepth 100000
set_option maxHeartbeats 25600000
namespace Go.Proofs.YtmcgbeladjlcpaaGreat
section
open Go Go.RowKit Go.Proofs
def szL (n:Nat) (left:Int):Int:=if left - n<0 then -1 else left - n
def szA (a:Asn) (left:Int):Int:=if szL a.facts.length left<0 then -1 else szL a.atoms.length (szL a.facts.length left)
end

end Go.Proofs.YtmcgbeladjlcpaaGreat
