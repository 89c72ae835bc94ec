/- Tidying: plain functions. No program. -/
import Derived.Test.YtjaohekkmlkinaaDoorSet
set_option linter.unusedSimpArgs false
set_option linter.unusedVariables false
set_option maxRecDepth 100000
set_option maxHeartbeats 25600000
namespace Go.Proofs.YtjaohekkmlkinaaDoor
section
open Go Go.RowKit
def logB (t:Int):Bool:=decide (4<t∧t≤8)
def free (K:Nat) (t:Int):Bool:=logB t && !K.testBit t.toNat
def left (K:Nat) (a:Asn):List Nat:=(List.range 9).filter fun n=>free K (n:Int)&&decide ((n:Int)∈mz a)
end
end Go.Proofs.YtjaohekkmlkinaaDoor
