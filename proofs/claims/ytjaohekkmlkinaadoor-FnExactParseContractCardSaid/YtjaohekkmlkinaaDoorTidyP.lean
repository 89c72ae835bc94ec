/- Tidying: plain functions. No program. -/
import Derived.Test.YtjaohekkmlkinaaDoorSet
set_option linter.unusedSimpArgs false
set_option linter.unusedVariables false
namespace Go.Proofs.YtjaohekkmlkinaaDoor
open Go Go.RowKit
def logB (t:Int):Bool:=decide (4<t∧t≤8)
def free (K:Nat) (t:Int):Bool:=logB t && !K.testBit t.toNat
end Go.Proofs.YtjaohekkmlkinaaDoor
