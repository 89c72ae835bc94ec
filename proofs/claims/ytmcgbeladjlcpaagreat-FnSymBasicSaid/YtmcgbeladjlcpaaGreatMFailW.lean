/- Contracts: impl's match of a case. -/
import Derived.Test.YtmcgbeladjlcpaaGreatMatchC
set_option linter.unusedSimpArgs false
set_option linter.unusedVariables false
set_option maxRecDepth 100000
set_option maxHeartbeats 25600000
namespace Go.Proofs.YtmcgbeladjlcpaaGreat
section
open Go Go.RowKit Go.Proofs
attribute [local go_sem ↓] Go.wp_at_zero Go.wp_at_succ
section
variable {ops:Array Oper} {rest:List Oper} {o:Oper} {a:Act} {Q:Exit→Act→World→Prop} {w:World} {base:Nat} {v:Value} {vs:List Value}
end
end

/- Contracts: impl's first failing case. -/
section
open Go Go.RowKit Go.Proofs
attribute [local go_sem ↓] Go.wp_at_zero Go.wp_at_succ
attribute [local go_sem] Oper.semAt_some
def failF (a b:Asn):Option (List Int):=(cases a (caseS a (tset (termsL b)))).find? fun c=>!entB a b c
def failL (a b:Asn):List Int:=if a.valid&&b.valid then (failF a b).getD [] else []
def failB (a b:Asn):Bool:=a.valid&&b.valid&&(failF a b).isSome
end

end Go.Proofs.YtmcgbeladjlcpaaGreat
