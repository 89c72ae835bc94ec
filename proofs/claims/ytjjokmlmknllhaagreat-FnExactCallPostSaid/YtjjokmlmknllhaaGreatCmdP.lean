/- Programs: validity, plain. -/
import Derived.Test.YtjjokmlmknllhaaGreatCmdH
set_option linter.unusedSimpArgs false
set_option linter.unusedVariables false
namespace Go.Proofs.YtjjokmlmknllhaaGreat
open Go Go.RowKit Go.Proofs
def fvalB (k a b:Int) (t:Fct) (i:Asn) (body els:Cms):Bool:=
 if k=6 then decide (a=0)&&(decide (b=0)&&(t.valid&&noAsn i))
 else if k=7 then decide (a=0)&&(decide (b=0)&&(t.valid&&(i.valid&&decide (els.len=0))))
 else plainB t i body els&&fieldsB k a b
def Cms.shape:Cms→Nat→Bool
 | .nil,_=>true
 | .cons k a b t i body els r,d=>decide (0<d)&&(fvalB k a b t i body els&&(body.shape (d - 1)&&(els.shape (d - 1)&&r.shape d)))
def Cms.count:Cms→Nat→Nat
 | .nil,_=>0
 | .cons _ _ _ _ _ body els r,d=>if 0<d then body.count (d - 1)+els.count (d - 1)+1+r.count d else 0
def Cms.prog (L:Cms):Bool:=L.shape 4&&decide (L.sz≤16)
end Go.Proofs.YtjjokmlmknllhaaGreat
