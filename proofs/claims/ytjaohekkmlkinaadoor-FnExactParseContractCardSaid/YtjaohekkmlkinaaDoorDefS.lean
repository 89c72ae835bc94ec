/- States: plain functions. No program. -/
import Derived.Test.YtjaohekkmlkinaaDoorDef
import Derived.Test.YtjaohekkmlkinaaDoorBits
set_option linter.unusedSimpArgs false
set_option linter.unusedVariables false
namespace Go.Proofs.YtjaohekkmlkinaaDoor
open Go Go.RowKit
section
variable {w w':World} {lo hi lo' hi':Nat} {v:Value} {s:Ste}
end
def addrB (n:Int):Bool:=decide (1≤n∧n≤8)
def valB (n:Int):Bool:=decide (0≤n∧n≤8)
def cellB (n:Int):Bool:=decide (n = -1) || valB n
def Ste.valid (s:Ste):Bool:=decide (s.values.length=8)&&decide (s.heap.length=8)&&(s.values.all valB&&s.heap.all cellB)
def cont (h:List Int) (a:Int):Int:=if addrB a then (h[(a-1).toNat]?).getD (-1) else -1
def allocB (h:List Int) (a:Int):Bool:=decide (0≤cont h a)
def tval (vs:List Int) (t:Int):Int:=if t=0 then 0 else (vs[(t-1).toNat]?).getD 0
def Fct.holds (vs:List Int) (f:Fct):Bool:=decide (tval vs f.a=tval vs f.b) == f.eq
def factsHold (fs:List Fct) (vs:List Int):Bool:=factsValid fs&&decide (vs.length=8)&&fs.all (Fct.holds vs)
theorem Ste.valid_len {s:Ste} (h:s.valid=true):s.values.length=8∧s.heap.length=8:=by
 simp[Ste.valid] at h;exact h.1
def walkF (h:List Int):Nat→Int→Int→Option (List Int)
 | 0,x,tz0=>if x=tz0 then some [] else none
 | n+1,x,tz0=>if x=tz0 then some [] else if allocB h x then (walkF h n (cont h x) tz0).map (x :: ·) else none
def addAll:List Int→List Int→Option (List Int)
 | seen,[]=>some seen
 | seen,c :: cs=>if c∈seen then none else addAll (seen++[c]) cs
def atomCells (s:Ste) (x:Atm):Option (List Int):=
 if x.kind=2 then walkF s.heap 8 (tval s.values x.a) (tval s.values x.b) else if cont s.heap (tval s.values x.a)=tval s.values x.b then some [tval s.values x.a] else none
def partAtoms (s:Ste):List Int→List Atm→Option (List Int)
 | seen,[]=>some seen
 | seen,x :: xs=>(atomCells s x).bind fun cs=>(addAll seen cs).bind fun seen'=>partAtoms s seen' xs
def partOf (s:Ste) (a:Asn):Option (List Int):=if s.valid&&a.valid&&factsHold a.facts s.values then partAtoms s [] a.atoms else none
end Go.Proofs.YtjaohekkmlkinaaDoor
