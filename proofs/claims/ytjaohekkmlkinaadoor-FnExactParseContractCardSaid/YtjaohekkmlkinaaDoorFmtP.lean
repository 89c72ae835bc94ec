/- The texts of assertions and contracts, as joined lists. Plain. -/
import Derived.Test.YtjaohekkmlkinaaDoorStrP
import Derived.Lib.Join
set_option linter.unusedSimpArgs false
set_option linter.unusedVariables false
namespace Go.Proofs.YtjaohekkmlkinaaDoor
open Go Go.RowKit Go.Proofs
def fmtX (x:Atm):Bs:=tnameL x.a++signX x++tnameL x.b
theorem join_snoc {sep:Bs}:∀ {xs:List Bs} (x:Bs),xs≠[]→Lib.join (xs++[x]) sep=Lib.join xs sep++sep++x
 | [],_,h=>absurd rfl h
 | y :: r,x,_=>by
  rw[List.cons_append,Lib.join_cons,Lib.join_cons]
  simp[Lib.joinTail]
theorem map_snoc {α:Type} [Inhabited α] (f:α→Bs) {xs:List α} {k:Nat} (hk:k<xs.length):(xs.take (k+1)).map f=(xs.take k).map f++[f xs[k]]:=by
 rw[List.take_add_one,List.getElem?_eq_getElem hk,List.map_append];rfl
theorem outF_join {fs:List Fct}:∀ k,k<fs.length→outF fs (k+1)=Lib.join ((fs.take (k+1)).map fmtF) [32,38,32]
 | 0,h=>by
  rw[map_snoc fmtF h]
  simp[outF,Lib.join_one,List.getD_eq_getElem?_getD,List.getElem?_eq_getElem h]
 | k+1,h=>by
  have ih:=outF_join (fs:=fs) k (by omega)
  rw[map_snoc fmtF h,join_snoc _ (by rw[map_snoc fmtF (k:=k) (Nat.lt_of_succ_lt h)];simp),←ih,outF,if_pos (by omega)]
  simp[List.getD_eq_getElem?_getD,List.getElem?_eq_getElem h]
theorem outX_join {o:Bs} {xs:List Atm}:∀ k,k<xs.length→outSX o xs (k+1)=o++[32,124,32]++Lib.join ((xs.take (k+1)).map fmtX) [32,42,32]
 | 0,h=>by
  rw[map_snoc fmtX h]
  simp[outSX,Lib.join_one,List.getD_eq_getElem?_getD,List.getElem?_eq_getElem h,fmtX]
 | k+1,h=>by
  have ih:=outX_join (o:=o) (xs:=xs) k (by omega)
  rw[map_snoc fmtX h,join_snoc _ (by rw[map_snoc fmtX (k:=k) (Nat.lt_of_succ_lt h)];simp),outSX,if_neg (by omega),ih]
  simp[List.getD_eq_getElem?_getD,List.getElem?_eq_getElem h,fmtX,List.append_assoc]
theorem factsT_join {fs:List Fct} (h:0<fs.length):factsT fs=Lib.join (fs.map fmtF) [32,38,32]:=by
 unfold factsT
 rw[if_neg (by omega)]
 have:=outF_join (fs:=fs) (fs.length - 1) (by omega)
 rw[show fs.length - 1+1=fs.length by omega,List.take_length] at this
 exact this
def atomsT (xs:List Atm):Bs:=if xs.length=0 then [101,109,112] else Lib.join (xs.map fmtX) [32,42,32]
theorem textA_join (a:Asn):textA a=factsT a.facts++[32,124,32]++atomsT a.atoms:=by
 unfold textA atomsT
 by_cases h:a.atoms.length=0
 ·rw[if_pos h,if_pos h];simp
 ·rw[if_neg h,if_neg h]
  have:=outX_join (o:=factsT a.facts) (xs:=a.atoms) (a.atoms.length - 1) (by omega)
  rw[show a.atoms.length - 1+1=a.atoms.length by omega,List.take_length] at this
  exact this
end Go.Proofs.YtjaohekkmlkinaaDoor
