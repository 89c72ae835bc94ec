/- What the reader draws: assertions. -/
import Derived.Test.YtjjokmlmknllhaaDrawA
import Derived.Test.YtjjokmlmknllhaaMDefS
import Derived.Test.YtjjokmlmknllhaaMIntSS
set_option linter.unusedSimpArgs false
set_option linter.unusedVariables false
namespace Go.Proofs.Ytjjokmlmknllhaa
open Go Go.RowKit Go.Proofs
theorem IntsV.lit {w:World} {x:Nat} {cs:Array Value} {xs:List Int} (hk:Blk w x tI cs) (hcs:cs=(encI xs).toArray) (hl:xs.length≤100):IntsV w x (x+1) (some ⟨x,0,none⟩) xs:=
 ⟨⟨by simp[encI],fun _=>⟨x,0,rfl,Nat.le_refl _,Nat.lt_succ_self _,fun j u hu=>by rw[Nat.zero_add,hk.cell,hcs];simpa using hu⟩⟩,by unfold Lim;omega⟩
theorem FactsV.oneB {w:World} {g:Nat} {e:Bool} {x y:Int} (h:Blk w g tF #[.bool e,.int .i64 x,.int .i64 y]):FactsV w g (g+1) (some ⟨g,0,none⟩) [⟨e,x,y⟩]:=FactsV.one (f:=⟨e,x,y⟩) h
theorem AtomsV.oneB {w:World} {g:Nat} {e:Int} {x y:Int} (h:Blk w g tA #[.int .i64 e,.int .i64 x,.int .i64 y]):AtomsV w g (g+1) (some ⟨g,0,none⟩) [⟨e,x,y⟩]:=AtomsV.one (f:=⟨e,x,y⟩) h
end Go.Proofs.Ytjjokmlmknllhaa
