/- Tidying: the spec's substitution. -/
import Derived.Test.YtjjokmlmknllhaaMStSame
import Derived.Test.YtjjokmlmknllhaaMDefS
set_option linter.unusedSimpArgs false
set_option linter.unusedVariables false
namespace Go.Proofs.Ytjjokmlmknllhaa
open Go Go.RowKit Go.Proofs
attribute [local go_sem ↓] Go.wp_at_zero Go.wp_at_succ
theorem FactsV.one' {w:World} {g:Nat} {e:Bool} {x y:Int} (h:Blk w g tF #[.bool e,.int .i64 x,.int .i64 y]):FactsV w g (g+1) (some ⟨g,0,none⟩) [⟨e,x,y⟩]:=FactsV.one (f:=⟨e,x,y⟩) h
theorem AtomsV.one' {w:World} {g:Nat} {e:Int} {x y:Int} (h:Blk w g tA #[.int .i64 e,.int .i64 x,.int .i64 y]):AtomsV w g (g+1) (some ⟨g,0,none⟩) [⟨e,x,y⟩]:=AtomsV.one (f:=⟨e,x,y⟩) h
theorem map_take {α β:Type} (f:α→β) (xs:List α) (k:Nat) (hk:k<xs.length):(xs.take (k+1)).map f=(xs.take k).map f++[f xs[k]]:=by
 rw[List.take_succ_eq_append_getElem hk,List.map_append];rfl
end Go.Proofs.Ytjjokmlmknllhaa
