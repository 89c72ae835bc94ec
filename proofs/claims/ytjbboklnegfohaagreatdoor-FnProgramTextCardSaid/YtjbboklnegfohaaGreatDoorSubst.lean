/- Tidying: the spec's substitution. -/
import Derived.Test.YtjbboklnegfohaaGreatDoorMPrgB
import Derived.Test.YtjbboklnegfohaaGreatDoorMRange
set_option linter.unusedSimpArgs false
set_option linter.unusedVariables false
namespace Go.Proofs.YtjbboklnegfohaaGreatDoor
open Go Go.RowKit Go.Proofs
attribute [local go_sem ↓] Go.wp_at_zero Go.wp_at_succ
theorem map_take {α β:Type} (f:α→β) (xs:List α) (k:Nat) (hk:k<xs.length):(xs.take (k+1)).map f=(xs.take k).map f++[f xs[k]]:=by
 rw[List.take_succ_eq_append_getElem hk,List.map_append];rfl
end Go.Proofs.YtjbboklnegfohaaGreatDoor
