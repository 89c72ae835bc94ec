/- Tidying: impl's contracts. -/
import Derived.Test.YtgdfdmjnadnlnaaGreatMIntSS
import Derived.Laws.BitsAllLaws
set_option linter.unusedSimpArgs false
set_option linter.unusedVariables false
set_option maxRecDepth 100000
set_option maxHeartbeats 25600000
namespace Go.Proofs.YtgdfdmjnadnlnaaGreat
section
open Go Go.RowKit Go.Proofs
attribute [local go_sem ↓] Go.wp_at_zero Go.wp_at_succ
theorem c_replaceTerm (t x y:Int) (w:World):Calls Tryz.prog 249 #[.int .i64 t,.int .i64 x,.int .i64 y] w fun e w'=>e=.returned (.int .i64 (swp x y t))∧w=w':=by
 by_cases h:t=x
 ·have hb:(t == x)=true:=by simpa using h
  have HS:aJ (swp x y t=y):=by simp[aJ,swp,h]
  clear h;(go_enter Tryz.func249,Tryz.ntmps249);go_wp2;go_ret;exact ⟨ret_int HS.o.symm,rfl⟩
 ·have hb:(t == x)=false:=by simpa using h
  have HS:aJ (swp x y t=t):=by simp[aJ,swp,h]
  clear h;(go_enter Tryz.func249,Tryz.ntmps249);go_wp2;go_ret;exact ⟨ret_int HS.o.symm,rfl⟩
end
end Go.Proofs.YtgdfdmjnadnlnaaGreat
