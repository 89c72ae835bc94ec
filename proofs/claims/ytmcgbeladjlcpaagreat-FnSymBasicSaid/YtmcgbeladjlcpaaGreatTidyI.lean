/- Tidying: impl's contracts. -/
import Derived.Test.YtmcgbeladjlcpaaGreatMIntSS
import Derived.Laws.BitsAllLaws
set_option linter.unusedSimpArgs false
set_option linter.unusedVariables false
set_option maxRecDepth 100000
set_option maxHeartbeats 25600000
namespace Go.Proofs.YtmcgbeladjlcpaaGreat
section
open Go Go.RowKit Go.Proofs
attribute [local go_sem ↓] Go.wp_at_zero Go.wp_at_succ
theorem c_replaceTerm (t x y:Int) (w:World):Calls Tryz.prog 266 #[.int .i64 t,.int .i64 x,.int .i64 y] w fun e w'=>e=.returned (.int .i64 (swp x y t))∧w=w':=by
 by_cases h:t=x
 ·have hb:(t == x)=true:=by simpa using h
  have HS:Hid (swp x y t=y):=by simp[Hid,swp,h]
  clear h
  go_enter Tryz.func266,Tryz.ntmps266
  go_wp2
  go_ret
  exact ⟨ret_int HS.out.symm,rfl⟩
 ·have hb:(t == x)=false:=by simpa using h
  have HS:Hid (swp x y t=t):=by simp[Hid,swp,h]
  clear h
  go_enter Tryz.func266,Tryz.ntmps266
  go_wp2
  go_ret
  exact ⟨ret_int HS.out.symm,rfl⟩
end

end Go.Proofs.YtmcgbeladjlcpaaGreat
