/- Sets of terms as flags: the spec's contracts. -/
import Derived.Test.YtjaohekkmlkinaaDoorRow
import Derived.Test.YtjaohekkmlkinaaDoorHolds
import Derived.Test.YtjaohekkmlkinaaDoorTidyP
set_option linter.unusedSimpArgs false
set_option linter.unusedVariables false
namespace Go.Proofs.YtjaohekkmlkinaaDoor
open Go Go.RowKit Go.Proofs
attribute [local go_sem ↓] Go.wp_at_zero Go.wp_at_succ
theorem tins_flags (S m:Nat) (hm:m≤8):((encB (flagsOf S)).toArray).setIfInBounds m (.bool true)=(encB (flagsOf (tins S (m:Int)))).toArray:=by
 rw[flags_upd,tins,if_pos (isTermB_iff.2 (by omega)),Int.toNat_natCast]
theorem flags2 (T m1 m2:Nat) (h1:m1≤8) (h2:m2≤8):(((encB (flagsOf T)).toArray).setIfInBounds m1 (.bool true)).setIfInBounds m2 (.bool true)=(encB (flagsOf (tins (tins T (m1:Int)) (m2:Int)))).toArray:=by
 rw[tins_flags _ _ h1,tins_flags _ _ h2]
theorem Blk.two {w:World} {g T m1 m2:Nat} (h:Blk w g tB (encB (flagsOf T)).toArray) (h1:m1≤8) (h2:m2≤8):Blk ((w.setCell ⟨g,m1,none⟩ (.bool true)).setCell ⟨g,m2,none⟩ (.bool true)) g tB (encB (flagsOf (tins (tins T (m1:Int)) (m2:Int)))).toArray:=by
 rw[←flags2 _ _ _ h1 h2];exact (h.set_ _ _).set_ _ _
end Go.Proofs.YtjaohekkmlkinaaDoor
