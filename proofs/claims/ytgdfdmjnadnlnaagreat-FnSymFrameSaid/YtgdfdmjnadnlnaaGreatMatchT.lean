/- Contracts: the spec's match of a case. -/
import Derived.Test.YtgdfdmjnadnlnaaGreatMFailW
set_option linter.unusedSimpArgs false
set_option linter.unusedVariables false
set_option maxRecDepth 100000
set_option maxHeartbeats 25600000
namespace Go.Proofs.YtgdfdmjnadnlnaaGreat
section
open Go Go.RowKit Go.Proofs
attribute [local go_sem ↓] Go.wp_at_zero Go.wp_at_succ
theorem BoolsO.made {w:World} {n:Nat} (h:n≤6):BoolsO (w.alloc (.cells (Array.replicate n (.bool false)) tB)) w.heap.size (.slice (some ⟨w.heap.size,0,none⟩) n n) (List.replicate n false):=
 ⟨by simpa using own_of_blk (n:=n) (cap:=n) (size:=1) (L:=encB (List.replicate n false)) (Blk.new w tB (Array.replicate n (.bool false))) (Nat.le_refl _) (by simp[encB]) (by intro j hj;simp[encB,List.getElem?_replicate,Array.getElem?_replicate]) (Nat.le_refl _) (Nat.le_trans h (by decide)) (by simp),by simp[Lim];omega⟩
end
end Go.Proofs.YtgdfdmjnadnlnaaGreat
