/- The changed and the logical variables of programs, for the exact laws. -/
import Derived.Test.YtciabhddppdioaaMCmdK
import Derived.Test.YtciabhddppdioaaVisit
import Derived.Test.YtciabhddppdioaaSpecL
set_option linter.unusedSimpArgs false
set_option linter.unusedVariables false
namespace Go.Proofs.Ytciabhddppdioaa
open Go Go.RowKit Go.Proofs
--@ impl.ChangedTerms
--@ spec.ChangedTerms
--@ impl.LogicalTerms
theorem k_impl_Logical {lo : Nat} (L : Cms) (A : Option Addr) (c : Nat) (w : World) (h : CmsW w lo w.heap.size A L) : Calls Try.prog 13 #[.slice A L.len c] w fun e w' => ∃ r, e = .returned r ∧ IntsO w' w.heap.size r (logicalL L) ∧ Below w.heap.size w w' :=
  c_impl_LogicalTerms L A c w h.1 (Nat.le_refl _) h.len h.small
--@ spec.LogicalTerms
theorem k_spec_Logical {lo : Nat} (L : Cms) (A : Option Addr) (c : Nat) (w : World) (h : CmsW w lo w.heap.size A L) : Calls Try.prog 15 #[.slice A L.len c] w fun e w' => ∃ r, e = .returned r ∧ IntsO w' w.heap.size r (logicalL L) ∧ Below w.heap.size w w' :=
  c_spec_LogicalTerms L A c w h.1 (Nat.le_refl _) h.len h.small h.sz
--@
end Go.Proofs.Ytciabhddppdioaa
