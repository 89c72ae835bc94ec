/- The cells that a program needs, for the exact law. -/
import Derived.Test.YteogcababfenfaaGreatSafe
set_option linter.unusedSimpArgs false
set_option linter.unusedVariables false
namespace Go.Proofs.YteogcababfenfaaGreat
open Go Go.RowKit Go.Proofs
--@ impl.SafeCells
theorem k_impl_SafeCells {lo hi lo' : Nat} (v : Value) (s : Ste) (A : Option Addr) (c : Nat) (L : Cms) (w : World) (h : StateV w lo hi v s) (hV : CmsW w lo' w.heap.size A L) : Calls Tryz.prog 7 #[v, .slice A L.len c] w fun e w' => ∃ r, e = .returned (.tuple #[r, .bool (safeB s L)]) ∧ IntsO w' w.heap.size r (safeL s L) ∧ Below w.heap.size w w' :=
  c_impl_SafeCells v s A c L w h hV.1 (Nat.le_refl _) hV.len hV.small hV.sz
--@ spec.SafeCells
theorem k_spec_SafeCells {lo hi lo' : Nat} (v : Value) (s : Ste) (A : Option Addr) (c : Nat) (L : Cms) (w : World) (h : StateV w lo hi v s) (hV : CmsW w lo' w.heap.size A L) : Calls Tryz.prog 8 #[v, .slice A L.len c] w fun e w' => ∃ r, e = .returned (.tuple #[r, .bool (safeB s L)]) ∧ IntsO w' w.heap.size r (safeL s L) ∧ Below w.heap.size w w' :=
  c_spec_SafeCells v s A c L w h hV.1 (Nat.le_refl _) hV.len hV.small hV.sz
--@
end Go.Proofs.YteogcababfenfaaGreat
