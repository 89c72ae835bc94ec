/- Programs: marks. -/
import Derived.Test.YteogcababfenfaaGreatMCmdG
set_option linter.unusedSimpArgs false
set_option linter.unusedVariables false
namespace Go.Proofs.YteogcababfenfaaGreat
open Go Go.RowKit Go.Proofs

/-- how many marks a program takes -/
def Cms.marks : Cms → Nat
  | .nil => 0
  | .cons _ _ _ _ i body els r => 6 + 3 * i.facts.length + 3 * i.atoms.length + body.marks + els.marks + r.marks
def set6 (w : World) (g o : Nat) (u0 u1 u2 u3 u4 u5 : Value) : World := (((((w.setCell ⟨g, o, none⟩ u0).setCell ⟨g, o + 1, none⟩ u1).setCell ⟨g, o + 2, none⟩ u2).setCell ⟨g, o + 3, none⟩ u3).setCell ⟨g, o + 3 + 1, none⟩ u4).setCell ⟨g, o + 3 + 2, none⟩ u5
end Go.Proofs.YteogcababfenfaaGreat
