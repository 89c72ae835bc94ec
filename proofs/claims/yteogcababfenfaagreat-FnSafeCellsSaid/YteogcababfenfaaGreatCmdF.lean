/- Programs: marks. -/
import Derived.Test.YteogcababfenfaaGreatMCmdG
set_option linter.unusedSimpArgs false
set_option linter.unusedVariables false
namespace Go.Proofs.YteogcababfenfaaGreat
open Go Go.RowKit Go.Proofs

/-- how many marks a program takes -/
def Cms.marks : Cms → Nat
  | .nil => 0
  | .cons _ _ _ _ i body els r => 6 + 3 * i.facts.length + 3 * i.atoms.length + body.marks + els.marks + r.marks
theorem Cms.marks_le : ∀ (L : Cms), L.marks ≤ 6 * (L.len + L.cost)
  | .nil => by simp [Cms.marks]
  | .cons k a b t i body els r => by
    have h1 := Cms.marks_le body
    have h2 := Cms.marks_le els
    have h3 := Cms.marks_le r
    simp only [Cms.marks, Cms.len, Cms.cost]
    omega
--@ laws.markCmdS
def set6 (w : World) (g o : Nat) (u0 u1 u2 u3 u4 u5 : Value) : World := (((((w.setCell ⟨g, o, none⟩ u0).setCell ⟨g, o + 1, none⟩ u1).setCell ⟨g, o + 2, none⟩ u2).setCell ⟨g, o + 3, none⟩ u3).setCell ⟨g, o + 3 + 1, none⟩ u4).setCell ⟨g, o + 3 + 2, none⟩ u5
theorem six {w : World} {g : Nat} {cs : Array Value} (h : Blk w g tC cs) (o : Nat) (u0 u1 u2 u3 u4 u5 : Value) : Mk (fun x => g ≤ x ∧ x < g + 1) w (set6 w g o u0 u1 u2 u3 u4 u5) ∧ ∃ cs', Blk (set6 w g o u0 u1 u2 u3 u4 u5) g tC cs' ∧ cs'.size = cs.size ∧ ∀ x, o + 6 ≤ x → cs'[x]? = cs[x]? := by
  refine ⟨Mk.set (Mk.set (Mk.set (Mk.set (Mk.set (Mk.set (Mk.refl _ _) ⟨by simp, by simp⟩ _) ⟨by simp, by simp⟩ _) ⟨by simp, by simp⟩ _) ⟨by simp, by simp⟩ _) ⟨by simp, by simp⟩ _) ⟨by simp, by simp⟩ _, _, (((((h.set_ o u0).set_ (o + 1) u1).set_ (o + 2) u2).set_ (o + 3) u3).set_ (o + 3 + 1) u4).set_ (o + 3 + 2) u5, by simp, fun x hx => ?_⟩
  iterate 6 rw [Array.getElem?_setIfInBounds_ne (by omega)]
--@
end Go.Proofs.YteogcababfenfaaGreat
