/- Parts of programs in memory. -/
import Derived.Test.YteogcababfenfaaGreatMRunK
set_option linter.unusedSimpArgs false
set_option linter.unusedVariables false
namespace Go.Proofs.YteogcababfenfaaGreat
open Go Go.RowKit Go.Proofs
theorem Cms.take_cost : ∀ (n : Nat) (L : Cms), (L.take n).len + (L.take n).cost ≤ L.len + L.cost
  | 0, L => by simp [Cms.take, Cms.len, Cms.cost]
  | n + 1, .nil => Nat.le_refl _
  | n + 1, .cons k a b t i body els r => by have := Cms.take_cost n r; simp only [Cms.take, Cms.len, Cms.cost]; omega
theorem Cms.drop_cost : ∀ (n : Nat) (L : Cms), (L.drop n).len + (L.drop n).cost ≤ L.len + L.cost
  | 0, L => Nat.le_refl _
  | n + 1, .nil => Nat.le_refl _
  | n + 1, .cons k a b t i body els r => by have := Cms.drop_cost n r; simp only [Cms.drop, Cms.len, Cms.cost]; omega
section
variable {w W : World} {lo hi b o : Nat} {L : Cms} {B : Option Addr}
theorem CmsAt.take : ∀ (n : Nat) {L : Cms} {bl o : Nat}, CmsAt w lo hi L bl o → CmsAt w lo hi (L.take n) bl o
  | 0, L, bl, o, h => trivial
  | n + 1, .nil, bl, o, h => trivial
  | n + 1, .cons k a b t i body els r, bl, o, h => ⟨h.1, h.2.1, h.2.2.1, h.2.2.2.1, h.2.2.2.2.1, CmsAt.take n h.2.2.2.2.2⟩
theorem PB.open_ (h : PB w W B L) (h1 : 1 ≤ L.len) : ∃ b o, B = some ⟨b, o, none⟩ ∧ w.heap.size ≤ b ∧ b < W.heap.size ∧ CmsAt W w.heap.size W.heap.size L b o := h.prog.1 (by omega)
theorem PB.take (n : Nat) (h : PB w W (some ⟨b, o, none⟩) L) : PB w W (some ⟨b, o, none⟩) (L.take n) :=
  ⟨h.bel, fun hl => by
    have hc := Cms.take_cost n L
    have hL : 0 < L.len := by
      cases L with
      | nil => cases n <;> simp [Cms.take, Cms.len] at hl
      | cons => simp [Cms.len]
    obtain ⟨b', o', e, h1, h2, hA⟩ := h.prog.1 hL
    exact ⟨b', o', e, h1, h2, hA.take n⟩, by have := Cms.take_cost n L; have := h.prog.2; omega⟩
theorem PB.drop (n : Nat) (h : PB w W (some ⟨b, o, none⟩) L) (hn : n < L.len) : PB w W (some ⟨b, o + n * 10, none⟩) (L.drop n) :=
  ⟨h.bel, fun hl => by
    obtain ⟨b', o', e, h1, h2, hA⟩ := h.prog.1 (by omega)
    injection e with e
    injection e with e1 e2
    subst e1 e2
    exact ⟨_, _, rfl, h1, h2, hA.drop n⟩, by have := Cms.drop_cost n L; have := h.prog.2; omega⟩
theorem PB.nil (A : Option Addr) (h : PB w W B L) : PB w W A .nil := ⟨h.bel, fun hl => by simp [Cms.len] at hl, by simp [Cms.len, Cms.cost]⟩
end
--@ []impl.Cmd
end Go.Proofs.YteogcababfenfaaGreat
