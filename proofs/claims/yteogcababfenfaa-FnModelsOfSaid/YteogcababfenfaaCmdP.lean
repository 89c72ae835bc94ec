/- Programs: validity, plain. -/
import Derived.Test.YteogcababfenfaaCmdH
set_option linter.unusedSimpArgs false
set_option linter.unusedVariables false
namespace Go.Proofs.Yteogcababfenfaa
open Go Go.RowKit Go.Proofs

/-- a command's own fields -/
def fvalB (k a b : Int) (t : Fct) (i : Asn) (body els : Cms) : Bool :=
  if k = 6 then decide (a = 0) && (decide (b = 0) && (t.valid && noAsn i))
  else if k = 7 then decide (a = 0) && (decide (b = 0) && (t.valid && (i.valid && decide (els.len = 0))))
  else plainB t i body els && fieldsB k a b
/-- well-formed down to a depth -/
def Cms.shape : Cms → Nat → Bool
  | .nil, _ => true
  | .cons k a b t i body els r, d => decide (0 < d) && (fvalB k a b t i body els && (body.shape (d - 1) && (els.shape (d - 1) && r.shape d)))
/-- the number of commands down to a depth -/
def Cms.count : Cms → Nat → Nat
  | .nil, _ => 0
  | .cons _ _ _ _ _ body els r, d => if 0 < d then body.count (d - 1) + els.count (d - 1) + 1 + r.count d else 0
theorem Cms.count_shape : ∀ {L : Cms} {d : Nat}, L.shape d = true → L.count d = L.sz
  | .nil, _, _ => rfl
  | .cons k a b t i body els r, d, h => by
    simp only [Cms.shape, Bool.and_eq_true, decide_eq_true_eq] at h
    obtain ⟨h0, -, h1, h2, h3⟩ := h
    simp only [Cms.count, Cms.sz, if_pos h0, Cms.count_shape h1, Cms.count_shape h2, Cms.count_shape h3]
    omega
theorem Cms.count_le : ∀ (L : Cms) (d : Nat), L.count d ≤ L.sz
  | .nil, _ => Nat.le_refl _
  | .cons k a b t i body els r, d => by
    simp only [Cms.count, Cms.sz]
    have h1 := Cms.count_le body (d - 1)
    have h2 := Cms.count_le els (d - 1)
    have h3 := Cms.count_le r d
    split <;> omega
theorem Cms.len_sz : ∀ (L : Cms), L.len ≤ L.sz
  | .nil => Nat.le_refl _
  | .cons k a b t i body els r => by simp only [Cms.len, Cms.sz]; have := Cms.len_sz r; omega
/-- size counts at most what the laws' size counts -/
theorem Cms.sz_cost : ∀ (L : Cms), L.sz ≤ L.len + L.cost
  | .nil => Nat.le_refl _
  | .cons k a b t i body els r => by
    simp only [Cms.sz, Cms.len, Cms.cost]
    have h1 := Cms.sz_cost body
    have h2 := Cms.sz_cost els
    have h3 := Cms.sz_cost r
    omega
/-- a valid program -/
def Cms.prog (L : Cms) : Bool := L.shape 4 && decide (L.sz ≤ 16)
theorem fvalB_basic {k a b : Int} {t : Fct} {i : Asn} {body els : Cms} (h6 : k ≠ 6) (h7 : k ≠ 7) : fvalB k a b t i body els = (plainB t i body els && fieldsB k a b) := by
  unfold fvalB; rw [if_neg h6, if_neg h7]
theorem fieldsB_basic {k a b : Int} (h : fieldsB k a b = true) : 1 ≤ k ∧ k ≤ 5 := by
  unfold fieldsB at h
  split at h
  · rename_i h1; rcases h1 with rfl | rfl <;> omega
  split at h
  · omega
  split at h
  · omega
  split at h
  · omega
  · cases h
/-- the list behind the j-th command -/
theorem Cms.shape_drop : ∀ (n : Nat) {L : Cms} {d : Nat}, L.shape d = true → (L.drop n).shape d = true
  | 0, L, d, h => h
  | n + 1, .nil, d, h => rfl
  | n + 1, .cons k a b t i body els r, d, h => by
    simp only [Cms.shape, Bool.and_eq_true] at h
    exact Cms.shape_drop n h.2.2.2.2
theorem Cms.drop_nil {n : Nat} {L : Cms} (h : n = L.len) : L.drop n = .nil := by subst h; exact Cms.drop_all L
end Go.Proofs.Yteogcababfenfaa
