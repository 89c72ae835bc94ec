/- Programs: validity, plain. -/
import Derived.Test.YteogcababfenfaaGreatCmdH
import Derived.Test.YteogcababfenfaaGreatMCmdG
import Derived.Test.YteogcababfenfaaGreatCmdF
import Derived.Test.YteogcababfenfaaGreatOpenC
set_option linter.unusedSimpArgs false
set_option linter.unusedVariables false
namespace Go.Proofs.YteogcababfenfaaGreat
open Go Go.RowKit Go.Proofs

/-- a command's own fields -/
def fvalB (k a b : Int) (t : Fct) (i : Asn) (body els : Cms) : Bool :=
  if k = 6 then decide (a = 0) && (decide (b = 0) && (t.valid && noAsn i))
  else if k = 7 then decide (a = 0) && (decide (b = 0) && (t.valid && (i.valid && decide (els.len = 0))))
  else plainB t i body els && fieldsB k a b
/-- well-formed down to a depth -/
def Cms.shape : Cms → Nat → Bool
  | .nil, _ => true
  | .cons k a b t i body els r, d => decide (0 < d) && (fvalB k a b t i body els && (body.shape (d - 1) && (els.shape (d - 1) && r.shape d)))
/-- the number of commands down to a depth -/
def Cms.count : Cms → Nat → Nat
  | .nil, _ => 0
  | .cons _ _ _ _ _ body els r, d => if 0 < d then body.count (d - 1) + els.count (d - 1) + 1 + r.count d else 0
theorem Cms.count_shape : ∀ {L : Cms} {d : Nat}, L.shape d = true → L.count d = L.sz
  | .nil, _, _ => rfl
  | .cons k a b t i body els r, d, h => by
    simp only [Cms.shape, Bool.and_eq_true, decide_eq_true_eq] at h
    obtain ⟨h0, -, h1, h2, h3⟩ := h
    simp only [Cms.count, Cms.sz, if_pos h0, Cms.count_shape h1, Cms.count_shape h2, Cms.count_shape h3]
    omega
theorem Cms.count_le : ∀ (L : Cms) (d : Nat), L.count d ≤ L.sz
  | .nil, _ => Nat.le_refl _
  | .cons k a b t i body els r, d => by
    simp only [Cms.count, Cms.sz]
    have h1 := Cms.count_le body (d - 1)
    have h2 := Cms.count_le els (d - 1)
    have h3 := Cms.count_le r d
    split <;> omega
theorem Cms.len_sz : ∀ (L : Cms), L.len ≤ L.sz
  | .nil => Nat.le_refl _
  | .cons k a b t i body els r => by simp only [Cms.len, Cms.sz]; have := Cms.len_sz r; omega
/-- size counts at most what the laws' size counts -/
theorem Cms.sz_cost : ∀ (L : Cms), L.sz ≤ L.len + L.cost
  | .nil => Nat.le_refl _
  | .cons k a b t i body els r => by
    simp only [Cms.sz, Cms.len, Cms.cost]
    have h1 := Cms.sz_cost body
    have h2 := Cms.sz_cost els
    have h3 := Cms.sz_cost r
    omega
/-- a valid program -/
def Cms.prog (L : Cms) : Bool := L.shape 4 && decide (L.sz ≤ 16)
theorem fvalB_basic {k a b : Int} {t : Fct} {i : Asn} {body els : Cms} (h6 : k ≠ 6) (h7 : k ≠ 7) : fvalB k a b t i body els = (plainB t i body els && fieldsB k a b) := by
  unfold fvalB; rw [if_neg h6, if_neg h7]
theorem fieldsB_basic {k a b : Int} (h : fieldsB k a b = true) : 1 ≤ k ∧ k ≤ 5 := by
  unfold fieldsB at h
  split at h
  · rename_i h1; rcases h1 with rfl | rfl <;> omega
  split at h
  · omega
  split at h
  · omega
  split at h
  · omega
  · cases h
/-- the list behind the j-th command -/
theorem Cms.shape_drop : ∀ (n : Nat) {L : Cms} {d : Nat}, L.shape d = true → (L.drop n).shape d = true
  | 0, L, d, h => h
  | n + 1, .nil, d, h => rfl
  | n + 1, .cons k a b t i body els r, d, h => by
    simp only [Cms.shape, Bool.and_eq_true] at h
    exact Cms.shape_drop n h.2.2.2.2
end Go.Proofs.YteogcababfenfaaGreat

/- Words for the exact laws over programs. -/
namespace Go.Proofs.YteogcababfenfaaGreat
open Go Go.RowKit Go.Proofs

/-- a program that can be read, with the bounds of the laws -/
def CmsW (w : World) (lo hi : Nat) (A : Option Addr) (L : Cms) : Prop := CmsV w lo hi A L ∧ L.len + L.cost ≤ 1048576
/-- as it comes in -/
def CmsR (w : World) (A : Option Addr) (L : Cms) : Prop := L.len ≤ 9223372036854775807 ∧ L.small 9223372036854775807 ∧ CmsV w 0 w.heap.size A L
section
variable {w w' : World} {lo hi lo' hi' a b : Nat} {v : Value} {A : Option Addr} {L : Cms}
theorem CmsW.below (h : CmsW w lo hi A L) (hb : Below w.heap.size w w') : CmsW w' lo hi A L := ⟨h.1.below hb, h.2⟩
theorem CmsW.mono (h : CmsW w lo hi A L) (e1 : lo' ≤ lo) (e2 : hi ≤ hi') : CmsW w lo' hi' A L := ⟨h.1.mono e1 e2, h.2⟩
theorem CmsW.len (h : CmsW w lo hi A L) : L.len ≤ 1049600 := by have := h.2; omega
theorem CmsW.small (h : CmsW w lo hi A L) : L.small 1049600 := Cms.cost_small (by have := h.2; omega)
theorem CmsW.sz (h : CmsW w lo hi A L) : L.sz ≤ 1049600 := by have := h.2; have := Cms.sz_cost L; omega
end
--@ laws.szCmdS
def szP (L : Cms) (left : Int) : Int := szL (L.len + L.cost) left
def CmsI (w : World) (lo hi : Nat) (v : Value) (L : Cms) : Prop := CmsO w lo hi v L ∧ L.len + L.cost ≤ 1048576
section
variable {w w' : World} {lo hi lo' hi' a b : Nat} {v : Value} {A : Option Addr} {L : Cms}
theorem CmsI.below (h : CmsI w lo hi v L) (hb : Below w.heap.size w w') : CmsI w' lo hi v L := ⟨h.1.below hb, h.2⟩
theorem CmsI.mk (h : CmsI w lo hi v L) (hb : Mk (fun g => a ≤ g ∧ g < b) w w') (hd : hi ≤ a ∨ b ≤ lo) : CmsI w' lo hi v L := ⟨h.1.mk hb hd, h.2⟩
theorem CmsI.form (h : CmsI w lo hi v L) : ∃ A c, v = .slice A L.len c := by obtain ⟨A, c, e, -⟩ := h.1.form; exact ⟨A, c, e⟩
theorem CmsI.reads {n c : Nat} (h : CmsI w lo hi (.slice A n c) L) : CmsW w lo w.heap.size A L := by
  obtain ⟨A', c', e, h2⟩ := h.1.form
  injection e with e1 e2 e3
  subst e1
  exact ⟨h2, h.2⟩
theorem CmsI.len (h : CmsI w lo hi v L) : L.len ≤ 1049600 := h.1.len
end
--@ laws.toCmdS
--@ laws.eqCmdS
--@ laws.markCmdS
--@
end Go.Proofs.YteogcababfenfaaGreat
