/- Programs of one command, plain: the logical variables of a program are those of its commands. -/
import Derived.Test.YtciabhddppdioaaVisP
set_option linter.unusedSimpArgs false
set_option linter.unusedVariables false
namespace Go.Proofs.Ytciabhddppdioaa
open Go Go.RowKit Go.Proofs

/-- the n-th command alone -/
def Cms.one : Cms → Nat → Cms
  | .nil, _ => .nil
  | .cons k a b t i body els _, 0 => .cons k a b t i body els .nil
  | .cons _ _ _ _ _ _ _ r, n + 1 => r.one n
theorem Cms.one_len : ∀ {L : Cms} {n : Nat}, n < L.len → (L.one n).len = 1
  | .nil, _, h => by simp [Cms.len] at h
  | .cons .., 0, _ => rfl
  | .cons _ _ _ _ _ _ _ r, n + 1, h => Cms.one_len (L := r) (by simpa [Cms.len] using h)
theorem Cms.one_cost : ∀ (L : Cms) (n : Nat), (L.one n).len + (L.one n).cost ≤ L.len + L.cost
  | .nil, _ => Nat.le_refl _
  | .cons k a b t i body els r, 0 => by simp only [Cms.one, Cms.len, Cms.cost]; omega
  | .cons k a b t i body els r, n + 1 => by have := Cms.one_cost r n; simp only [Cms.one, Cms.len, Cms.cost]; omega
theorem Cms.one_sz : ∀ (L : Cms) (n : Nat), (L.one n).sz ≤ L.sz
  | .nil, _ => Nat.le_refl _
  | .cons k a b t i body els r, 0 => by simp only [Cms.one, Cms.sz]; omega
  | .cons k a b t i body els r, n + 1 => by have := Cms.one_sz r n; simp only [Cms.one, Cms.sz]; omega
theorem Cms.one_shape : ∀ {L : Cms} {d : Nat} (n : Nat), L.shape d = true → (L.one n).shape d = true
  | .nil, _, _, h => h
  | .cons k a b t i body els r, d, 0, h => by
    simp only [Cms.shape, Bool.and_eq_true] at h
    simp only [Cms.one, Cms.shape, Bool.and_eq_true]
    exact ⟨h.1, h.2.1, h.2.2.1, h.2.2.2.1, trivial⟩
  | .cons k a b t i body els r, d, n + 1, h => by
    simp only [Cms.shape, Bool.and_eq_true] at h
    exact Cms.one_shape (L := r) n h.2.2.2.2
theorem Cms.one_prog {L : Cms} (n : Nat) (h : L.prog = true) : (L.one n).prog = true := by
  unfold Cms.prog at h ⊢
  simp only [Bool.and_eq_true, decide_eq_true_eq] at h ⊢
  exact ⟨Cms.one_shape n h.1, Nat.le_trans (Cms.one_sz L n) h.2⟩
section
variable {w : World} {lo hi : Nat}
theorem CmsAt.one : ∀ {L : Cms} {bl o : Nat} (n : Nat), CmsAt w lo hi L bl o → CmsAt w lo hi (L.one n) bl (o + n * 10)
  | .nil, _, _, _, h => trivial
  | .cons k a b t i body els r, bl, o, 0, h => by
    rw [Nat.zero_mul, Nat.add_zero]
    exact ⟨h.1, h.2.1, h.2.2.1, h.2.2.2.1, h.2.2.2.2.1, trivial⟩
  | .cons k a b t i body els r, bl, o, n + 1, h => by
    have := CmsAt.one n h.2.2.2.2.2
    rwa [show o + 10 + n * 10 = o + (n + 1) * 10 from by omega] at this
end
theorem fold_ls_bit : ∀ (L : Cms) (S n : Nat), (L.fold lsF S).testBit n = (S.testBit n || (L.fold lsF 0).testBit n)
  | .nil, S, n => by simp [Cms.fold]
  | .cons k a b t i body els r, S, n => by
    simp only [Cms.fold]
    rw [fold_ls_bit r, fold_ls_bit els, fold_ls_bit body, fold_ls_bit r (els.fold lsF _), fold_ls_bit els (body.fold lsF (lsF 0 k a b t i)), fold_ls_bit body (lsF 0 k a b t i)]
    unfold lsF
    rw [foldl_tsup_bit, foldl_tsup_bit]
    simp [Bool.or_assoc]
theorem fold_ls_big : ∀ (L : Cms) (n : Nat), (L.fold lsF 0).testBit n = true → 4 < n
  | .nil, n, h => by simp [Cms.fold] at h
  | .cons k a b t i body els r, n, h => by
    simp only [Cms.fold] at h
    rw [fold_ls_bit r, fold_ls_bit els, fold_ls_bit body] at h
    simp only [Bool.or_eq_true] at h
    rcases h with ((h | h) | h) | h
    · unfold lsF at h
      rw [foldl_tsup_bit] at h
      simp at h
      exact h.1
    · exact fold_ls_big body n h
    · exact fold_ls_big els n h
    · exact fold_ls_big r n h
theorem fold_ls_one : ∀ (L : Cms) (n : Nat), (L.fold lsF 0).testBit n = true ↔ ∃ j, j < L.len ∧ ((L.one j).fold lsF 0).testBit n = true
  | .nil, n => by simp [Cms.fold, Cms.len]
  | .cons k a b t i body els r, n => by
    have e : (Cms.cons k a b t i body els r).fold lsF 0 = r.fold lsF (((Cms.cons k a b t i body els r).one 0).fold lsF 0) := by simp only [Cms.fold, Cms.one]
    rw [e, fold_ls_bit r, Bool.or_eq_true, fold_ls_one r n]
    constructor
    · rintro (h | ⟨j, h1, h2⟩)
      · exact ⟨0, by simp [Cms.len], h⟩
      · exact ⟨j + 1, by simp [Cms.len]; exact h1, h2⟩
    · rintro ⟨j, h1, h2⟩
      cases j with
      | zero => exact Or.inl h2
      | succ j => exact Or.inr ⟨j, by simpa [Cms.len] using h1, h2⟩
/-- one of the first k commands has the variable -/
def anyOne (L : Cms) (t : Int) : Nat → Bool
  | 0 => false
  | k + 1 => anyOne L t k || decide (t ∈ logicalL (L.one k))
theorem anyOne_iff (L : Cms) (t : Int) : ∀ (k : Nat), anyOne L t k = true ↔ ∃ j, j < k ∧ t ∈ logicalL (L.one j)
  | 0 => by simp [anyOne]
  | k + 1 => by
    rw [anyOne, Bool.or_eq_true, anyOne_iff L t k, decide_eq_true_iff]
    constructor
    · rintro (⟨j, h1, h2⟩ | h)
      · exact ⟨j, by omega, h2⟩
      · exact ⟨k, by omega, h⟩
    · rintro ⟨j, h1, h2⟩
      by_cases e : j = k
      · subst e; exact Or.inr h2
      · exact Or.inl ⟨j, by omega, h2⟩
theorem log_any {L : Cms} {n : Nat} (h : L.prog = true) (hn : n ≤ 8) : anyOne L n L.len = decide ((n : Int) ∈ logicalL L) := by
  rw [Bool.eq_iff_iff, anyOne_iff, decide_eq_true_iff]
  unfold logicalL
  rw [if_pos h, tlistL_mem, fold_ls_one]
  constructor
  · rintro ⟨j, h1, h2⟩
    rw [if_pos (Cms.one_prog j h), tlistL_mem] at h2
    exact ⟨by omega, j, h1, h2.2⟩
  · rintro ⟨_, j, h1, h2⟩
    refine ⟨j, h1, ?_⟩
    rw [if_pos (Cms.one_prog j h), tlistL_mem]
    exact ⟨by omega, h2⟩
theorem log_big {L : Cms} {n : Nat} (h : (n : Int) ∈ logicalL L) : 4 < n := by
  unfold logicalL at h
  split at h
  · rw [tlistL_mem] at h; exact fold_ls_big L n h.2
  · cases h
theorem log_none {L : Cms} (h : L.prog = false) : logicalL L = [] := by
  unfold logicalL; rw [h]; rfl
end Go.Proofs.Ytciabhddppdioaa
