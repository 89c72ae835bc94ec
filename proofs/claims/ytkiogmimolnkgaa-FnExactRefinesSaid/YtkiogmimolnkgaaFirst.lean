/- Contracts: the spec's first case. -/
import Derived.Test.YtkiogmimolnkgaaCaseF
import Derived.Test.YtkiogmimolnkgaaSeq
namespace Go.Proofs.Ytkiogmimolnkgaa
open Go Go.RowKit Go.Proofs
attribute [local go_sem ↓] Go.wp_at_zero Go.wp_at_succ

theorem IntsO.open_ {w : World} {base : Nat} {A : Option Addr} {n c k : Nat} {fs : List Int} (h : IntsO w base (.slice A n c) fs) (hk : k < fs.length) : ∃ g cur, n = fs.length ∧ A = some ⟨g, 0, none⟩ ∧ base ≤ g ∧ Blk w g tI cur ∧ cur[k]? = some (.int .i64 fs[k]) ∧
    (∀ v : Int, IntsO (w.setCell ⟨g, k, none⟩ (.int .i64 v)) base (.slice A n c) (fs.set k v)) := by
  obtain ⟨⟨hl, h2⟩, hL⟩ := h
  rcases h2 with ⟨e, hn⟩ | ⟨g, cap, cur, e, hb, hh, hn, hm, hs, ht⟩
  · omega
  · injection e with e1 e2 e3
    subst e1 e2 e3
    have hK : Blk w g tI cur := hh
    have hP : Pre cur (encI fs) (fs.length * 1) := by
      intro j hj
      rw [← ht, List.getElem?_take, if_pos hj]; simp
    refine ⟨g, cur, rfl, rfl, hb, hK, (hP _ (by omega)).trans (by simp [List.getElem?_eq_getElem hk]), ?_⟩
    intro v
    refine ⟨?_, by rw [List.length_set]; exact hL⟩
    rw [show encI (fs.set k v) = (encI fs).set k (.int .i64 v) from by simp [encI, List.map_set], List.length_set]
    exact own_of_blk (hK.set_ k (.int .i64 v)) hb (by rw [List.length_set, hl]) (hP.setL k (.int .i64 v) (by rw [hs]; exact Nat.mul_le_mul hn (Nat.le_refl _)) (by rw [hl]; exact Nat.le_refl _)) hn hm (by simpa using hs)

/-- what comes behind one choice -/
def seekAt (a : Asn) (S n : Nat) (c : List Int) (k : Nat) : List (List Int) := if k < 8 - n ∧ cl c k ≠ k then [] else seek a S n (c.set (8 - n) k)
theorem seek_cut {a : Asn} {S : Nat} (n : Nat) {c : List Int} (h : (fitsS c a.facts && earlyF c [] a.atoms) = false) : seek a S n c = [] := by
  cases n <;> (unfold seek; rw [h]; rfl)
theorem seek_leaf {a : Asn} {S : Nat} {c : List Int} (h : (fitsS c a.facts && earlyF c [] a.atoms) = true) : seek a S 0 c = if apartF [] (filledL a.atoms c) then [c] else [] := by
  unfold seek; rw [h, if_pos rfl]
theorem seek_step {a : Asn} {S n : Nat} {c : List Int} (h : (fitsS c a.facts && earlyF c [] a.atoms) = true) : seek a S (n + 1) c = if S.testBit (8 - n) then (List.range (9 - n)).flatMap (seekAt a S n c) else seek a S n c := by
  conv => lhs; unfold seek
  rw [h, if_pos rfl]; rfl
theorem flatMap_first {α : Type} {f : Nat → List α} {k N : Nat} (hk : k < N) (h : (List.range k).flatMap f = []) (hne : f k ≠ []) : ∃ y, (f k).head? = some y ∧ ((List.range N).flatMap f).head? = some y := by
  obtain ⟨m, rfl⟩ : ∃ m, N = k + (m + 1) := ⟨N - k - 1, by omega⟩
  rw [List.range_add, List.range_succ_eq_map, List.map_cons, List.flatMap_append, List.flatMap_cons, Nat.add_zero, h, List.nil_append]
  cases e : f k with
  | nil => exact absurd e hne
  | cons y ys => exact ⟨y, rfl, rfl⟩
/-- the first of a list, as the program gives it -/
def firstI (L : List (List Int)) : List Int := L.head?.getD []

--@ spec.l5Fits
theorem c_fits9 {lo hi lo' hi' : Nat} (A B : Option Addr) (c0 c1 : Nat) (fs : List Fct) (c : List Int) (w : World) (h : FactsV w lo hi A fs) (h' : IntsV w lo' hi' B c) (hc : c.length = 9) (hf : FactsOk fs) :
    Calls Try.prog 199 #[.slice A fs.length c0, .slice B 9 c1] w fun e w' => e = .returned (.bool (fitsS c fs)) ∧ w = w' := by
  have := c_spec_l5Fits A B c0 c1 fs c w h h' hc hf; rwa [hc] at this
theorem c_early9 {lo hi lo' hi' : Nat} (A B : Option Addr) (c0 c1 : Nat) (xs : List Atm) (c : List Int) (w : World) (h : AtomsV w lo hi A xs) (h' : IntsV w lo' hi' B c) (hc : c.length = 9) (hx : AtomsOk xs) (hcl : ∀ x ∈ xs, cl c x.a ≤ 8) :
    Calls Try.prog 200 #[.slice A xs.length c0, .slice B 9 c1] w fun e w' => e = .returned (.bool (earlyF c [] xs)) ∧ Below w.heap.size w w' := by
  have := c_spec_l5Early A B c0 c1 xs c w h h' hc hx hcl; rwa [hc] at this
theorem c_filled9 {lo hi lo' hi' : Nat} (A B : Option Addr) (c0 c1 : Nat) (xs : List Atm) (c : List Int) (w : World) (h : AtomsV w lo hi A xs) (h' : IntsV w lo' hi' B c) (hc : c.length = 9) (hx : AtomsOk xs) :
    Calls Try.prog 202 #[.slice A xs.length c0, .slice B 9 c1] w fun e w' => ∃ r, e = .returned r ∧ AtomsO w' w.heap.size r (filledL xs c) ∧ Below w.heap.size w w' := by
  have := c_spec_l5Filled A B c0 c1 xs c w h h' hc hx; rwa [hc] at this
--@ spec.l5Open
theorem openedB : (∀ j : Nat, j < 9 → cl opened j ≤ 8) ∧ ∀ (S : Nat) (j : Nat), j < 9 - 8 → S.testBit j = true → 0 ≤ cl opened j ∧ cl opened j ≤ j := by
  refine ⟨fun j hj => ?_, fun S j hj _ => ?_⟩
  · obtain rfl | rfl | rfl | rfl | rfl | rfl | rfl | rfl | rfl : j = 0 ∨ j = 1 ∨ j = 2 ∨ j = 3 ∨ j = 4 ∨ j = 5 ∨ j = 6 ∨ j = 7 ∨ j = 8 := by omega
    all_goals decide
  · obtain rfl : j = 0 := by omega
    decide
theorem tins_same {S : Nat} (h : S.testBit 0 = true) : tins S 0 = S := by
  apply Nat.eq_of_testBit_eq
  intro i
  rw [tins_bit]
  by_cases e : i = 0
  · subst e; simp [h]
  · have : ¬ (isTermB (0 : Int) = true ∧ (0 : Int) = (i : Int)) := by rintro ⟨-, h⟩; omega
    rw [decide_eq_false this, Bool.or_false]
end Go.Proofs.Ytkiogmimolnkgaa
