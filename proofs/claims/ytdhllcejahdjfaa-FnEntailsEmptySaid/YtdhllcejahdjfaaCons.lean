/- Contracts: the spec's Consistent; facts added; SymTest. -/
import Derived.Test.YtdhllcejahdjfaaFirst
import Derived.Test.YtdhllcejahdjfaaKit
import Derived.Deep.RegionHeld3
set_option linter.unusedSimpArgs false
set_option linter.unusedVariables false
namespace Go.Proofs.Ytdhllcejahdjfaa
open Go Go.RowKit Go.Proofs
attribute [local go_sem ↓] Go.wp_at_zero Go.wp_at_succ

theorem seek_congr (a : Asn) {S S' : Nat} (h : ∀ j, 1 ≤ j → j < 9 → S.testBit j = S'.testBit j) : ∀ (n : Nat) (c : List Int), n ≤ 8 → seek a S n c = seek a S' n c := by
  intro n
  induction n with
  | zero => intro c _; rfl
  | succ n ih =>
    intro c hn
    unfold seek
    rw [h (8 - n) (by omega) (by omega)]
    have e : ∀ c', seek a S n c' = seek a S' n c' := fun c' => ih c' (by omega)
    split
    · split
      · apply flatMap_congr'
        intro k _
        rw [e]
      · exact e _
    · rfl
/-- the spec's search for the terms of S (nil's bit does not matter) gives the cases -/
theorem seek_caseS {a : Asn} (hv : a.valid = true) (F S : Nat) (h : ∀ j, 1 ≤ j → j < 9 → S.testBit j = (caseS a F).testBit j) : seek a S 8 opened = cases a (caseS a F) := by
  rw [seek_congr a h 8 opened (by omega)]
  exact seek_cases (Asn.valid_ok hv).1 (Asn.valid_ok hv).2 (caseS_zero a F) (caseS_not hv F)
theorem seek_terms {a : Asn} (hv : a.valid = true) : seek a (tset (termsL a)) 8 opened = cases a (caseS a 0) := by
  refine seek_caseS hv 0 _ fun j h1 h2 => ?_
  rw [caseS_bit, tset_bit]
  have : ¬ j = 0 := by omega
  simp [this]
end Go.Proofs.Ytdhllcejahdjfaa
