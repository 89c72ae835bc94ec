/- Tidying: impl's contracts. -/
import Derived.Test.YtlmjjflalmegfaaMKit
import Derived.Test.YtlmjjflalmegfaaMSte
import Derived.Laws.BitsAllLaws
set_option linter.unusedSimpArgs false
set_option linter.unusedVariables false
namespace Go.Proofs.Ytlmjjflalmegfaa
open Go Go.RowKit Go.Proofs
attribute [local go_sem ↓] Go.wp_at_zero Go.wp_at_succ

--@ impl.replaceTerm
--@ impl.isLogicalVar
--@ (impl.termSet).logical
theorem logS_lt {S : Nat} (h : S < 512) : logS S < 512 := by
  apply Nat.lt_pow_two_of_testBit (n := 9)
  intro i hi
  rw [logS_bit]
  have : S.testBit i = false := Nat.testBit_lt_two_pow (Nat.lt_of_lt_of_le h (Nat.pow_le_pow_right (n := 2) (by omega) hi))
  simp [this]
--@ impl.firstSubstitution
set_option maxHeartbeats 1600000 in
theorem c_impl_tHasL (S : Nat) (t : Int) (w : World) (hS : S < 512) (ht : logB t = true) : Calls Try.prog 149 #[.int .u16 S, .int .i64 t] w fun e w' => e = .returned (.bool (S.testBit t.toNat)) ∧ w = w' := by
  have h : isTermB t = true := by simp [logB] at ht; simp [isTermB]; omega
  refine (c_impl_tHas S t w hS).mono ?_
  rintro e w' ⟨rfl, rfl⟩
  rw [h]; exact ⟨rfl, rfl⟩
end Go.Proofs.Ytlmjjflalmegfaa
