/- Tidying: impl's contracts. -/
import Derived.Test.YtciabhddppdioaaMCmdG
import Derived.Test.YtciabhddppdioaaMSte
import Derived.Laws.BitsAllLaws
set_option linter.unusedSimpArgs false
set_option linter.unusedVariables false
namespace Go.Proofs.Ytciabhddppdioaa
open Go Go.RowKit Go.Proofs
attribute [local go_sem ↓] Go.wp_at_zero Go.wp_at_succ

--@ impl.replaceTerm
--@ impl.isLogicalVar
--@ (impl.termSet).logical
theorem logS_lt {S : Nat} (h : S < 512) : logS S < 512 := by
  apply Nat.lt_pow_two_of_testBit (n := 9)
  intro i hi
  rw [logS_bit]
  have : S.testBit i = false := Nat.testBit_lt_two_pow (Nat.lt_of_lt_of_le h (Nat.pow_le_pow_right (n := 2) (by omega) hi))
  simp [this]
theorem c_impl_logical (S : Nat) (w : World) (hS : S < 512) : Calls Try.prog 125 #[.int .u16 S] w fun e w' => e = .returned (.int .u16 (logS S)) ∧ w = w' := by
  go_enter Try.func125, Try.ntmps125
  go_wp2
  go_ret
  refine ⟨?_, rfl⟩
  have e : ((logS S : Nat) : Int) = (S : Int) / 32 * 32 := by
    unfold logS
    rw [Nat.shiftRight_eq_div_pow, Nat.shiftLeft_eq]
    push_cast
    rfl
  show Ending.returned (.int .u16 ((S : Int) / 32 * 32)) = _
  rw [e]

--@ impl.firstSubstitution
set_option maxHeartbeats 1600000 in
theorem c_impl_tHasL (S : Nat) (t : Int) (w : World) (hS : S < 512) (ht : logB t = true) : Calls Try.prog 126 #[.int .u16 S, .int .i64 t] w fun e w' => e = .returned (.bool (S.testBit t.toNat)) ∧ w = w' := by
  have h : isTermB t = true := by simp [logB] at ht; simp [isTermB]; omega
  refine (c_impl_tHas S t w hS).mono ?_
  rintro e w' ⟨rfl, rfl⟩
  rw [h]; exact ⟨rfl, rfl⟩
end Go.Proofs.Ytciabhddppdioaa
