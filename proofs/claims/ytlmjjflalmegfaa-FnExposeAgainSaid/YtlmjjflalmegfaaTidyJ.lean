/- Tidying: impl's tidy and TidyAssertion. -/
import Derived.Test.YtlmjjflalmegfaaRepl
import Derived.Test.YtlmjjflalmegfaaNorm
import Derived.Deep.LoopGhost
set_option linter.unusedSimpArgs false
set_option linter.unusedVariables false
namespace Go.Proofs.Ytlmjjflalmegfaa
open Go Go.RowKit Go.Proofs
attribute [local go_sem ↓] Go.wp_at_zero Go.wp_at_succ

theorem u16_andNot_nat (a b : Nat) (ha : a < 65536) (hb : b < 65536) : (bits .andNot .u16 (a : Int) (b : Int) == 0) = true ↔ ∀ n, a.testBit n = true → b.testBit n = true := by
  have e : bits .andNot .u16 (a : Int) (b : Int) = (((BitVec.ofInt 16 (a : Int) &&& ~~~ BitVec.ofInt 16 (b : Int)).toNat : Nat) : Int) := by
    show IntKind.u16.wrap ((BitVec.ofInt 16 (a : Int) &&& ~~~ BitVec.ofInt 16 (b : Int)).toNat : Int) = _
    exact wrap_u16 _ (BitVec.isLt _)
  rw [e]
  have hx : ∀ n, (BitVec.ofInt 16 (a : Int) &&& ~~~ BitVec.ofInt 16 (b : Int)).toNat.testBit n = (a.testBit n && (decide (n < 16) && !b.testBit n)) := by
    intro n
    rw [BitVec.testBit_toNat, BitVec.getLsbD_and, BitVec.getLsbD_not, ← BitVec.testBit_toNat, ← BitVec.testBit_toNat, ofInt_u16 a ha, ofInt_u16 b hb]
  have hlt : ∀ n, a.testBit n = true → n < 16 := by
    intro n hn
    rcases Nat.lt_or_ge n 16 with h | h
    · exact h
    · have := Nat.testBit_lt_two_pow (Nat.lt_of_lt_of_le ha (Nat.pow_le_pow_right (n := 2) (by omega) h))
      rw [this] at hn; cases hn
  simp only [beq_iff_eq]
  constructor
  · intro h n hn
    have hz : (BitVec.ofInt 16 (a : Int) &&& ~~~ BitVec.ofInt 16 (b : Int)).toNat = 0 := by omega
    have := hx n
    rw [hz, Nat.zero_testBit, hn] at this
    have hl := hlt n hn
    simp [hl] at this
    exact this
  · intro h
    have : (BitVec.ofInt 16 (a : Int) &&& ~~~ BitVec.ofInt 16 (b : Int)).toNat = 0 := by
      apply Nat.eq_of_testBit_eq
      intro n
      rw [hx, Nat.zero_testBit]
      cases hn : a.testBit n
      · rfl
      · rw [h n hn]; simp
    rw [this]; rfl
theorem or_lt {a b : Nat} (ha : a < 512) (hb : b < 512) : a ||| b < 512 := Nat.or_lt_two_pow (n := 9) ha hb
theorem AsnV.atomsOnly {w : World} {lo hi e : Nat} {G : Option Addr} {xs : List Atm} (h : AtomsV w lo hi G xs) : AsnV w lo hi (.agg #[.slice none 0 0, .slice G xs.length e]) ⟨[], xs⟩ := ⟨none, 0, G, e, rfl, Rd.nil _ _ _ _ _, h⟩

--@ impl.tidy
theorem c_impl_with0 (t : Int) (w : World) : Calls Try.prog 85 #[.int .u16 0, .int .i64 t] w fun e w' => e = .returned (.int .u16 (tins 0 t)) ∧ w = w' := c_impl_with 0 t w (by decide)
--@ impl.TidyAssertion
def tidyA (K : Nat) (a : Asn) : Option Asn := if a.valid then some (tidyF K a) else none
end Go.Proofs.Ytlmjjflalmegfaa
