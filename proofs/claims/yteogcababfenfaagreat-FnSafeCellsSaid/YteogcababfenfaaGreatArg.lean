/- Contracts: the laws' own helpers on plain data: sizes, copies into impl's types, equality. -/
import Derived.Test.YteogcababfenfaaGreatMCmd
set_option linter.unusedSimpArgs false
set_option linter.unusedVariables false
namespace Go.Proofs.YteogcababfenfaaGreat
open Go Go.RowKit Go.Proofs

/-- what is left when n more have been counted -/
def szL (n : Nat) (left : Int) : Int := if left - n < 0 then -1 else left - n
def szA (a : Asn) (left : Int) : Int := if szL a.facts.length left < 0 then -1 else szL a.atoms.length (szL a.facts.length left)
theorem szL_neg {n : Nat} {left : Int} (h : szL n left < 0) : szL n left = -1 := by
  by_cases h3 : left - n < 0
  · rw [szL, if_pos h3]
  · rw [szL, if_neg h3] at h; exact absurd h h3

theorem szL_le {n : Nat} {left : Int} (h : ¬ szL n left < 0) : szL n left = left - n ∧ 0 ≤ left - n := by unfold szL at h ⊢; split <;> simp_all <;> omega
theorem szA_le {a : Asn} {left : Int} (h : ¬ szA a left < 0) : 0 ≤ szA a left ∧ szA a left = left - a.facts.length - a.atoms.length ∧ 0 ≤ left := by
  unfold szA at h ⊢
  split at h
  · omega
  · rename_i h1
    have e1 := szL_le h1
    have e2 := szL_le h
    rw [if_neg h1]
    omega

--@ laws.szFactS
--@ laws.szAtomS
--@ laws.szIntS
--@ laws.szAssertion
--@ laws.toFact
--@ laws.toAtom
--@ laws.toFactS
--@ laws.toAtomS
--@ laws.toIntS
--@ laws.toAssertion
--@ laws.toContract
--@ laws.eqFact
--@ laws.eqAtom
--@ laws.eqFactS
--@ laws.eqAtomS
--@ laws.eqIntS
--@ laws.eqAssertion
--@ laws.eqContract
end Go.Proofs.YteogcababfenfaaGreat
