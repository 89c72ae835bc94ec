/- Programs: the small tests. -/
import Derived.Test.YtcgifoghggajgaaCmdE
set_option linter.unusedSimpArgs false
set_option linter.unusedVariables false
namespace Go.Proofs.Ytcgifoghggajgaa
open Go Go.RowKit Go.Proofs

def noAsn (i : Asn) : Bool := decide (i.facts.length = 0) && decide (i.atoms.length = 0)
def noFct (t : Fct) : Bool := decide (t = ⟨false, 0, 0⟩)
def basicB (k : Int) : Bool := decide (1 ≤ k ∧ k ≤ 5)
--@ spec.l8NoInv
set_option maxHeartbeats 1600000 in
theorem c_spec_l8NoInv (A1 A2 : Option Addr) (c1 c2 : Nat) (i : Asn) (w : World) (h1 : i.facts.length ≤ 1049600) (h2 : i.atoms.length ≤ 1049600) : Calls Try.prog 206 #[.agg #[.slice A1 i.facts.length c1, .slice A2 i.atoms.length c2]] w fun e w' => e = .returned (.bool (noAsn i)) ∧ Below w.heap.size w w' := by
  obtain ⟨R, hR⟩ : ∃ R, R = noAsn i := ⟨_, rfl⟩
  rw [← hR]
  unfold noAsn at hR
  replace hR := Lib.hid hR
  by_cases q1 : i.facts.length = 0
  all_goals by_cases q2 : i.atoms.length = 0
  all_goals
    go_enter Try.func206, Try.ntmps206
    go_wp2
    go_ret
    exact ⟨ret_bool (by rw [hR.out]; simp_all), bel⟩
--@ impl.noAssertion
set_option maxHeartbeats 1600000 in
theorem c_impl_noAssertion (A1 A2 : Option Addr) (c1 c2 : Nat) (i : Asn) (w : World) (h1 : i.facts.length ≤ 1049600) (h2 : i.atoms.length ≤ 1049600) : Calls Try.prog 211 #[.agg #[.slice A1 i.facts.length c1, .slice A2 i.atoms.length c2]] w fun e w' => e = .returned (.bool (noAsn i)) ∧ Below w.heap.size w w' := by
  obtain ⟨R, hR⟩ : ∃ R, R = noAsn i := ⟨_, rfl⟩
  rw [← hR]
  unfold noAsn at hR
  replace hR := Lib.hid hR
  by_cases q1 : i.facts.length = 0
  all_goals by_cases q2 : i.atoms.length = 0
  all_goals
    go_enter Try.func211, Try.ntmps211
    go_wp2
    go_ret
    exact ⟨ret_bool (by rw [hR.out]; simp_all), bel⟩
--@ spec.l8NoFact
set_option maxHeartbeats 1600000 in
theorem c_spec_l8NoFact (t : Fct) (w : World) : Calls Try.prog 244 #[t.val] w fun e w' => e = .returned (.bool (noFct t)) ∧ Below w.heap.size w w' := by
  obtain ⟨q, a, b⟩ := t
  go_enter Try.func244, Try.ntmps244
  go_wp2
  all_goals
    go_ret
    exact ⟨ret_bool (by simp_all [noFct]), bel⟩
--@ (impl.Cmd).isBasic
set_option maxHeartbeats 1600000 in
theorem c_impl_isBasic (k a b : Int) (t : Fct) (vF vA vB vE : Value) (w : World) : Calls Try.prog 210 #[.agg #[.int .i64 k, .int .i64 a, .int .i64 b, .bool t.eq, .int .i64 t.a, .int .i64 t.b, vF, vA, vB, vE]] w fun e w' => e = .returned (.bool (basicB k)) ∧ Below w.heap.size w w' := by
  by_cases h : 1 ≤ k
  · by_cases h2 : k ≤ 5
    all_goals
      go_enter Try.func210, Try.ntmps210
      go_wp2
      go_ret
      exact ⟨ret_bool (by simp [basicB, h, h2]), bel⟩
  · go_enter Try.func210, Try.ntmps210
    go_wp2
    go_ret
    exact ⟨ret_bool (by simp [basicB]; omega), bel⟩
--@
end Go.Proofs.Ytcgifoghggajgaa
