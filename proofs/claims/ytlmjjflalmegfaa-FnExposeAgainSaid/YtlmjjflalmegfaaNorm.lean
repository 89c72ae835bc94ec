/- Normal forms: impl. -/
import Derived.Test.YtlmjjflalmegfaaMKit
import Derived.Test.YtlmjjflalmegfaaMSte
set_option linter.unusedSimpArgs false
set_option linter.unusedVariables false
namespace Go.Proofs.Ytlmjjflalmegfaa
open Go Go.RowKit Go.Proofs
attribute [local go_sem ↓] Go.wp_at_zero Go.wp_at_succ

--@ impl.normalForm
theorem contains_take (f : Fct) (acc : List Fct) (j : Nat) (h : j < acc.length) : (acc.take (j + 1)).contains f = ((acc.take j).contains f || decide (f = acc[j])) := by
  rw [List.take_succ_eq_append_getElem h, List.contains_append]; simp
end Go.Proofs.Ytlmjjflalmegfaa
