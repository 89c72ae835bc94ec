/- Appending assertions to a list of our own. -/
import Derived.Test.YtlmjjflalmegfaaGreatExpD
import Derived.Test.YtlmjjflalmegfaaGreatMOpnU
set_option linter.unusedSimpArgs false
set_option linter.unusedVariables false
namespace Go.Proofs.YtlmjjflalmegfaaGreat
open Go Go.RowKit Go.Proofs
attribute [local go_sem ↓] Go.wp_at_zero Go.wp_at_succ

--@ []impl.Assertion
section
variable {ops : Array Oper} {rest : List Oper} {o : Oper} {a : Act} {Q : Exit → Act → World → Prop} {w w0 : World} {base mid : Nat} {v v2 : Value} {vs vs2 : List Value} {ss ss2 : List Asn}
theorem appA2 (hgd : o.guard = none) (s x : Operand) (ho : o.op = .call { callee := .builtin .append, args := #[s, x], argTypes := #[30, 30] })
    (hs : a.eval s = v) (h0 : A2O w0 base v vs ss) (hb0 : Below w0.heap.size w0 w) (hbase : base ≤ w0.heap.size) (h2 : A2O w mid v2 vs2 ss2) (hm : w0.heap.size ≤ mid) (hx : a.eval x = v2) (hl : ss.length + ss2.length ≤ 1049600)
    (h : ∀ A' c' w', A2O w' base (.slice A' (ss.length + ss2.length) c') (vs ++ vs2) (ss ++ ss2) → w.grownBy w' v.ownBlock → Below base w w' → wpList Tryz.prog ops Q rest (a.put o.dst (.slice A' (ss.length + ss2.length) c')) w') : wpList Tryz.prog ops Q (o :: rest) a w := by
  obtain ⟨A, c, rfl⟩ := h2.form
  refine wpList_appL (base := base) hgd s x 30 ho Tryz.underlying30 infoAs2 rfl (by decide) (by decide) hs (own_below h0.row hb0) hx h2.rd.raw h2.els.one_cell hl (Nat.le_trans hbase hb0.size) ?_
  intro v' w' hO hg hB
  have hC := h0.cat hb0 h2 (Nat.le_trans hbase hm) hm hl hg hO
  obtain ⟨A', d, rfl, -⟩ := own_reads hO hl
  exact h A' d w' hC hg hB
end
--@
end Go.Proofs.YtlmjjflalmegfaaGreat
