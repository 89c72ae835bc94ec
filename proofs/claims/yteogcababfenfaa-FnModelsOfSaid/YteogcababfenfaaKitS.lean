/- Words for the exact laws over states. -/
import Derived.Test.YteogcababfenfaaMCmdG
set_option linter.unusedSimpArgs false
set_option linter.unusedVariables false
namespace Go.Proofs.Yteogcababfenfaa
open Go Go.RowKit Go.Proofs

def StateI (w : World) (lo hi : Nat) (v : Value) (s : Ste) : Prop := ∃ fv av, v = .agg #[fv, av] ∧ IntsI w lo hi fv s.values ∧ IntsI w lo hi av s.heap ∧ ∀ g, fv.ownBlock = some g → av.ownBlock ≠ some g
section
variable {w w' : World} {lo hi lo' hi' a b : Nat} {v : Value} {s : Ste}
theorem StateI.below (h : StateI w lo hi v s) (hb : Below w.heap.size w w') : StateI w' lo hi v s := by
  obtain ⟨fv, av, e, h1, h2, h3⟩ := h; exact ⟨fv, av, e, h1.below hb, h2.below hb, h3⟩
theorem StateI.mk (h : StateI w lo hi v s) (hb : Mk (fun g => a ≤ g ∧ g < b) w w') (hd : hi ≤ a ∨ b ≤ lo) : StateI w' lo hi v s := by
  obtain ⟨fv, av, e, h1, h2, h3⟩ := h; exact ⟨fv, av, e, h1.mk hb hd, h2.mk hb hd, h3⟩
theorem StateI.form (h : StateI w lo hi v s) : ∃ A c B d, v = .agg #[.slice A s.values.length c, .slice B s.heap.length d] := by
  obtain ⟨fv, av, rfl, h1, h2, -⟩ := h
  obtain ⟨A, c, rfl⟩ := h1.form
  obtain ⟨B, d, rfl⟩ := h2.form
  exact ⟨A, c, B, d, rfl⟩
theorem StateI.reads (h : StateI w lo hi v s) : StateV w lo w.heap.size v s := by
  obtain ⟨fv, av, e, h1, h2, h3⟩ := h; exact StateO.reads ⟨fv, av, e, h1.1, h2.1, h3⟩
theorem StateO.I (h : StateO w lo v s) : StateI w lo w.heap.size v s := by
  obtain ⟨fv, av, e, h1, h2, h3⟩ := h; exact ⟨fv, av, e, h1.I, h2.I, h3⟩
theorem StateI.len (h : StateI w lo hi v s) : s.values.length ≤ 1049600 ∧ s.heap.length ≤ 1049600 := by
  obtain ⟨fv, av, e, h1, h2, h3⟩ := h; exact ⟨h1.1.2, h2.1.2⟩
end
--@ laws.toState
--@ laws.eqState
theorem t_ste {lo hi lo' hi' : Nat} (v v' : Value) (x : Ste) (w : World) (h : StateV w lo hi v x) (h' : StateV w lo' hi' v' x) : Calls Try.prog 50 #[v, v'] w fun e w' => e = .returned (.bool true) ∧ Below w.heap.size w w' := by
  refine (c_eqState v v' x x w h h').mono ?_
  rintro e w' ⟨rfl, hB⟩
  exact ⟨by simp, hB⟩
--@ laws.markState
--@ laws.heldState
--@
end Go.Proofs.Yteogcababfenfaa
