/- 'laws.FnExactSafeCells': for every input it returns true. No condition. -/
import Derived.Test.YtcgifoghggajgaaRows
import Derived.Test.YtcgifoghggajgaaMPar
import Derived.Test.YtcgifoghggajgaaLawExactSafeCells
import Derived.ShutString
import Derived.ChangeOld
set_option linter.unusedSimpArgs false
set_option linter.unusedVariables false
namespace Go.Proofs.Ytcgifoghggajgaa
open Go Go.RowKit Go.Proofs Go.ChangeShapes Go.WideShapes Go.ChangeAt
open Go.ChangeMaps (open_string shut_string)
set_option linter.unusedVariables false

theorem own : ownKnob Try.prog.godebug = none := by kernel_rfl
theorem laidOut : laidOutB Try.prog = true := by kernel_rfl
theorem mayEnter_ : Try.checked.prog.mayEnter = true := by kernel_rfl
theorem heard_ : Try.checked.prog.stopsHeard = true := by kernel_rfl

set_option maxRecDepth 100000 in
theorem lifted (os : Os) (started : os.Started) (H : Type) (enc : TypeId × Value → H) :
    ReturnsInHanded {} Try.checked os 13 .any (Rows.fnExactSafeCellsSpec.pre6 enc Try.prog Try.f13 Rows.fnExactSafeCellsRow.domain false) (Rows.fnExactSafeCellsSpec.post enc Try.prog Try.f13 false true false false) := by
  refine returnsInHanded_of_change (C := Try.checked) own started (by kernel_rfl) Try.func13
    (ChangeSpec.witness6 (enc := enc) (C := Try.checked) false ⟨#[], #[.agg #[.slice none 0 0, .slice none 0 0], .slice none 0 0], []⟩ 8 (by kernel_rfl) (by kernel_rfl) (by kernel_rfl) (by kernel_rfl)) ?_
  intro W base args ds gs before hval0 hW hcnd _
  have hval : ∀ (j : Nat) t v, Try.f13.params[j]? = some t → args[j]? = some v → Value.okWide Try.prog W .any base t v := hval0
  have hW' := hW
  obtain ⟨p, q, hA0, hV, rfl, hfz, hnd⟩ := hW
  have hA : DataW.TrodAll enc Try.prog W 0 (fun _ => true) true Try.f13.params.toList args.toList ds p := hA0
  rw [Try.params13] at hA hval
  obtain ⟨v0, vs0, d0, ds0, p0, q0, hargs, rfl, rfl, h0, r0⟩ := trodAll_cons hA
  obtain ⟨v1, vs1, d1, ds1, p1, q1, rfl, rfl, rfl, h1, r1⟩ := trodAll_cons r0
  obtain ⟨rfl, rfl, rfl⟩ := trodAll_nil r1
  obtain rfl : args = #[v0, v1] := by cases args; simp_all
  obtain ⟨rfl, rfl⟩ := trodVars_none hV
  have k0 := h0
  have lt0 : ∀ x ∈ p0, x.block < W.heap.size := by obtain ⟨m, hm⟩ := k0; exact DataW.trod_lt m _ _ _ hm
  obtain ⟨a0, g0⟩ := open_ste (hval 0 61 v0 rfl rfl) h0
  have k1 := h1
  have lt1 : ∀ x ∈ p1, x.block < W.heap.size := by obtain ⟨m, hm⟩ := k1; exact DataW.trod_lt m _ _ _ hm
  obtain ⟨a1, g1⟩ := open_cmds (hval 1 22 v1 rfl rfl) h1
  clear hA0 hval0
  refine (c_FnExactSafeCells v0 a0 v1 a1 W g0 g1).mono fun e W' ⟨he, bel⟩ => ?_
  subst he
  exact ⟨_, rfl, _, _, _, [], _, [], hW', trodAll_mk1 (shut_bool Try.underlying4 _), (trodAll_cons_mk (Below.trod laidOut (by kernel_rfl) (of_decide_eq_true (by kernel_rfl)) k0 bel lt0) (trodAll_cons_mk (Below.trod laidOut (by kernel_rfl) (of_decide_eq_true (by kernel_rfl)) k1 bel lt1) trodAll_mk0)), rfl, bel.frame _, fun h => by cases h⟩
set_option maxRecDepth 100000
theorem lim0 : (Rows.fnExactSafeCellsRow.inPlace == Try.checked.prog.inPlace 13) = true := by kernel_rfl
theorem lim1 : (Rows.fnExactSafeCellsRow.unfollowed == Try.checked.prog.unfollowed 13) = true := by kernel_rfl
theorem lim2 : (Rows.fnExactSafeCellsRow.recurses == Try.checked.prog.recurses 13) = true := by kernel_rfl
theorem lim3 : (Rows.fnExactSafeCellsRow.named == Try.checked.prog.varsNamed 13) = true := by kernel_rfl
theorem lim4 : (Rows.fnExactSafeCellsRow.lifted == Try.checked.prog.liftsFinal) = true := by kernel_rfl
theorem lim5 : (Rows.fnExactSafeCellsRow.plainKeys == Try.checked.prog.plainKeys) = true := by kernel_rfl
theorem lim6 : Rows.fnExactSafeCellsRow.wf (OpenSpec.ofChange Rows.fnExactSafeCellsSpec) = true := by kernel_rfl
theorem closed : joinedFacts Try.checked.prog 13 Try.f13 Rows.fnExactSafeCellsSpec Rows.fnExactSafeCellsRow = true := by
  unfold joinedFacts
  simp only [Bool.and_eq_true]
  repeat' apply And.intro
  all_goals (first | with_reducible exact mayEnter_ | with_reducible exact heard_ | with_reducible exact lim0 | with_reducible exact lim1 | with_reducible exact lim2 | with_reducible exact lim3 | with_reducible exact lim4 | with_reducible exact lim5 | with_reducible exact lim6 | with_reducible exact laidOut | kernel_rfl)
theorem proved : Rows.FnExactSafeCellsSaid :=
  OpenClaim.holds_of_wide 13 Try.f13 rfl rfl rfl rfl rfl rfl rfl ⟨rfl, rfl, rfl, rfl, rfl⟩ rfl rfl rfl rfl rfl (by kernel_rfl) Try.func13 closed
    (of_decide_eq_true (by kernel_rfl)) (by unfold Func.isWrapper; first | (rw [if_pos (by decide +kernel)]; kernel_rfl) | (rw [if_neg (by decide +kernel)]; exact ⟨rfl, rfl⟩))
    (fun os started H enc _ => lifted os started H enc)
#print axioms proved
end Go.Proofs.Ytcgifoghggajgaa
