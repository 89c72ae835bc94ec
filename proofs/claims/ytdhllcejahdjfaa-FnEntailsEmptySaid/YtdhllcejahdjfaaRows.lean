/-
  No cell of these rows narrows 'for every input' (looked for: loops, veiled, ifaces, maps, wideKeys, modest, calm, conditions, laid).
  DERIVED. THE GIVEN ROWS OF THIS SEAT. 10 by the template 'for every input the law returns true; each argument reads behind the call as it read before'; 0 by the template 'total and deterministic' (their statements: YtdhllcejahdjfaaTotals.lean).
  GIVEN WITH THE SEED: the statements are not yours to turn. If you find one false, say at which input.
  Laid BY PROGRAM, IN A SANDBOX (cutbox-rows.mjs): the forced cells as the released guide's own fill.sh prints them over the translation 0339622f650f5c9a… (all of the seat's roots in one cut). By AI agents, Wed Nov 11 2026. No macro, syntax, notation, axiom, sorry.
-/
import Derived.Test.YtdhllcejahdjfaaChecked
import GoSem.Claim
import GoSem.ClaimJoined
import GoSem.ClaimMapViews
import Derived.JoinedTies
import Derived.KernelRfl
namespace Go.Proofs.Ytdhllcejahdjfaa
/- THE CELL 'sum', in the pinned program and in every row, IS THE sha256 OF THE DUMP (.gsa) THAT YtdhllcejahdjfaaProg.lean LOADS. Nothing in Lean hashes anything: it is a label: what it is worth is what the hold of that sum in a sandbox is worth. -/
noncomputable def Try.pinned : Pinned := { name := "ytdhllcejahdjfaa", sum := "0339622f650f5c9ae59c240375e2e0175864de37d967266b6d48f0d580ac617a", checked := Try.checked }
namespace Rows
def none {H : Type} : Left H := { results := [], args := [] }

/-- 'laws.FnTidyAssertion': WHATEVER THE INPUT: true; the input reads as it did. -/
def fnTidyAssertionSpec : ChangeSpec := { name := "fnTidyAssertion", fn := fun _ => fun
  | [d] => { results := [.lit (.bool true)], args := [d] }
  | _ => none }
def fnTidyAssertionRow : OpenClaim := { program := "ytdhllcejahdjfaa", sum := "0339622f650f5c9ae59c240375e2e0175864de37d967266b6d48f0d580ac617a", func := "loop.example/separation/laws.FnTidyAssertion", spec := "fnTidyAssertion", unfollowed := true, recurses := true, apart := false }
def FnTidyAssertionSaid : Prop := fnTidyAssertionRow.holds Try.pinned (OpenSpec.ofChange fnTidyAssertionSpec)

/-- ITS FALSE NEIGHBOUR: 'it returns false'. Refute it at one input. -/
def fnTidyAssertionWrong : ChangeSpec := { name := "fnTidyAssertion", fn := fun _ => fun
  | [d] => { results := [.lit (.bool false)], args := [d] }
  | _ => none }
def FnTidyAssertionWrongFalsely : Prop := fnTidyAssertionRow.holds Try.pinned (OpenSpec.ofChange fnTidyAssertionWrong)

/-- 'laws.FnHoldsMore': WHATEVER THE INPUT: true; the input reads as it did. -/
def fnHoldsMoreSpec : ChangeSpec := { name := "fnHoldsMore", fn := fun _ => fun
  | [d1, d2] => { results := [.lit (.bool true)], args := [d1, d2] }
  | _ => none }
def fnHoldsMoreRow : OpenClaim := { program := "ytdhllcejahdjfaa", sum := "0339622f650f5c9ae59c240375e2e0175864de37d967266b6d48f0d580ac617a", func := "loop.example/separation/laws.FnHoldsMore", spec := "fnHoldsMore", apart := false }
def FnHoldsMoreSaid : Prop := fnHoldsMoreRow.holds Try.pinned (OpenSpec.ofChange fnHoldsMoreSpec)

/-- ITS FALSE NEIGHBOUR: 'it returns false'. Refute it at one input. -/
def fnHoldsMoreWrong : ChangeSpec := { name := "fnHoldsMore", fn := fun _ => fun
  | [d1, d2] => { results := [.lit (.bool false)], args := [d1, d2] }
  | _ => none }
def FnHoldsMoreWrongFalsely : Prop := fnHoldsMoreRow.holds Try.pinned (OpenSpec.ofChange fnHoldsMoreWrong)

/-- 'laws.FnHoldsPart': WHATEVER THE INPUT: true; the input reads as it did. -/
def fnHoldsPartSpec : ChangeSpec := { name := "fnHoldsPart", fn := fun _ => fun
  | [d] => { results := [.lit (.bool true)], args := [d] }
  | _ => none }
def fnHoldsPartRow : OpenClaim := { program := "ytdhllcejahdjfaa", sum := "0339622f650f5c9ae59c240375e2e0175864de37d967266b6d48f0d580ac617a", func := "loop.example/separation/laws.FnHoldsPart", spec := "fnHoldsPart", apart := false }
def FnHoldsPartSaid : Prop := fnHoldsPartRow.holds Try.pinned (OpenSpec.ofChange fnHoldsPartSpec)

/-- ITS FALSE NEIGHBOUR: 'it returns false'. Refute it at one input. -/
def fnHoldsPartWrong : ChangeSpec := { name := "fnHoldsPart", fn := fun _ => fun
  | [d] => { results := [.lit (.bool false)], args := [d] }
  | _ => none }
def FnHoldsPartWrongFalsely : Prop := fnHoldsPartRow.holds Try.pinned (OpenSpec.ofChange fnHoldsPartWrong)

/-- 'laws.FnHoldsStar': WHATEVER THE INPUT: true; the input reads as it did. -/
def fnHoldsStarSpec : ChangeSpec := { name := "fnHoldsStar", fn := fun _ => fun
  | [d1, d2] => { results := [.lit (.bool true)], args := [d1, d2] }
  | _ => none }
def fnHoldsStarRow : OpenClaim := { program := "ytdhllcejahdjfaa", sum := "0339622f650f5c9ae59c240375e2e0175864de37d967266b6d48f0d580ac617a", func := "loop.example/separation/laws.FnHoldsStar", spec := "fnHoldsStar", apart := false }
def FnHoldsStarSaid : Prop := fnHoldsStarRow.holds Try.pinned (OpenSpec.ofChange fnHoldsStarSpec)

/-- ITS FALSE NEIGHBOUR: 'it returns false'. Refute it at one input. -/
def fnHoldsStarWrong : ChangeSpec := { name := "fnHoldsStar", fn := fun _ => fun
  | [d1, d2] => { results := [.lit (.bool false)], args := [d1, d2] }
  | _ => none }
def FnHoldsStarWrongFalsely : Prop := fnHoldsStarRow.holds Try.pinned (OpenSpec.ofChange fnHoldsStarWrong)

/-- 'laws.FnEntailsEmpty': WHATEVER THE INPUT: true; the input reads as it did. -/
def fnEntailsEmptySpec : ChangeSpec := { name := "fnEntailsEmpty", fn := fun _ => fun
  | [d] => { results := [.lit (.bool true)], args := [d] }
  | _ => none }
def fnEntailsEmptyRow : OpenClaim := { program := "ytdhllcejahdjfaa", sum := "0339622f650f5c9ae59c240375e2e0175864de37d967266b6d48f0d580ac617a", func := "loop.example/separation/laws.FnEntailsEmpty", spec := "fnEntailsEmpty", unfollowed := true, recurses := true, apart := false }
def FnEntailsEmptySaid : Prop := fnEntailsEmptyRow.holds Try.pinned (OpenSpec.ofChange fnEntailsEmptySpec)

/-- ITS FALSE NEIGHBOUR: 'it returns false'. Refute it at one input. -/
def fnEntailsEmptyWrong : ChangeSpec := { name := "fnEntailsEmpty", fn := fun _ => fun
  | [d] => { results := [.lit (.bool false)], args := [d] }
  | _ => none }
def FnEntailsEmptyWrongFalsely : Prop := fnEntailsEmptyRow.holds Try.pinned (OpenSpec.ofChange fnEntailsEmptyWrong)

/-- 'laws.FnFailingCase': WHATEVER THE INPUT: true; the input reads as it did. -/
def fnFailingCaseSpec : ChangeSpec := { name := "fnFailingCase", fn := fun _ => fun
  | [d] => { results := [.lit (.bool true)], args := [d] }
  | _ => none }
def fnFailingCaseRow : OpenClaim := { program := "ytdhllcejahdjfaa", sum := "0339622f650f5c9ae59c240375e2e0175864de37d967266b6d48f0d580ac617a", func := "loop.example/separation/laws.FnFailingCase", spec := "fnFailingCase", unfollowed := true, recurses := true, apart := false }
def FnFailingCaseSaid : Prop := fnFailingCaseRow.holds Try.pinned (OpenSpec.ofChange fnFailingCaseSpec)

/-- ITS FALSE NEIGHBOUR: 'it returns false'. Refute it at one input. -/
def fnFailingCaseWrong : ChangeSpec := { name := "fnFailingCase", fn := fun _ => fun
  | [d] => { results := [.lit (.bool false)], args := [d] }
  | _ => none }
def FnFailingCaseWrongFalsely : Prop := fnFailingCaseRow.holds Try.pinned (OpenSpec.ofChange fnFailingCaseWrong)

/-- 'laws.FnExactFrameContract': WHATEVER THE INPUT: true; the input reads as it did. -/
def fnExactFrameContractSpec : ChangeSpec := { name := "fnExactFrameContract", fn := fun _ => fun
  | [d1, d2] => { results := [.lit (.bool true)], args := [d1, d2] }
  | _ => none }
def fnExactFrameContractRow : OpenClaim := { program := "ytdhllcejahdjfaa", sum := "0339622f650f5c9ae59c240375e2e0175864de37d967266b6d48f0d580ac617a", func := "loop.example/separation/laws.FnExactFrameContract", spec := "fnExactFrameContract", apart := false }
def FnExactFrameContractSaid : Prop := fnExactFrameContractRow.holds Try.pinned (OpenSpec.ofChange fnExactFrameContractSpec)

/-- ITS FALSE NEIGHBOUR: 'it returns false'. Refute it at one input. -/
def fnExactFrameContractWrong : ChangeSpec := { name := "fnExactFrameContract", fn := fun _ => fun
  | [d1, d2] => { results := [.lit (.bool false)], args := [d1, d2] }
  | _ => none }
def FnExactFrameContractWrongFalsely : Prop := fnExactFrameContractRow.holds Try.pinned (OpenSpec.ofChange fnExactFrameContractWrong)

/-- 'laws.FnCaseOf': WHATEVER THE INPUT: true; the input reads as it did. -/
def fnCaseOfSpec : ChangeSpec := { name := "fnCaseOf", fn := fun _ => fun
  | [d] => { results := [.lit (.bool true)], args := [d] }
  | _ => none }
def fnCaseOfRow : OpenClaim := { program := "ytdhllcejahdjfaa", sum := "0339622f650f5c9ae59c240375e2e0175864de37d967266b6d48f0d580ac617a", func := "loop.example/separation/laws.FnCaseOf", spec := "fnCaseOf", unfollowed := true, recurses := true, apart := false }
def FnCaseOfSaid : Prop := fnCaseOfRow.holds Try.pinned (OpenSpec.ofChange fnCaseOfSpec)

/-- ITS FALSE NEIGHBOUR: 'it returns false'. Refute it at one input. -/
def fnCaseOfWrong : ChangeSpec := { name := "fnCaseOf", fn := fun _ => fun
  | [d] => { results := [.lit (.bool false)], args := [d] }
  | _ => none }
def FnCaseOfWrongFalsely : Prop := fnCaseOfRow.holds Try.pinned (OpenSpec.ofChange fnCaseOfWrong)

/-- 'laws.FnModelOf': WHATEVER THE INPUT: true; the input reads as it did. -/
def fnModelOfSpec : ChangeSpec := { name := "fnModelOf", fn := fun _ => fun
  | [d] => { results := [.lit (.bool true)], args := [d] }
  | _ => none }
def fnModelOfRow : OpenClaim := { program := "ytdhllcejahdjfaa", sum := "0339622f650f5c9ae59c240375e2e0175864de37d967266b6d48f0d580ac617a", func := "loop.example/separation/laws.FnModelOf", spec := "fnModelOf", unfollowed := true, recurses := true, apart := false }
def FnModelOfSaid : Prop := fnModelOfRow.holds Try.pinned (OpenSpec.ofChange fnModelOfSpec)

/-- ITS FALSE NEIGHBOUR: 'it returns false'. Refute it at one input. -/
def fnModelOfWrong : ChangeSpec := { name := "fnModelOf", fn := fun _ => fun
  | [d] => { results := [.lit (.bool false)], args := [d] }
  | _ => none }
def FnModelOfWrongFalsely : Prop := fnModelOfRow.holds Try.pinned (OpenSpec.ofChange fnModelOfWrong)

/-- 'laws.FnEntailsCase': WHATEVER THE INPUT: true; the input reads as it did. -/
def fnEntailsCaseSpec : ChangeSpec := { name := "fnEntailsCase", fn := fun _ => fun
  | [d] => { results := [.lit (.bool true)], args := [d] }
  | _ => none }
def fnEntailsCaseRow : OpenClaim := { program := "ytdhllcejahdjfaa", sum := "0339622f650f5c9ae59c240375e2e0175864de37d967266b6d48f0d580ac617a", func := "loop.example/separation/laws.FnEntailsCase", spec := "fnEntailsCase", unfollowed := true, recurses := true, apart := false }
def FnEntailsCaseSaid : Prop := fnEntailsCaseRow.holds Try.pinned (OpenSpec.ofChange fnEntailsCaseSpec)

/-- ITS FALSE NEIGHBOUR: 'it returns false'. Refute it at one input. -/
def fnEntailsCaseWrong : ChangeSpec := { name := "fnEntailsCase", fn := fun _ => fun
  | [d] => { results := [.lit (.bool false)], args := [d] }
  | _ => none }
def FnEntailsCaseWrongFalsely : Prop := fnEntailsCaseRow.holds Try.pinned (OpenSpec.ofChange fnEntailsCaseWrong)

/- THE SECOND FORM. 'bulk': how many values and letters a reading holds, each counted each time it is reached (what is shared counts as often as it is met; a slice's spare places count too). A statement '..UptoSaid' is the law's where the arguments, and the package variables that the reading takes, are together of bulk at most 1048576: NARROWER than '..Said'. Prove '..Said' where nothing that the law and all that it calls make is longer than what came in: it says more and counts as full. Else prove '..UptoSaid'. A law counts once. -/
mutual
def uptoBulk {H : Type} : DataW H → Nat
  | .lit (.string bytes) => bytes.length + 1
  | .lit _ => 1
  | .nil => 1
  | .ptr d => uptoBulk d + 1
  | .slice elems spare => uptoBulkAll elems + uptoBulkAll spare + 1
  | .agg parts => uptoBulkAll parts + 1
  | .iface _ d => uptoBulk d + 1
  | .map entries => uptoBulkEntries entries + 1
  | .held _ => 1
def uptoBulkAll {H : Type} : List (DataW H) → Nat
  | [] => 0
  | d :: r => uptoBulk d + uptoBulkAll r
def uptoBulkEntries {H : Type} : List (Lit × DataW H) → Nat
  | [] => 0
  | x :: r => uptoBulkEntry x + uptoBulkEntries r
def uptoBulkEntry {H : Type} : Lit × DataW H → Nat
  | (.string bytes, d) => bytes.length + uptoBulk d + 1
  | (_, d) => uptoBulk d + 1
 end
def uptoSmall : (H : Type) → List (DataW H) → Bool := fun _ ds => decide (uptoBulkAll ds ≤ 1048576)
def OpenSpec.upto (s : _root_.Go.ChangeSpec) : _root_.Go.OpenSpec := { _root_.Go.OpenSpec.ofChange s with cond := some uptoSmall }

/-- 'laws.FnTidyAssertion', WHERE WHAT IT READS IS OF BULK AT MOST 1048576: true; the input reads as it did. -/
def fnTidyAssertionUptoRow : OpenClaim := { program := "ytdhllcejahdjfaa", sum := "0339622f650f5c9ae59c240375e2e0175864de37d967266b6d48f0d580ac617a", func := "loop.example/separation/laws.FnTidyAssertion", spec := "fnTidyAssertion", unfollowed := true, recurses := true, apart := false, narrowed := true }
def FnTidyAssertionUptoSaid : Prop := fnTidyAssertionUptoRow.holds Try.pinned (OpenSpec.upto fnTidyAssertionSpec)

/-- 'laws.FnHoldsMore', WHERE WHAT IT READS IS OF BULK AT MOST 1048576: true; the input reads as it did. -/
def fnHoldsMoreUptoRow : OpenClaim := { program := "ytdhllcejahdjfaa", sum := "0339622f650f5c9ae59c240375e2e0175864de37d967266b6d48f0d580ac617a", func := "loop.example/separation/laws.FnHoldsMore", spec := "fnHoldsMore", apart := false, narrowed := true }
def FnHoldsMoreUptoSaid : Prop := fnHoldsMoreUptoRow.holds Try.pinned (OpenSpec.upto fnHoldsMoreSpec)

/-- 'laws.FnHoldsPart', WHERE WHAT IT READS IS OF BULK AT MOST 1048576: true; the input reads as it did. -/
def fnHoldsPartUptoRow : OpenClaim := { program := "ytdhllcejahdjfaa", sum := "0339622f650f5c9ae59c240375e2e0175864de37d967266b6d48f0d580ac617a", func := "loop.example/separation/laws.FnHoldsPart", spec := "fnHoldsPart", apart := false, narrowed := true }
def FnHoldsPartUptoSaid : Prop := fnHoldsPartUptoRow.holds Try.pinned (OpenSpec.upto fnHoldsPartSpec)

/-- 'laws.FnHoldsStar', WHERE WHAT IT READS IS OF BULK AT MOST 1048576: true; the input reads as it did. -/
def fnHoldsStarUptoRow : OpenClaim := { program := "ytdhllcejahdjfaa", sum := "0339622f650f5c9ae59c240375e2e0175864de37d967266b6d48f0d580ac617a", func := "loop.example/separation/laws.FnHoldsStar", spec := "fnHoldsStar", apart := false, narrowed := true }
def FnHoldsStarUptoSaid : Prop := fnHoldsStarUptoRow.holds Try.pinned (OpenSpec.upto fnHoldsStarSpec)

/-- 'laws.FnEntailsEmpty', WHERE WHAT IT READS IS OF BULK AT MOST 1048576: true; the input reads as it did. -/
def fnEntailsEmptyUptoRow : OpenClaim := { program := "ytdhllcejahdjfaa", sum := "0339622f650f5c9ae59c240375e2e0175864de37d967266b6d48f0d580ac617a", func := "loop.example/separation/laws.FnEntailsEmpty", spec := "fnEntailsEmpty", unfollowed := true, recurses := true, apart := false, narrowed := true }
def FnEntailsEmptyUptoSaid : Prop := fnEntailsEmptyUptoRow.holds Try.pinned (OpenSpec.upto fnEntailsEmptySpec)

/-- 'laws.FnFailingCase', WHERE WHAT IT READS IS OF BULK AT MOST 1048576: true; the input reads as it did. -/
def fnFailingCaseUptoRow : OpenClaim := { program := "ytdhllcejahdjfaa", sum := "0339622f650f5c9ae59c240375e2e0175864de37d967266b6d48f0d580ac617a", func := "loop.example/separation/laws.FnFailingCase", spec := "fnFailingCase", unfollowed := true, recurses := true, apart := false, narrowed := true }
def FnFailingCaseUptoSaid : Prop := fnFailingCaseUptoRow.holds Try.pinned (OpenSpec.upto fnFailingCaseSpec)

/-- 'laws.FnExactFrameContract', WHERE WHAT IT READS IS OF BULK AT MOST 1048576: true; the input reads as it did. -/
def fnExactFrameContractUptoRow : OpenClaim := { program := "ytdhllcejahdjfaa", sum := "0339622f650f5c9ae59c240375e2e0175864de37d967266b6d48f0d580ac617a", func := "loop.example/separation/laws.FnExactFrameContract", spec := "fnExactFrameContract", apart := false, narrowed := true }
def FnExactFrameContractUptoSaid : Prop := fnExactFrameContractUptoRow.holds Try.pinned (OpenSpec.upto fnExactFrameContractSpec)

/-- 'laws.FnCaseOf', WHERE WHAT IT READS IS OF BULK AT MOST 1048576: true; the input reads as it did. -/
def fnCaseOfUptoRow : OpenClaim := { program := "ytdhllcejahdjfaa", sum := "0339622f650f5c9ae59c240375e2e0175864de37d967266b6d48f0d580ac617a", func := "loop.example/separation/laws.FnCaseOf", spec := "fnCaseOf", unfollowed := true, recurses := true, apart := false, narrowed := true }
def FnCaseOfUptoSaid : Prop := fnCaseOfUptoRow.holds Try.pinned (OpenSpec.upto fnCaseOfSpec)

/-- 'laws.FnModelOf', WHERE WHAT IT READS IS OF BULK AT MOST 1048576: true; the input reads as it did. -/
def fnModelOfUptoRow : OpenClaim := { program := "ytdhllcejahdjfaa", sum := "0339622f650f5c9ae59c240375e2e0175864de37d967266b6d48f0d580ac617a", func := "loop.example/separation/laws.FnModelOf", spec := "fnModelOf", unfollowed := true, recurses := true, apart := false, narrowed := true }
def FnModelOfUptoSaid : Prop := fnModelOfUptoRow.holds Try.pinned (OpenSpec.upto fnModelOfSpec)

/-- 'laws.FnEntailsCase', WHERE WHAT IT READS IS OF BULK AT MOST 1048576: true; the input reads as it did. -/
def fnEntailsCaseUptoRow : OpenClaim := { program := "ytdhllcejahdjfaa", sum := "0339622f650f5c9ae59c240375e2e0175864de37d967266b6d48f0d580ac617a", func := "loop.example/separation/laws.FnEntailsCase", spec := "fnEntailsCase", unfollowed := true, recurses := true, apart := false, narrowed := true }
def FnEntailsCaseUptoSaid : Prop := fnEntailsCaseUptoRow.holds Try.pinned (OpenSpec.upto fnEntailsCaseSpec)

end Rows
end Go.Proofs.Ytdhllcejahdjfaa
