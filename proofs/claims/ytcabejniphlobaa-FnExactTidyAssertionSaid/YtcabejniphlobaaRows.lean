/-
  NARROWER THAN 'FOR EVERY INPUT', by the rows' own cells (each row's printed sentence says how): FnExactChangedTerms: loops · FnExactLogicalTerms: loops.
  DERIVED. THE GIVEN ROWS OF THIS SEAT. 12 by the template 'for every input the law returns true; each argument reads behind the call as it read before'; 0 by the template 'total and deterministic' (their statements: YtcabejniphlobaaTotals.lean).
  GIVEN WITH THE SEED: the statements are not yours to turn. If you find one false, say at which input.
  Laid BY PROGRAM, IN A SANDBOX (cutbox-rows.mjs): the forced cells as the released guide's own fill.sh prints them over the translation e09852e06b32a095… (all of the seat's roots in one cut). By AI agents, Wed Nov 11 2026. No macro, syntax, notation, axiom, sorry.
-/
import Derived.Test.YtcabejniphlobaaChecked
import GoSem.Claim
import GoSem.ClaimJoined
import GoSem.ClaimMapViews
import Derived.JoinedTies
import Derived.KernelRfl
namespace Go.Proofs.Ytcabejniphlobaa
/- THE CELL 'sum', in the pinned program and in every row, IS THE sha256 OF THE DUMP (.gsa) THAT YtcabejniphlobaaProg.lean LOADS. Nothing in Lean hashes anything: it is a label: what it is worth is what the hold of that sum in a sandbox is worth. -/
noncomputable def Try.pinned : Pinned := { name := "ytcabejniphlobaa", sum := "e09852e06b32a095f7b259a2baad0eed0067db8d2f317b685909189a16b0da20", checked := Try.checked }
namespace Rows
def none {H : Type} : Left H := { results := [], args := [] }

/-- 'laws.FnExactHoldsPart': WHATEVER THE INPUT: true; the input reads as it did. -/
def fnExactHoldsPartSpec : ChangeSpec := { name := "fnExactHoldsPart", fn := fun _ => fun
  | [d1, d2] => { results := [.lit (.bool true)], args := [d1, d2] }
  | _ => none }
def fnExactHoldsPartRow : OpenClaim := { program := "ytcabejniphlobaa", sum := "e09852e06b32a095f7b259a2baad0eed0067db8d2f317b685909189a16b0da20", func := "loop.example/separation/laws.FnExactHoldsPart", spec := "fnExactHoldsPart", apart := false }
def FnExactHoldsPartSaid : Prop := fnExactHoldsPartRow.holds Try.pinned (OpenSpec.ofChange fnExactHoldsPartSpec)

/-- ITS FALSE NEIGHBOUR: 'it returns false'. Refute it at one input. -/
def fnExactHoldsPartWrong : ChangeSpec := { name := "fnExactHoldsPart", fn := fun _ => fun
  | [d1, d2] => { results := [.lit (.bool false)], args := [d1, d2] }
  | _ => none }
def FnExactHoldsPartWrongFalsely : Prop := fnExactHoldsPartRow.holds Try.pinned (OpenSpec.ofChange fnExactHoldsPartWrong)

/-- 'laws.FnHoldsMore': WHATEVER THE INPUT: true; the input reads as it did. -/
def fnHoldsMoreSpec : ChangeSpec := { name := "fnHoldsMore", fn := fun _ => fun
  | [d1, d2] => { results := [.lit (.bool true)], args := [d1, d2] }
  | _ => none }
def fnHoldsMoreRow : OpenClaim := { program := "ytcabejniphlobaa", sum := "e09852e06b32a095f7b259a2baad0eed0067db8d2f317b685909189a16b0da20", func := "loop.example/separation/laws.FnHoldsMore", spec := "fnHoldsMore", apart := false }
def FnHoldsMoreSaid : Prop := fnHoldsMoreRow.holds Try.pinned (OpenSpec.ofChange fnHoldsMoreSpec)

/-- ITS FALSE NEIGHBOUR: 'it returns false'. Refute it at one input. -/
def fnHoldsMoreWrong : ChangeSpec := { name := "fnHoldsMore", fn := fun _ => fun
  | [d1, d2] => { results := [.lit (.bool false)], args := [d1, d2] }
  | _ => none }
def FnHoldsMoreWrongFalsely : Prop := fnHoldsMoreRow.holds Try.pinned (OpenSpec.ofChange fnHoldsMoreWrong)

/-- 'laws.FnExactTidyAssertion': WHATEVER THE INPUT: true; the input reads as it did. -/
def fnExactTidyAssertionSpec : ChangeSpec := { name := "fnExactTidyAssertion", fn := fun _ => fun
  | [d1, d2] => { results := [.lit (.bool true)], args := [d1, d2] }
  | _ => none }
def fnExactTidyAssertionRow : OpenClaim := { program := "ytcabejniphlobaa", sum := "e09852e06b32a095f7b259a2baad0eed0067db8d2f317b685909189a16b0da20", func := "loop.example/separation/laws.FnExactTidyAssertion", spec := "fnExactTidyAssertion", apart := false }
def FnExactTidyAssertionSaid : Prop := fnExactTidyAssertionRow.holds Try.pinned (OpenSpec.ofChange fnExactTidyAssertionSpec)

/-- ITS FALSE NEIGHBOUR: 'it returns false'. Refute it at one input. -/
def fnExactTidyAssertionWrong : ChangeSpec := { name := "fnExactTidyAssertion", fn := fun _ => fun
  | [d1, d2] => { results := [.lit (.bool false)], args := [d1, d2] }
  | _ => none }
def FnExactTidyAssertionWrongFalsely : Prop := fnExactTidyAssertionRow.holds Try.pinned (OpenSpec.ofChange fnExactTidyAssertionWrong)

/-- 'laws.FnExactChangedTerms': WHATEVER THE INPUT: true; the input reads as it did. -/
def fnExactChangedTermsSpec : ChangeSpec := { name := "fnExactChangedTerms", fn := fun _ => fun
  | [d] => { results := [.lit (.bool true)], args := [d] }
  | _ => none }
def fnExactChangedTermsRow : OpenClaim := { program := "ytcabejniphlobaa", sum := "e09852e06b32a095f7b259a2baad0eed0067db8d2f317b685909189a16b0da20", func := "loop.example/separation/laws.FnExactChangedTerms", spec := "fnExactChangedTerms", unfollowed := true, recurses := true, loops := true, apart := false }
def FnExactChangedTermsSaid : Prop := fnExactChangedTermsRow.holds Try.pinned (OpenSpec.ofChange fnExactChangedTermsSpec)

/-- ITS FALSE NEIGHBOUR: 'it returns false'. Refute it at one input. -/
def fnExactChangedTermsWrong : ChangeSpec := { name := "fnExactChangedTerms", fn := fun _ => fun
  | [d] => { results := [.lit (.bool false)], args := [d] }
  | _ => none }
def FnExactChangedTermsWrongFalsely : Prop := fnExactChangedTermsRow.holds Try.pinned (OpenSpec.ofChange fnExactChangedTermsWrong)

/-- 'laws.FnHoldsPart': WHATEVER THE INPUT: true; the input reads as it did. -/
def fnHoldsPartSpec : ChangeSpec := { name := "fnHoldsPart", fn := fun _ => fun
  | [d] => { results := [.lit (.bool true)], args := [d] }
  | _ => none }
def fnHoldsPartRow : OpenClaim := { program := "ytcabejniphlobaa", sum := "e09852e06b32a095f7b259a2baad0eed0067db8d2f317b685909189a16b0da20", func := "loop.example/separation/laws.FnHoldsPart", spec := "fnHoldsPart", apart := false }
def FnHoldsPartSaid : Prop := fnHoldsPartRow.holds Try.pinned (OpenSpec.ofChange fnHoldsPartSpec)

/-- ITS FALSE NEIGHBOUR: 'it returns false'. Refute it at one input. -/
def fnHoldsPartWrong : ChangeSpec := { name := "fnHoldsPart", fn := fun _ => fun
  | [d] => { results := [.lit (.bool false)], args := [d] }
  | _ => none }
def FnHoldsPartWrongFalsely : Prop := fnHoldsPartRow.holds Try.pinned (OpenSpec.ofChange fnHoldsPartWrong)

/-- 'laws.FnHoldsStar': WHATEVER THE INPUT: true; the input reads as it did. -/
def fnHoldsStarSpec : ChangeSpec := { name := "fnHoldsStar", fn := fun _ => fun
  | [d1, d2] => { results := [.lit (.bool true)], args := [d1, d2] }
  | _ => none }
def fnHoldsStarRow : OpenClaim := { program := "ytcabejniphlobaa", sum := "e09852e06b32a095f7b259a2baad0eed0067db8d2f317b685909189a16b0da20", func := "loop.example/separation/laws.FnHoldsStar", spec := "fnHoldsStar", apart := false }
def FnHoldsStarSaid : Prop := fnHoldsStarRow.holds Try.pinned (OpenSpec.ofChange fnHoldsStarSpec)

/-- ITS FALSE NEIGHBOUR: 'it returns false'. Refute it at one input. -/
def fnHoldsStarWrong : ChangeSpec := { name := "fnHoldsStar", fn := fun _ => fun
  | [d1, d2] => { results := [.lit (.bool false)], args := [d1, d2] }
  | _ => none }
def FnHoldsStarWrongFalsely : Prop := fnHoldsStarRow.holds Try.pinned (OpenSpec.ofChange fnHoldsStarWrong)

/-- 'laws.FnCaseOf': WHATEVER THE INPUT: true; the input reads as it did. -/
def fnCaseOfSpec : ChangeSpec := { name := "fnCaseOf", fn := fun _ => fun
  | [d] => { results := [.lit (.bool true)], args := [d] }
  | _ => none }
def fnCaseOfRow : OpenClaim := { program := "ytcabejniphlobaa", sum := "e09852e06b32a095f7b259a2baad0eed0067db8d2f317b685909189a16b0da20", func := "loop.example/separation/laws.FnCaseOf", spec := "fnCaseOf", unfollowed := true, recurses := true, apart := false }
def FnCaseOfSaid : Prop := fnCaseOfRow.holds Try.pinned (OpenSpec.ofChange fnCaseOfSpec)

/-- ITS FALSE NEIGHBOUR: 'it returns false'. Refute it at one input. -/
def fnCaseOfWrong : ChangeSpec := { name := "fnCaseOf", fn := fun _ => fun
  | [d] => { results := [.lit (.bool false)], args := [d] }
  | _ => none }
def FnCaseOfWrongFalsely : Prop := fnCaseOfRow.holds Try.pinned (OpenSpec.ofChange fnCaseOfWrong)

/-- 'laws.FnExactLogicalTerms': WHATEVER THE INPUT: true; the input reads as it did. -/
def fnExactLogicalTermsSpec : ChangeSpec := { name := "fnExactLogicalTerms", fn := fun _ => fun
  | [d] => { results := [.lit (.bool true)], args := [d] }
  | _ => none }
def fnExactLogicalTermsRow : OpenClaim := { program := "ytcabejniphlobaa", sum := "e09852e06b32a095f7b259a2baad0eed0067db8d2f317b685909189a16b0da20", func := "loop.example/separation/laws.FnExactLogicalTerms", spec := "fnExactLogicalTerms", unfollowed := true, recurses := true, loops := true, apart := false }
def FnExactLogicalTermsSaid : Prop := fnExactLogicalTermsRow.holds Try.pinned (OpenSpec.ofChange fnExactLogicalTermsSpec)

/-- ITS FALSE NEIGHBOUR: 'it returns false'. Refute it at one input. -/
def fnExactLogicalTermsWrong : ChangeSpec := { name := "fnExactLogicalTerms", fn := fun _ => fun
  | [d] => { results := [.lit (.bool false)], args := [d] }
  | _ => none }
def FnExactLogicalTermsWrongFalsely : Prop := fnExactLogicalTermsRow.holds Try.pinned (OpenSpec.ofChange fnExactLogicalTermsWrong)

/-- 'laws.FnEntailsEmpty': WHATEVER THE INPUT: true; the input reads as it did. -/
def fnEntailsEmptySpec : ChangeSpec := { name := "fnEntailsEmpty", fn := fun _ => fun
  | [d] => { results := [.lit (.bool true)], args := [d] }
  | _ => none }
def fnEntailsEmptyRow : OpenClaim := { program := "ytcabejniphlobaa", sum := "e09852e06b32a095f7b259a2baad0eed0067db8d2f317b685909189a16b0da20", func := "loop.example/separation/laws.FnEntailsEmpty", spec := "fnEntailsEmpty", unfollowed := true, recurses := true, apart := false }
def FnEntailsEmptySaid : Prop := fnEntailsEmptyRow.holds Try.pinned (OpenSpec.ofChange fnEntailsEmptySpec)

/-- ITS FALSE NEIGHBOUR: 'it returns false'. Refute it at one input. -/
def fnEntailsEmptyWrong : ChangeSpec := { name := "fnEntailsEmpty", fn := fun _ => fun
  | [d] => { results := [.lit (.bool false)], args := [d] }
  | _ => none }
def FnEntailsEmptyWrongFalsely : Prop := fnEntailsEmptyRow.holds Try.pinned (OpenSpec.ofChange fnEntailsEmptyWrong)

/-- 'laws.FnModelOf': WHATEVER THE INPUT: true; the input reads as it did. -/
def fnModelOfSpec : ChangeSpec := { name := "fnModelOf", fn := fun _ => fun
  | [d] => { results := [.lit (.bool true)], args := [d] }
  | _ => none }
def fnModelOfRow : OpenClaim := { program := "ytcabejniphlobaa", sum := "e09852e06b32a095f7b259a2baad0eed0067db8d2f317b685909189a16b0da20", func := "loop.example/separation/laws.FnModelOf", spec := "fnModelOf", unfollowed := true, recurses := true, apart := false }
def FnModelOfSaid : Prop := fnModelOfRow.holds Try.pinned (OpenSpec.ofChange fnModelOfSpec)

/-- ITS FALSE NEIGHBOUR: 'it returns false'. Refute it at one input. -/
def fnModelOfWrong : ChangeSpec := { name := "fnModelOf", fn := fun _ => fun
  | [d] => { results := [.lit (.bool false)], args := [d] }
  | _ => none }
def FnModelOfWrongFalsely : Prop := fnModelOfRow.holds Try.pinned (OpenSpec.ofChange fnModelOfWrong)

/-- 'laws.FnTidyAssertion': WHATEVER THE INPUT: true; the input reads as it did. -/
def fnTidyAssertionSpec : ChangeSpec := { name := "fnTidyAssertion", fn := fun _ => fun
  | [d] => { results := [.lit (.bool true)], args := [d] }
  | _ => none }
def fnTidyAssertionRow : OpenClaim := { program := "ytcabejniphlobaa", sum := "e09852e06b32a095f7b259a2baad0eed0067db8d2f317b685909189a16b0da20", func := "loop.example/separation/laws.FnTidyAssertion", spec := "fnTidyAssertion", unfollowed := true, recurses := true, apart := false }
def FnTidyAssertionSaid : Prop := fnTidyAssertionRow.holds Try.pinned (OpenSpec.ofChange fnTidyAssertionSpec)

/-- ITS FALSE NEIGHBOUR: 'it returns false'. Refute it at one input. -/
def fnTidyAssertionWrong : ChangeSpec := { name := "fnTidyAssertion", fn := fun _ => fun
  | [d] => { results := [.lit (.bool false)], args := [d] }
  | _ => none }
def FnTidyAssertionWrongFalsely : Prop := fnTidyAssertionRow.holds Try.pinned (OpenSpec.ofChange fnTidyAssertionWrong)

/-- 'laws.FnExactFailingCase': WHATEVER THE INPUT: true; the input reads as it did. -/
def fnExactFailingCaseSpec : ChangeSpec := { name := "fnExactFailingCase", fn := fun _ => fun
  | [d1, d2] => { results := [.lit (.bool true)], args := [d1, d2] }
  | _ => none }
def fnExactFailingCaseRow : OpenClaim := { program := "ytcabejniphlobaa", sum := "e09852e06b32a095f7b259a2baad0eed0067db8d2f317b685909189a16b0da20", func := "loop.example/separation/laws.FnExactFailingCase", spec := "fnExactFailingCase", unfollowed := true, recurses := true, apart := false }
def FnExactFailingCaseSaid : Prop := fnExactFailingCaseRow.holds Try.pinned (OpenSpec.ofChange fnExactFailingCaseSpec)

/-- ITS FALSE NEIGHBOUR: 'it returns false'. Refute it at one input. -/
def fnExactFailingCaseWrong : ChangeSpec := { name := "fnExactFailingCase", fn := fun _ => fun
  | [d1, d2] => { results := [.lit (.bool false)], args := [d1, d2] }
  | _ => none }
def FnExactFailingCaseWrongFalsely : Prop := fnExactFailingCaseRow.holds Try.pinned (OpenSpec.ofChange fnExactFailingCaseWrong)

/- THE SECOND FORM. 'bulk': how many values and letters a reading holds, each counted each time it is reached (what is shared counts as often as it is met; a slice's spare places count too). A statement '..UptoSaid' is the law's where the arguments, and the package variables that the reading takes, are together of bulk at most 1048576: NARROWER than '..Said'. Prove '..Said' where nothing that the law and all that it calls make is longer than what came in: it says more and counts as full. Else prove '..UptoSaid'. A law counts once. -/
mutual
def uptoBulk {H : Type} : DataW H → Nat
  | .lit (.string bytes) => bytes.length + 1
  | .lit _ => 1
  | .nil => 1
  | .ptr d => uptoBulk d + 1
  | .slice elems spare => uptoBulkAll elems + uptoBulkAll spare + 1
  | .agg parts => uptoBulkAll parts + 1
  | .iface _ d => uptoBulk d + 1
  | .map entries => uptoBulkEntries entries + 1
  | .held _ => 1
def uptoBulkAll {H : Type} : List (DataW H) → Nat
  | [] => 0
  | d :: r => uptoBulk d + uptoBulkAll r
def uptoBulkEntries {H : Type} : List (Lit × DataW H) → Nat
  | [] => 0
  | x :: r => uptoBulkEntry x + uptoBulkEntries r
def uptoBulkEntry {H : Type} : Lit × DataW H → Nat
  | (.string bytes, d) => bytes.length + uptoBulk d + 1
  | (_, d) => uptoBulk d + 1
 end
def uptoSmall : (H : Type) → List (DataW H) → Bool := fun _ ds => decide (uptoBulkAll ds ≤ 1048576)
def OpenSpec.upto (s : _root_.Go.ChangeSpec) : _root_.Go.OpenSpec := { _root_.Go.OpenSpec.ofChange s with cond := some uptoSmall }

/-- 'laws.FnExactHoldsPart', WHERE WHAT IT READS IS OF BULK AT MOST 1048576: true; the input reads as it did. -/
def fnExactHoldsPartUptoRow : OpenClaim := { program := "ytcabejniphlobaa", sum := "e09852e06b32a095f7b259a2baad0eed0067db8d2f317b685909189a16b0da20", func := "loop.example/separation/laws.FnExactHoldsPart", spec := "fnExactHoldsPart", apart := false, narrowed := true }
def FnExactHoldsPartUptoSaid : Prop := fnExactHoldsPartUptoRow.holds Try.pinned (OpenSpec.upto fnExactHoldsPartSpec)

/-- 'laws.FnHoldsMore', WHERE WHAT IT READS IS OF BULK AT MOST 1048576: true; the input reads as it did. -/
def fnHoldsMoreUptoRow : OpenClaim := { program := "ytcabejniphlobaa", sum := "e09852e06b32a095f7b259a2baad0eed0067db8d2f317b685909189a16b0da20", func := "loop.example/separation/laws.FnHoldsMore", spec := "fnHoldsMore", apart := false, narrowed := true }
def FnHoldsMoreUptoSaid : Prop := fnHoldsMoreUptoRow.holds Try.pinned (OpenSpec.upto fnHoldsMoreSpec)

/-- 'laws.FnExactTidyAssertion', WHERE WHAT IT READS IS OF BULK AT MOST 1048576: true; the input reads as it did. -/
def fnExactTidyAssertionUptoRow : OpenClaim := { program := "ytcabejniphlobaa", sum := "e09852e06b32a095f7b259a2baad0eed0067db8d2f317b685909189a16b0da20", func := "loop.example/separation/laws.FnExactTidyAssertion", spec := "fnExactTidyAssertion", apart := false, narrowed := true }
def FnExactTidyAssertionUptoSaid : Prop := fnExactTidyAssertionUptoRow.holds Try.pinned (OpenSpec.upto fnExactTidyAssertionSpec)

/-- 'laws.FnExactChangedTerms', WHERE WHAT IT READS IS OF BULK AT MOST 1048576: true; the input reads as it did. -/
def fnExactChangedTermsUptoRow : OpenClaim := { program := "ytcabejniphlobaa", sum := "e09852e06b32a095f7b259a2baad0eed0067db8d2f317b685909189a16b0da20", func := "loop.example/separation/laws.FnExactChangedTerms", spec := "fnExactChangedTerms", unfollowed := true, recurses := true, loops := true, apart := false, narrowed := true }
def FnExactChangedTermsUptoSaid : Prop := fnExactChangedTermsUptoRow.holds Try.pinned (OpenSpec.upto fnExactChangedTermsSpec)

/-- 'laws.FnHoldsPart', WHERE WHAT IT READS IS OF BULK AT MOST 1048576: true; the input reads as it did. -/
def fnHoldsPartUptoRow : OpenClaim := { program := "ytcabejniphlobaa", sum := "e09852e06b32a095f7b259a2baad0eed0067db8d2f317b685909189a16b0da20", func := "loop.example/separation/laws.FnHoldsPart", spec := "fnHoldsPart", apart := false, narrowed := true }
def FnHoldsPartUptoSaid : Prop := fnHoldsPartUptoRow.holds Try.pinned (OpenSpec.upto fnHoldsPartSpec)

/-- 'laws.FnHoldsStar', WHERE WHAT IT READS IS OF BULK AT MOST 1048576: true; the input reads as it did. -/
def fnHoldsStarUptoRow : OpenClaim := { program := "ytcabejniphlobaa", sum := "e09852e06b32a095f7b259a2baad0eed0067db8d2f317b685909189a16b0da20", func := "loop.example/separation/laws.FnHoldsStar", spec := "fnHoldsStar", apart := false, narrowed := true }
def FnHoldsStarUptoSaid : Prop := fnHoldsStarUptoRow.holds Try.pinned (OpenSpec.upto fnHoldsStarSpec)

/-- 'laws.FnCaseOf', WHERE WHAT IT READS IS OF BULK AT MOST 1048576: true; the input reads as it did. -/
def fnCaseOfUptoRow : OpenClaim := { program := "ytcabejniphlobaa", sum := "e09852e06b32a095f7b259a2baad0eed0067db8d2f317b685909189a16b0da20", func := "loop.example/separation/laws.FnCaseOf", spec := "fnCaseOf", unfollowed := true, recurses := true, apart := false, narrowed := true }
def FnCaseOfUptoSaid : Prop := fnCaseOfUptoRow.holds Try.pinned (OpenSpec.upto fnCaseOfSpec)

/-- 'laws.FnExactLogicalTerms', WHERE WHAT IT READS IS OF BULK AT MOST 1048576: true; the input reads as it did. -/
def fnExactLogicalTermsUptoRow : OpenClaim := { program := "ytcabejniphlobaa", sum := "e09852e06b32a095f7b259a2baad0eed0067db8d2f317b685909189a16b0da20", func := "loop.example/separation/laws.FnExactLogicalTerms", spec := "fnExactLogicalTerms", unfollowed := true, recurses := true, loops := true, apart := false, narrowed := true }
def FnExactLogicalTermsUptoSaid : Prop := fnExactLogicalTermsUptoRow.holds Try.pinned (OpenSpec.upto fnExactLogicalTermsSpec)

/-- 'laws.FnEntailsEmpty', WHERE WHAT IT READS IS OF BULK AT MOST 1048576: true; the input reads as it did. -/
def fnEntailsEmptyUptoRow : OpenClaim := { program := "ytcabejniphlobaa", sum := "e09852e06b32a095f7b259a2baad0eed0067db8d2f317b685909189a16b0da20", func := "loop.example/separation/laws.FnEntailsEmpty", spec := "fnEntailsEmpty", unfollowed := true, recurses := true, apart := false, narrowed := true }
def FnEntailsEmptyUptoSaid : Prop := fnEntailsEmptyUptoRow.holds Try.pinned (OpenSpec.upto fnEntailsEmptySpec)

/-- 'laws.FnModelOf', WHERE WHAT IT READS IS OF BULK AT MOST 1048576: true; the input reads as it did. -/
def fnModelOfUptoRow : OpenClaim := { program := "ytcabejniphlobaa", sum := "e09852e06b32a095f7b259a2baad0eed0067db8d2f317b685909189a16b0da20", func := "loop.example/separation/laws.FnModelOf", spec := "fnModelOf", unfollowed := true, recurses := true, apart := false, narrowed := true }
def FnModelOfUptoSaid : Prop := fnModelOfUptoRow.holds Try.pinned (OpenSpec.upto fnModelOfSpec)

/-- 'laws.FnTidyAssertion', WHERE WHAT IT READS IS OF BULK AT MOST 1048576: true; the input reads as it did. -/
def fnTidyAssertionUptoRow : OpenClaim := { program := "ytcabejniphlobaa", sum := "e09852e06b32a095f7b259a2baad0eed0067db8d2f317b685909189a16b0da20", func := "loop.example/separation/laws.FnTidyAssertion", spec := "fnTidyAssertion", unfollowed := true, recurses := true, apart := false, narrowed := true }
def FnTidyAssertionUptoSaid : Prop := fnTidyAssertionUptoRow.holds Try.pinned (OpenSpec.upto fnTidyAssertionSpec)

/-- 'laws.FnExactFailingCase', WHERE WHAT IT READS IS OF BULK AT MOST 1048576: true; the input reads as it did. -/
def fnExactFailingCaseUptoRow : OpenClaim := { program := "ytcabejniphlobaa", sum := "e09852e06b32a095f7b259a2baad0eed0067db8d2f317b685909189a16b0da20", func := "loop.example/separation/laws.FnExactFailingCase", spec := "fnExactFailingCase", unfollowed := true, recurses := true, apart := false, narrowed := true }
def FnExactFailingCaseUptoSaid : Prop := fnExactFailingCaseUptoRow.holds Try.pinned (OpenSpec.upto fnExactFailingCaseSpec)

end Rows
end Go.Proofs.Ytcabejniphlobaa
