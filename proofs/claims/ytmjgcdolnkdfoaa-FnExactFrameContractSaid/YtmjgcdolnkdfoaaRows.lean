/-
  NARROWER THAN 'FOR EVERY INPUT', by the rows' own cells (each row's printed sentence says how): FnExactChangedTerms: loops · FnExactLogicalTerms: loops · FnExactRunSteps: loops.
  DERIVED. THE GIVEN ROWS OF THIS SEAT. 12 by the template 'for every input the law returns true; each argument reads behind the call as it read before'; 0 by the template 'total and deterministic' (their statements: YtmjgcdolnkdfoaaTotals.lean).
  GIVEN WITH THE SEED: the statements are not yours to turn. If you find one false, say at which input.
  Laid BY PROGRAM, IN A SANDBOX (cutbox-rows.mjs): the forced cells as the released guide's own fill.sh prints them over the translation 5a122b93344de4e7… (all of the seat's roots in one cut). By AI agents, Wed Nov 11 2026. No macro, syntax, notation, axiom, sorry.
-/
import Derived.Test.YtmjgcdolnkdfoaaChecked
import GoSem.Claim
import GoSem.ClaimJoined
import GoSem.ClaimMapViews
import Derived.JoinedTies
import Derived.KernelRfl
namespace Go.Proofs.Ytmjgcdolnkdfoaa
/- THE CELL 'sum', in the pinned program and in every row, IS THE sha256 OF THE DUMP (.gsa) THAT YtmjgcdolnkdfoaaProg.lean LOADS. Nothing in Lean hashes anything: it is a label: what it is worth is what the hold of that sum in a sandbox is worth. -/
noncomputable def Try.pinned : Pinned := { name := "ytmjgcdolnkdfoaa", sum := "5a122b93344de4e7bc91fd878d1cbfc5b054db350f07ee63a6cb231b5380a753", checked := Try.checked }
namespace Rows
def none {H : Type} : Left H := { results := [], args := [] }

/-- 'laws.FnFailingCase': WHATEVER THE INPUT: true; the input reads as it did. -/
def fnFailingCaseSpec : ChangeSpec := { name := "fnFailingCase", fn := fun _ => fun
  | [d] => { results := [.lit (.bool true)], args := [d] }
  | _ => none }
def fnFailingCaseRow : OpenClaim := { program := "ytmjgcdolnkdfoaa", sum := "5a122b93344de4e7bc91fd878d1cbfc5b054db350f07ee63a6cb231b5380a753", func := "loop.example/separation/laws.FnFailingCase", spec := "fnFailingCase", unfollowed := true, recurses := true, apart := false }
def FnFailingCaseSaid : Prop := fnFailingCaseRow.holds Try.pinned (OpenSpec.ofChange fnFailingCaseSpec)

/-- ITS FALSE NEIGHBOUR: 'it returns false'. Refute it at one input. -/
def fnFailingCaseWrong : ChangeSpec := { name := "fnFailingCase", fn := fun _ => fun
  | [d] => { results := [.lit (.bool false)], args := [d] }
  | _ => none }
def FnFailingCaseWrongFalsely : Prop := fnFailingCaseRow.holds Try.pinned (OpenSpec.ofChange fnFailingCaseWrong)

/-- 'laws.FnCaseOf': WHATEVER THE INPUT: true; the input reads as it did. -/
def fnCaseOfSpec : ChangeSpec := { name := "fnCaseOf", fn := fun _ => fun
  | [d] => { results := [.lit (.bool true)], args := [d] }
  | _ => none }
def fnCaseOfRow : OpenClaim := { program := "ytmjgcdolnkdfoaa", sum := "5a122b93344de4e7bc91fd878d1cbfc5b054db350f07ee63a6cb231b5380a753", func := "loop.example/separation/laws.FnCaseOf", spec := "fnCaseOf", unfollowed := true, recurses := true, apart := false }
def FnCaseOfSaid : Prop := fnCaseOfRow.holds Try.pinned (OpenSpec.ofChange fnCaseOfSpec)

/-- ITS FALSE NEIGHBOUR: 'it returns false'. Refute it at one input. -/
def fnCaseOfWrong : ChangeSpec := { name := "fnCaseOf", fn := fun _ => fun
  | [d] => { results := [.lit (.bool false)], args := [d] }
  | _ => none }
def FnCaseOfWrongFalsely : Prop := fnCaseOfRow.holds Try.pinned (OpenSpec.ofChange fnCaseOfWrong)

/-- 'laws.FnModelOf': WHATEVER THE INPUT: true; the input reads as it did. -/
def fnModelOfSpec : ChangeSpec := { name := "fnModelOf", fn := fun _ => fun
  | [d] => { results := [.lit (.bool true)], args := [d] }
  | _ => none }
def fnModelOfRow : OpenClaim := { program := "ytmjgcdolnkdfoaa", sum := "5a122b93344de4e7bc91fd878d1cbfc5b054db350f07ee63a6cb231b5380a753", func := "loop.example/separation/laws.FnModelOf", spec := "fnModelOf", unfollowed := true, recurses := true, apart := false }
def FnModelOfSaid : Prop := fnModelOfRow.holds Try.pinned (OpenSpec.ofChange fnModelOfSpec)

/-- ITS FALSE NEIGHBOUR: 'it returns false'. Refute it at one input. -/
def fnModelOfWrong : ChangeSpec := { name := "fnModelOf", fn := fun _ => fun
  | [d] => { results := [.lit (.bool false)], args := [d] }
  | _ => none }
def FnModelOfWrongFalsely : Prop := fnModelOfRow.holds Try.pinned (OpenSpec.ofChange fnModelOfWrong)

/-- 'laws.FnEntailsCase': WHATEVER THE INPUT: true; the input reads as it did. -/
def fnEntailsCaseSpec : ChangeSpec := { name := "fnEntailsCase", fn := fun _ => fun
  | [d] => { results := [.lit (.bool true)], args := [d] }
  | _ => none }
def fnEntailsCaseRow : OpenClaim := { program := "ytmjgcdolnkdfoaa", sum := "5a122b93344de4e7bc91fd878d1cbfc5b054db350f07ee63a6cb231b5380a753", func := "loop.example/separation/laws.FnEntailsCase", spec := "fnEntailsCase", unfollowed := true, recurses := true, apart := false }
def FnEntailsCaseSaid : Prop := fnEntailsCaseRow.holds Try.pinned (OpenSpec.ofChange fnEntailsCaseSpec)

/-- ITS FALSE NEIGHBOUR: 'it returns false'. Refute it at one input. -/
def fnEntailsCaseWrong : ChangeSpec := { name := "fnEntailsCase", fn := fun _ => fun
  | [d] => { results := [.lit (.bool false)], args := [d] }
  | _ => none }
def FnEntailsCaseWrongFalsely : Prop := fnEntailsCaseRow.holds Try.pinned (OpenSpec.ofChange fnEntailsCaseWrong)

/-- 'laws.FnExactFrameContract': WHATEVER THE INPUT: true; the input reads as it did. -/
def fnExactFrameContractSpec : ChangeSpec := { name := "fnExactFrameContract", fn := fun _ => fun
  | [d1, d2] => { results := [.lit (.bool true)], args := [d1, d2] }
  | _ => none }
def fnExactFrameContractRow : OpenClaim := { program := "ytmjgcdolnkdfoaa", sum := "5a122b93344de4e7bc91fd878d1cbfc5b054db350f07ee63a6cb231b5380a753", func := "loop.example/separation/laws.FnExactFrameContract", spec := "fnExactFrameContract", apart := false }
def FnExactFrameContractSaid : Prop := fnExactFrameContractRow.holds Try.pinned (OpenSpec.ofChange fnExactFrameContractSpec)

/-- ITS FALSE NEIGHBOUR: 'it returns false'. Refute it at one input. -/
def fnExactFrameContractWrong : ChangeSpec := { name := "fnExactFrameContract", fn := fun _ => fun
  | [d1, d2] => { results := [.lit (.bool false)], args := [d1, d2] }
  | _ => none }
def FnExactFrameContractWrongFalsely : Prop := fnExactFrameContractRow.holds Try.pinned (OpenSpec.ofChange fnExactFrameContractWrong)

/-- 'laws.FnExactChangedTerms': WHATEVER THE INPUT: true; the input reads as it did. -/
def fnExactChangedTermsSpec : ChangeSpec := { name := "fnExactChangedTerms", fn := fun _ => fun
  | [d] => { results := [.lit (.bool true)], args := [d] }
  | _ => none }
def fnExactChangedTermsRow : OpenClaim := { program := "ytmjgcdolnkdfoaa", sum := "5a122b93344de4e7bc91fd878d1cbfc5b054db350f07ee63a6cb231b5380a753", func := "loop.example/separation/laws.FnExactChangedTerms", spec := "fnExactChangedTerms", unfollowed := true, recurses := true, loops := true, apart := false }
def FnExactChangedTermsSaid : Prop := fnExactChangedTermsRow.holds Try.pinned (OpenSpec.ofChange fnExactChangedTermsSpec)

/-- ITS FALSE NEIGHBOUR: 'it returns false'. Refute it at one input. -/
def fnExactChangedTermsWrong : ChangeSpec := { name := "fnExactChangedTerms", fn := fun _ => fun
  | [d] => { results := [.lit (.bool false)], args := [d] }
  | _ => none }
def FnExactChangedTermsWrongFalsely : Prop := fnExactChangedTermsRow.holds Try.pinned (OpenSpec.ofChange fnExactChangedTermsWrong)

/-- 'laws.FnExactLogicalTerms': WHATEVER THE INPUT: true; the input reads as it did. -/
def fnExactLogicalTermsSpec : ChangeSpec := { name := "fnExactLogicalTerms", fn := fun _ => fun
  | [d] => { results := [.lit (.bool true)], args := [d] }
  | _ => none }
def fnExactLogicalTermsRow : OpenClaim := { program := "ytmjgcdolnkdfoaa", sum := "5a122b93344de4e7bc91fd878d1cbfc5b054db350f07ee63a6cb231b5380a753", func := "loop.example/separation/laws.FnExactLogicalTerms", spec := "fnExactLogicalTerms", unfollowed := true, recurses := true, loops := true, apart := false }
def FnExactLogicalTermsSaid : Prop := fnExactLogicalTermsRow.holds Try.pinned (OpenSpec.ofChange fnExactLogicalTermsSpec)

/-- ITS FALSE NEIGHBOUR: 'it returns false'. Refute it at one input. -/
def fnExactLogicalTermsWrong : ChangeSpec := { name := "fnExactLogicalTerms", fn := fun _ => fun
  | [d] => { results := [.lit (.bool false)], args := [d] }
  | _ => none }
def FnExactLogicalTermsWrongFalsely : Prop := fnExactLogicalTermsRow.holds Try.pinned (OpenSpec.ofChange fnExactLogicalTermsWrong)

/-- 'laws.FnLogicalTerms': WHATEVER THE INPUT: true; the input reads as it did. -/
def fnLogicalTermsSpec : ChangeSpec := { name := "fnLogicalTerms", fn := fun _ => fun
  | [d] => { results := [.lit (.bool true)], args := [d] }
  | _ => none }
def fnLogicalTermsRow : OpenClaim := { program := "ytmjgcdolnkdfoaa", sum := "5a122b93344de4e7bc91fd878d1cbfc5b054db350f07ee63a6cb231b5380a753", func := "loop.example/separation/laws.FnLogicalTerms", spec := "fnLogicalTerms", unfollowed := true, recurses := true, apart := false }
def FnLogicalTermsSaid : Prop := fnLogicalTermsRow.holds Try.pinned (OpenSpec.ofChange fnLogicalTermsSpec)

/-- ITS FALSE NEIGHBOUR: 'it returns false'. Refute it at one input. -/
def fnLogicalTermsWrong : ChangeSpec := { name := "fnLogicalTerms", fn := fun _ => fun
  | [d] => { results := [.lit (.bool false)], args := [d] }
  | _ => none }
def FnLogicalTermsWrongFalsely : Prop := fnLogicalTermsRow.holds Try.pinned (OpenSpec.ofChange fnLogicalTermsWrong)

/-- 'laws.FnExactModelsOf': WHATEVER THE INPUT: true; the input reads as it did. -/
def fnExactModelsOfSpec : ChangeSpec := { name := "fnExactModelsOf", fn := fun _ => fun
  | [d] => { results := [.lit (.bool true)], args := [d] }
  | _ => none }
def fnExactModelsOfRow : OpenClaim := { program := "ytmjgcdolnkdfoaa", sum := "5a122b93344de4e7bc91fd878d1cbfc5b054db350f07ee63a6cb231b5380a753", func := "loop.example/separation/laws.FnExactModelsOf", spec := "fnExactModelsOf", unfollowed := true, recurses := true, apart := false }
def FnExactModelsOfSaid : Prop := fnExactModelsOfRow.holds Try.pinned (OpenSpec.ofChange fnExactModelsOfSpec)

/-- ITS FALSE NEIGHBOUR: 'it returns false'. Refute it at one input. -/
def fnExactModelsOfWrong : ChangeSpec := { name := "fnExactModelsOf", fn := fun _ => fun
  | [d] => { results := [.lit (.bool false)], args := [d] }
  | _ => none }
def FnExactModelsOfWrongFalsely : Prop := fnExactModelsOfRow.holds Try.pinned (OpenSpec.ofChange fnExactModelsOfWrong)

/-- 'laws.FnExactRunSteps': WHATEVER THE INPUT: true; the input reads as it did. -/
def fnExactRunStepsSpec : ChangeSpec := { name := "fnExactRunSteps", fn := fun _ => fun
  | [d1, d2, d3] => { results := [.lit (.bool true)], args := [d1, d2, d3] }
  | _ => none }
def fnExactRunStepsRow : OpenClaim := { program := "ytmjgcdolnkdfoaa", sum := "5a122b93344de4e7bc91fd878d1cbfc5b054db350f07ee63a6cb231b5380a753", func := "loop.example/separation/laws.FnExactRunSteps", spec := "fnExactRunSteps", recurses := true, loops := true, apart := false }
def FnExactRunStepsSaid : Prop := fnExactRunStepsRow.holds Try.pinned (OpenSpec.ofChange fnExactRunStepsSpec)

/-- ITS FALSE NEIGHBOUR: 'it returns false'. Refute it at one input. -/
def fnExactRunStepsWrong : ChangeSpec := { name := "fnExactRunSteps", fn := fun _ => fun
  | [d1, d2, d3] => { results := [.lit (.bool false)], args := [d1, d2, d3] }
  | _ => none }
def FnExactRunStepsWrongFalsely : Prop := fnExactRunStepsRow.holds Try.pinned (OpenSpec.ofChange fnExactRunStepsWrong)

/-- 'laws.FnExactExposeCell': WHATEVER THE INPUT: true; the input reads as it did. -/
def fnExactExposeCellSpec : ChangeSpec := { name := "fnExactExposeCell", fn := fun _ => fun
  | [d1, d2, d3] => { results := [.lit (.bool true)], args := [d1, d2, d3] }
  | _ => none }
def fnExactExposeCellRow : OpenClaim := { program := "ytmjgcdolnkdfoaa", sum := "5a122b93344de4e7bc91fd878d1cbfc5b054db350f07ee63a6cb231b5380a753", func := "loop.example/separation/laws.FnExactExposeCell", spec := "fnExactExposeCell", unfollowed := true, recurses := true, apart := false }
def FnExactExposeCellSaid : Prop := fnExactExposeCellRow.holds Try.pinned (OpenSpec.ofChange fnExactExposeCellSpec)

/-- ITS FALSE NEIGHBOUR: 'it returns false'. Refute it at one input. -/
def fnExactExposeCellWrong : ChangeSpec := { name := "fnExactExposeCell", fn := fun _ => fun
  | [d1, d2, d3] => { results := [.lit (.bool false)], args := [d1, d2, d3] }
  | _ => none }
def FnExactExposeCellWrongFalsely : Prop := fnExactExposeCellRow.holds Try.pinned (OpenSpec.ofChange fnExactExposeCellWrong)

/-- 'laws.FnFrameOf': WHATEVER THE INPUT: true; the input reads as it did. -/
def fnFrameOfSpec : ChangeSpec := { name := "fnFrameOf", fn := fun _ => fun
  | [d] => { results := [.lit (.bool true)], args := [d] }
  | _ => none }
def fnFrameOfRow : OpenClaim := { program := "ytmjgcdolnkdfoaa", sum := "5a122b93344de4e7bc91fd878d1cbfc5b054db350f07ee63a6cb231b5380a753", func := "loop.example/separation/laws.FnFrameOf", spec := "fnFrameOf", unfollowed := true, recurses := true, apart := false }
def FnFrameOfSaid : Prop := fnFrameOfRow.holds Try.pinned (OpenSpec.ofChange fnFrameOfSpec)

/-- ITS FALSE NEIGHBOUR: 'it returns false'. Refute it at one input. -/
def fnFrameOfWrong : ChangeSpec := { name := "fnFrameOf", fn := fun _ => fun
  | [d] => { results := [.lit (.bool false)], args := [d] }
  | _ => none }
def FnFrameOfWrongFalsely : Prop := fnFrameOfRow.holds Try.pinned (OpenSpec.ofChange fnFrameOfWrong)

/- THE SECOND FORM. 'bulk': how many values and letters a reading holds, each counted each time it is reached (what is shared counts as often as it is met; a slice's spare places count too). A statement '..UptoSaid' is the law's where the arguments, and the package variables that the reading takes, are together of bulk at most 1048576: NARROWER than '..Said'. Prove '..Said' where nothing that the law and all that it calls make is longer than what came in: it says more and counts as full. Else prove '..UptoSaid'. A law counts once. -/
mutual
def uptoBulk {H : Type} : DataW H → Nat
  | .lit (.string bytes) => bytes.length + 1
  | .lit _ => 1
  | .nil => 1
  | .ptr d => uptoBulk d + 1
  | .slice elems spare => uptoBulkAll elems + uptoBulkAll spare + 1
  | .agg parts => uptoBulkAll parts + 1
  | .iface _ d => uptoBulk d + 1
  | .map entries => uptoBulkEntries entries + 1
  | .held _ => 1
def uptoBulkAll {H : Type} : List (DataW H) → Nat
  | [] => 0
  | d :: r => uptoBulk d + uptoBulkAll r
def uptoBulkEntries {H : Type} : List (Lit × DataW H) → Nat
  | [] => 0
  | x :: r => uptoBulkEntry x + uptoBulkEntries r
def uptoBulkEntry {H : Type} : Lit × DataW H → Nat
  | (.string bytes, d) => bytes.length + uptoBulk d + 1
  | (_, d) => uptoBulk d + 1
 end
def uptoSmall : (H : Type) → List (DataW H) → Bool := fun _ ds => decide (uptoBulkAll ds ≤ 1048576)
def OpenSpec.upto (s : _root_.Go.ChangeSpec) : _root_.Go.OpenSpec := { _root_.Go.OpenSpec.ofChange s with cond := some uptoSmall }

/-- 'laws.FnFailingCase', WHERE WHAT IT READS IS OF BULK AT MOST 1048576: true; the input reads as it did. -/
def fnFailingCaseUptoRow : OpenClaim := { program := "ytmjgcdolnkdfoaa", sum := "5a122b93344de4e7bc91fd878d1cbfc5b054db350f07ee63a6cb231b5380a753", func := "loop.example/separation/laws.FnFailingCase", spec := "fnFailingCase", unfollowed := true, recurses := true, apart := false, narrowed := true }
def FnFailingCaseUptoSaid : Prop := fnFailingCaseUptoRow.holds Try.pinned (OpenSpec.upto fnFailingCaseSpec)

/-- 'laws.FnCaseOf', WHERE WHAT IT READS IS OF BULK AT MOST 1048576: true; the input reads as it did. -/
def fnCaseOfUptoRow : OpenClaim := { program := "ytmjgcdolnkdfoaa", sum := "5a122b93344de4e7bc91fd878d1cbfc5b054db350f07ee63a6cb231b5380a753", func := "loop.example/separation/laws.FnCaseOf", spec := "fnCaseOf", unfollowed := true, recurses := true, apart := false, narrowed := true }
def FnCaseOfUptoSaid : Prop := fnCaseOfUptoRow.holds Try.pinned (OpenSpec.upto fnCaseOfSpec)

/-- 'laws.FnModelOf', WHERE WHAT IT READS IS OF BULK AT MOST 1048576: true; the input reads as it did. -/
def fnModelOfUptoRow : OpenClaim := { program := "ytmjgcdolnkdfoaa", sum := "5a122b93344de4e7bc91fd878d1cbfc5b054db350f07ee63a6cb231b5380a753", func := "loop.example/separation/laws.FnModelOf", spec := "fnModelOf", unfollowed := true, recurses := true, apart := false, narrowed := true }
def FnModelOfUptoSaid : Prop := fnModelOfUptoRow.holds Try.pinned (OpenSpec.upto fnModelOfSpec)

/-- 'laws.FnEntailsCase', WHERE WHAT IT READS IS OF BULK AT MOST 1048576: true; the input reads as it did. -/
def fnEntailsCaseUptoRow : OpenClaim := { program := "ytmjgcdolnkdfoaa", sum := "5a122b93344de4e7bc91fd878d1cbfc5b054db350f07ee63a6cb231b5380a753", func := "loop.example/separation/laws.FnEntailsCase", spec := "fnEntailsCase", unfollowed := true, recurses := true, apart := false, narrowed := true }
def FnEntailsCaseUptoSaid : Prop := fnEntailsCaseUptoRow.holds Try.pinned (OpenSpec.upto fnEntailsCaseSpec)

/-- 'laws.FnExactFrameContract', WHERE WHAT IT READS IS OF BULK AT MOST 1048576: true; the input reads as it did. -/
def fnExactFrameContractUptoRow : OpenClaim := { program := "ytmjgcdolnkdfoaa", sum := "5a122b93344de4e7bc91fd878d1cbfc5b054db350f07ee63a6cb231b5380a753", func := "loop.example/separation/laws.FnExactFrameContract", spec := "fnExactFrameContract", apart := false, narrowed := true }
def FnExactFrameContractUptoSaid : Prop := fnExactFrameContractUptoRow.holds Try.pinned (OpenSpec.upto fnExactFrameContractSpec)

/-- 'laws.FnExactChangedTerms', WHERE WHAT IT READS IS OF BULK AT MOST 1048576: true; the input reads as it did. -/
def fnExactChangedTermsUptoRow : OpenClaim := { program := "ytmjgcdolnkdfoaa", sum := "5a122b93344de4e7bc91fd878d1cbfc5b054db350f07ee63a6cb231b5380a753", func := "loop.example/separation/laws.FnExactChangedTerms", spec := "fnExactChangedTerms", unfollowed := true, recurses := true, loops := true, apart := false, narrowed := true }
def FnExactChangedTermsUptoSaid : Prop := fnExactChangedTermsUptoRow.holds Try.pinned (OpenSpec.upto fnExactChangedTermsSpec)

/-- 'laws.FnExactLogicalTerms', WHERE WHAT IT READS IS OF BULK AT MOST 1048576: true; the input reads as it did. -/
def fnExactLogicalTermsUptoRow : OpenClaim := { program := "ytmjgcdolnkdfoaa", sum := "5a122b93344de4e7bc91fd878d1cbfc5b054db350f07ee63a6cb231b5380a753", func := "loop.example/separation/laws.FnExactLogicalTerms", spec := "fnExactLogicalTerms", unfollowed := true, recurses := true, loops := true, apart := false, narrowed := true }
def FnExactLogicalTermsUptoSaid : Prop := fnExactLogicalTermsUptoRow.holds Try.pinned (OpenSpec.upto fnExactLogicalTermsSpec)

/-- 'laws.FnLogicalTerms', WHERE WHAT IT READS IS OF BULK AT MOST 1048576: true; the input reads as it did. -/
def fnLogicalTermsUptoRow : OpenClaim := { program := "ytmjgcdolnkdfoaa", sum := "5a122b93344de4e7bc91fd878d1cbfc5b054db350f07ee63a6cb231b5380a753", func := "loop.example/separation/laws.FnLogicalTerms", spec := "fnLogicalTerms", unfollowed := true, recurses := true, apart := false, narrowed := true }
def FnLogicalTermsUptoSaid : Prop := fnLogicalTermsUptoRow.holds Try.pinned (OpenSpec.upto fnLogicalTermsSpec)

/-- 'laws.FnExactModelsOf', WHERE WHAT IT READS IS OF BULK AT MOST 1048576: true; the input reads as it did. -/
def fnExactModelsOfUptoRow : OpenClaim := { program := "ytmjgcdolnkdfoaa", sum := "5a122b93344de4e7bc91fd878d1cbfc5b054db350f07ee63a6cb231b5380a753", func := "loop.example/separation/laws.FnExactModelsOf", spec := "fnExactModelsOf", unfollowed := true, recurses := true, apart := false, narrowed := true }
def FnExactModelsOfUptoSaid : Prop := fnExactModelsOfUptoRow.holds Try.pinned (OpenSpec.upto fnExactModelsOfSpec)

/-- 'laws.FnExactRunSteps', WHERE WHAT IT READS IS OF BULK AT MOST 1048576: true; the input reads as it did. -/
def fnExactRunStepsUptoRow : OpenClaim := { program := "ytmjgcdolnkdfoaa", sum := "5a122b93344de4e7bc91fd878d1cbfc5b054db350f07ee63a6cb231b5380a753", func := "loop.example/separation/laws.FnExactRunSteps", spec := "fnExactRunSteps", recurses := true, loops := true, apart := false, narrowed := true }
def FnExactRunStepsUptoSaid : Prop := fnExactRunStepsUptoRow.holds Try.pinned (OpenSpec.upto fnExactRunStepsSpec)

/-- 'laws.FnExactExposeCell', WHERE WHAT IT READS IS OF BULK AT MOST 1048576: true; the input reads as it did. -/
def fnExactExposeCellUptoRow : OpenClaim := { program := "ytmjgcdolnkdfoaa", sum := "5a122b93344de4e7bc91fd878d1cbfc5b054db350f07ee63a6cb231b5380a753", func := "loop.example/separation/laws.FnExactExposeCell", spec := "fnExactExposeCell", unfollowed := true, recurses := true, apart := false, narrowed := true }
def FnExactExposeCellUptoSaid : Prop := fnExactExposeCellUptoRow.holds Try.pinned (OpenSpec.upto fnExactExposeCellSpec)

/-- 'laws.FnFrameOf', WHERE WHAT IT READS IS OF BULK AT MOST 1048576: true; the input reads as it did. -/
def fnFrameOfUptoRow : OpenClaim := { program := "ytmjgcdolnkdfoaa", sum := "5a122b93344de4e7bc91fd878d1cbfc5b054db350f07ee63a6cb231b5380a753", func := "loop.example/separation/laws.FnFrameOf", spec := "fnFrameOf", unfollowed := true, recurses := true, apart := false, narrowed := true }
def FnFrameOfUptoSaid : Prop := fnFrameOfUptoRow.holds Try.pinned (OpenSpec.upto fnFrameOfSpec)

end Rows
end Go.Proofs.Ytmjgcdolnkdfoaa
