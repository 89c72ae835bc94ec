/-
  NARROWER THAN 'FOR EVERY INPUT', by the rows' own cells (each row's printed sentence says how): FnExactChangedTerms: loops · FnExactLogicalTerms: loops · FnExactRunSteps: loops · FnExactRunProgram: loops · FnExactSafeCells: loops · FnExactTryTriple: loops.
  DERIVED. THE GIVEN ROWS OF THIS SEAT. 12 by the template 'for every input the law returns true; each argument reads behind the call as it read before'; 0 by the template 'total and deterministic' (their statements: YtcgifoghggajgaaTotals.lean).
  GIVEN WITH THE SEED: the statements are not yours to turn. If you find one false, say at which input.
  Laid BY PROGRAM, IN A SANDBOX (cutbox-rows.mjs): the forced cells as the released guide's own fill.sh prints them over the translation 91bd6a9b85c91b72… (all of the seat's roots in one cut). By AI agents, Wed Nov 11 2026. No macro, syntax, notation, axiom, sorry.
-/
import Derived.Test.YtcgifoghggajgaaChecked
import GoSem.Claim
import GoSem.ClaimJoined
import GoSem.ClaimMapViews
import Derived.JoinedTies
import Derived.KernelRfl
namespace Go.Proofs.Ytcgifoghggajgaa
/- THE CELL 'sum', in the pinned program and in every row, IS THE sha256 OF THE DUMP (.gsa) THAT YtcgifoghggajgaaProg.lean LOADS. Nothing in Lean hashes anything: it is a label: what it is worth is what the hold of that sum in a sandbox is worth. -/
noncomputable def Try.pinned : Pinned := { name := "ytcgifoghggajgaa", sum := "91bd6a9b85c91b72c1f42b7fc02300d4c6f0462f86bdb362db72698a91cf0d4b", checked := Try.checked }
namespace Rows
def none {H : Type} : Left H := { results := [], args := [] }

/-- 'laws.FnExactChangedTerms': WHATEVER THE INPUT: true; the input reads as it did. -/
def fnExactChangedTermsSpec : ChangeSpec := { name := "fnExactChangedTerms", fn := fun _ => fun
  | [d] => { results := [.lit (.bool true)], args := [d] }
  | _ => none }
def fnExactChangedTermsRow : OpenClaim := { program := "ytcgifoghggajgaa", sum := "91bd6a9b85c91b72c1f42b7fc02300d4c6f0462f86bdb362db72698a91cf0d4b", func := "loop.example/separation/laws.FnExactChangedTerms", spec := "fnExactChangedTerms", unfollowed := true, recurses := true, loops := true, apart := false }
def FnExactChangedTermsSaid : Prop := fnExactChangedTermsRow.holds Try.pinned (OpenSpec.ofChange fnExactChangedTermsSpec)

/-- ITS FALSE NEIGHBOUR: 'it returns false'. Refute it at one input. -/
def fnExactChangedTermsWrong : ChangeSpec := { name := "fnExactChangedTerms", fn := fun _ => fun
  | [d] => { results := [.lit (.bool false)], args := [d] }
  | _ => none }
def FnExactChangedTermsWrongFalsely : Prop := fnExactChangedTermsRow.holds Try.pinned (OpenSpec.ofChange fnExactChangedTermsWrong)

/-- 'laws.FnExactLogicalTerms': WHATEVER THE INPUT: true; the input reads as it did. -/
def fnExactLogicalTermsSpec : ChangeSpec := { name := "fnExactLogicalTerms", fn := fun _ => fun
  | [d] => { results := [.lit (.bool true)], args := [d] }
  | _ => none }
def fnExactLogicalTermsRow : OpenClaim := { program := "ytcgifoghggajgaa", sum := "91bd6a9b85c91b72c1f42b7fc02300d4c6f0462f86bdb362db72698a91cf0d4b", func := "loop.example/separation/laws.FnExactLogicalTerms", spec := "fnExactLogicalTerms", unfollowed := true, recurses := true, loops := true, apart := false }
def FnExactLogicalTermsSaid : Prop := fnExactLogicalTermsRow.holds Try.pinned (OpenSpec.ofChange fnExactLogicalTermsSpec)

/-- ITS FALSE NEIGHBOUR: 'it returns false'. Refute it at one input. -/
def fnExactLogicalTermsWrong : ChangeSpec := { name := "fnExactLogicalTerms", fn := fun _ => fun
  | [d] => { results := [.lit (.bool false)], args := [d] }
  | _ => none }
def FnExactLogicalTermsWrongFalsely : Prop := fnExactLogicalTermsRow.holds Try.pinned (OpenSpec.ofChange fnExactLogicalTermsWrong)

/-- 'laws.FnLogicalTerms': WHATEVER THE INPUT: true; the input reads as it did. -/
def fnLogicalTermsSpec : ChangeSpec := { name := "fnLogicalTerms", fn := fun _ => fun
  | [d] => { results := [.lit (.bool true)], args := [d] }
  | _ => none }
def fnLogicalTermsRow : OpenClaim := { program := "ytcgifoghggajgaa", sum := "91bd6a9b85c91b72c1f42b7fc02300d4c6f0462f86bdb362db72698a91cf0d4b", func := "loop.example/separation/laws.FnLogicalTerms", spec := "fnLogicalTerms", unfollowed := true, recurses := true, apart := false }
def FnLogicalTermsSaid : Prop := fnLogicalTermsRow.holds Try.pinned (OpenSpec.ofChange fnLogicalTermsSpec)

/-- ITS FALSE NEIGHBOUR: 'it returns false'. Refute it at one input. -/
def fnLogicalTermsWrong : ChangeSpec := { name := "fnLogicalTerms", fn := fun _ => fun
  | [d] => { results := [.lit (.bool false)], args := [d] }
  | _ => none }
def FnLogicalTermsWrongFalsely : Prop := fnLogicalTermsRow.holds Try.pinned (OpenSpec.ofChange fnLogicalTermsWrong)

/-- 'laws.FnExactModelsOf': WHATEVER THE INPUT: true; the input reads as it did. -/
def fnExactModelsOfSpec : ChangeSpec := { name := "fnExactModelsOf", fn := fun _ => fun
  | [d] => { results := [.lit (.bool true)], args := [d] }
  | _ => none }
def fnExactModelsOfRow : OpenClaim := { program := "ytcgifoghggajgaa", sum := "91bd6a9b85c91b72c1f42b7fc02300d4c6f0462f86bdb362db72698a91cf0d4b", func := "loop.example/separation/laws.FnExactModelsOf", spec := "fnExactModelsOf", unfollowed := true, recurses := true, apart := false }
def FnExactModelsOfSaid : Prop := fnExactModelsOfRow.holds Try.pinned (OpenSpec.ofChange fnExactModelsOfSpec)

/-- ITS FALSE NEIGHBOUR: 'it returns false'. Refute it at one input. -/
def fnExactModelsOfWrong : ChangeSpec := { name := "fnExactModelsOf", fn := fun _ => fun
  | [d] => { results := [.lit (.bool false)], args := [d] }
  | _ => none }
def FnExactModelsOfWrongFalsely : Prop := fnExactModelsOfRow.holds Try.pinned (OpenSpec.ofChange fnExactModelsOfWrong)

/-- 'laws.FnModelsOf': WHATEVER THE INPUT: true; the input reads as it did. -/
def fnModelsOfSpec : ChangeSpec := { name := "fnModelsOf", fn := fun _ => fun
  | [d] => { results := [.lit (.bool true)], args := [d] }
  | _ => none }
def fnModelsOfRow : OpenClaim := { program := "ytcgifoghggajgaa", sum := "91bd6a9b85c91b72c1f42b7fc02300d4c6f0462f86bdb362db72698a91cf0d4b", func := "loop.example/separation/laws.FnModelsOf", spec := "fnModelsOf", unfollowed := true, recurses := true, apart := false }
def FnModelsOfSaid : Prop := fnModelsOfRow.holds Try.pinned (OpenSpec.ofChange fnModelsOfSpec)

/-- ITS FALSE NEIGHBOUR: 'it returns false'. Refute it at one input. -/
def fnModelsOfWrong : ChangeSpec := { name := "fnModelsOf", fn := fun _ => fun
  | [d] => { results := [.lit (.bool false)], args := [d] }
  | _ => none }
def FnModelsOfWrongFalsely : Prop := fnModelsOfRow.holds Try.pinned (OpenSpec.ofChange fnModelsOfWrong)

/-- 'laws.FnExactRunSteps': WHATEVER THE INPUT: true; the input reads as it did. -/
def fnExactRunStepsSpec : ChangeSpec := { name := "fnExactRunSteps", fn := fun _ => fun
  | [d1, d2, d3] => { results := [.lit (.bool true)], args := [d1, d2, d3] }
  | _ => none }
def fnExactRunStepsRow : OpenClaim := { program := "ytcgifoghggajgaa", sum := "91bd6a9b85c91b72c1f42b7fc02300d4c6f0462f86bdb362db72698a91cf0d4b", func := "loop.example/separation/laws.FnExactRunSteps", spec := "fnExactRunSteps", recurses := true, loops := true, apart := false }
def FnExactRunStepsSaid : Prop := fnExactRunStepsRow.holds Try.pinned (OpenSpec.ofChange fnExactRunStepsSpec)

/-- ITS FALSE NEIGHBOUR: 'it returns false'. Refute it at one input. -/
def fnExactRunStepsWrong : ChangeSpec := { name := "fnExactRunSteps", fn := fun _ => fun
  | [d1, d2, d3] => { results := [.lit (.bool false)], args := [d1, d2, d3] }
  | _ => none }
def FnExactRunStepsWrongFalsely : Prop := fnExactRunStepsRow.holds Try.pinned (OpenSpec.ofChange fnExactRunStepsWrong)

/-- 'laws.FnExactRunProgram': WHATEVER THE INPUT: true; the input reads as it did. -/
def fnExactRunProgramSpec : ChangeSpec := { name := "fnExactRunProgram", fn := fun _ => fun
  | [d1, d2, d3] => { results := [.lit (.bool true)], args := [d1, d2, d3] }
  | _ => none }
def fnExactRunProgramRow : OpenClaim := { program := "ytcgifoghggajgaa", sum := "91bd6a9b85c91b72c1f42b7fc02300d4c6f0462f86bdb362db72698a91cf0d4b", func := "loop.example/separation/laws.FnExactRunProgram", spec := "fnExactRunProgram", recurses := true, loops := true, apart := false }
def FnExactRunProgramSaid : Prop := fnExactRunProgramRow.holds Try.pinned (OpenSpec.ofChange fnExactRunProgramSpec)

/-- ITS FALSE NEIGHBOUR: 'it returns false'. Refute it at one input. -/
def fnExactRunProgramWrong : ChangeSpec := { name := "fnExactRunProgram", fn := fun _ => fun
  | [d1, d2, d3] => { results := [.lit (.bool false)], args := [d1, d2, d3] }
  | _ => none }
def FnExactRunProgramWrongFalsely : Prop := fnExactRunProgramRow.holds Try.pinned (OpenSpec.ofChange fnExactRunProgramWrong)

/-- 'laws.FnExactExposeCell': WHATEVER THE INPUT: true; the input reads as it did. -/
def fnExactExposeCellSpec : ChangeSpec := { name := "fnExactExposeCell", fn := fun _ => fun
  | [d1, d2, d3] => { results := [.lit (.bool true)], args := [d1, d2, d3] }
  | _ => none }
def fnExactExposeCellRow : OpenClaim := { program := "ytcgifoghggajgaa", sum := "91bd6a9b85c91b72c1f42b7fc02300d4c6f0462f86bdb362db72698a91cf0d4b", func := "loop.example/separation/laws.FnExactExposeCell", spec := "fnExactExposeCell", unfollowed := true, recurses := true, apart := false }
def FnExactExposeCellSaid : Prop := fnExactExposeCellRow.holds Try.pinned (OpenSpec.ofChange fnExactExposeCellSpec)

/-- ITS FALSE NEIGHBOUR: 'it returns false'. Refute it at one input. -/
def fnExactExposeCellWrong : ChangeSpec := { name := "fnExactExposeCell", fn := fun _ => fun
  | [d1, d2, d3] => { results := [.lit (.bool false)], args := [d1, d2, d3] }
  | _ => none }
def FnExactExposeCellWrongFalsely : Prop := fnExactExposeCellRow.holds Try.pinned (OpenSpec.ofChange fnExactExposeCellWrong)

/-- 'laws.FnExposeAgain': WHATEVER THE INPUT: true; the input reads as it did. -/
def fnExposeAgainSpec : ChangeSpec := { name := "fnExposeAgain", fn := fun _ => fun
  | [d] => { results := [.lit (.bool true)], args := [d] }
  | _ => none }
def fnExposeAgainRow : OpenClaim := { program := "ytcgifoghggajgaa", sum := "91bd6a9b85c91b72c1f42b7fc02300d4c6f0462f86bdb362db72698a91cf0d4b", func := "loop.example/separation/laws.FnExposeAgain", spec := "fnExposeAgain", unfollowed := true, recurses := true, apart := false }
def FnExposeAgainSaid : Prop := fnExposeAgainRow.holds Try.pinned (OpenSpec.ofChange fnExposeAgainSpec)

/-- ITS FALSE NEIGHBOUR: 'it returns false'. Refute it at one input. -/
def fnExposeAgainWrong : ChangeSpec := { name := "fnExposeAgain", fn := fun _ => fun
  | [d] => { results := [.lit (.bool false)], args := [d] }
  | _ => none }
def FnExposeAgainWrongFalsely : Prop := fnExposeAgainRow.holds Try.pinned (OpenSpec.ofChange fnExposeAgainWrong)

/-- 'laws.FnFrameOf': WHATEVER THE INPUT: true; the input reads as it did. -/
def fnFrameOfSpec : ChangeSpec := { name := "fnFrameOf", fn := fun _ => fun
  | [d] => { results := [.lit (.bool true)], args := [d] }
  | _ => none }
def fnFrameOfRow : OpenClaim := { program := "ytcgifoghggajgaa", sum := "91bd6a9b85c91b72c1f42b7fc02300d4c6f0462f86bdb362db72698a91cf0d4b", func := "loop.example/separation/laws.FnFrameOf", spec := "fnFrameOf", unfollowed := true, recurses := true, apart := false }
def FnFrameOfSaid : Prop := fnFrameOfRow.holds Try.pinned (OpenSpec.ofChange fnFrameOfSpec)

/-- ITS FALSE NEIGHBOUR: 'it returns false'. Refute it at one input. -/
def fnFrameOfWrong : ChangeSpec := { name := "fnFrameOf", fn := fun _ => fun
  | [d] => { results := [.lit (.bool false)], args := [d] }
  | _ => none }
def FnFrameOfWrongFalsely : Prop := fnFrameOfRow.holds Try.pinned (OpenSpec.ofChange fnFrameOfWrong)

/-- 'laws.FnExactSafeCells': WHATEVER THE INPUT: true; the input reads as it did. -/
def fnExactSafeCellsSpec : ChangeSpec := { name := "fnExactSafeCells", fn := fun _ => fun
  | [d1, d2] => { results := [.lit (.bool true)], args := [d1, d2] }
  | _ => none }
def fnExactSafeCellsRow : OpenClaim := { program := "ytcgifoghggajgaa", sum := "91bd6a9b85c91b72c1f42b7fc02300d4c6f0462f86bdb362db72698a91cf0d4b", func := "loop.example/separation/laws.FnExactSafeCells", spec := "fnExactSafeCells", recurses := true, loops := true, apart := false }
def FnExactSafeCellsSaid : Prop := fnExactSafeCellsRow.holds Try.pinned (OpenSpec.ofChange fnExactSafeCellsSpec)

/-- ITS FALSE NEIGHBOUR: 'it returns false'. Refute it at one input. -/
def fnExactSafeCellsWrong : ChangeSpec := { name := "fnExactSafeCells", fn := fun _ => fun
  | [d1, d2] => { results := [.lit (.bool false)], args := [d1, d2] }
  | _ => none }
def FnExactSafeCellsWrongFalsely : Prop := fnExactSafeCellsRow.holds Try.pinned (OpenSpec.ofChange fnExactSafeCellsWrong)

/-- 'laws.FnExactTryTriple': WHATEVER THE INPUT: true; the input reads as it did. -/
def fnExactTryTripleSpec : ChangeSpec := { name := "fnExactTryTriple", fn := fun _ => fun
  | [d1, d2, d3, d4] => { results := [.lit (.bool true)], args := [d1, d2, d3, d4] }
  | _ => none }
def fnExactTryTripleRow : OpenClaim := { program := "ytcgifoghggajgaa", sum := "91bd6a9b85c91b72c1f42b7fc02300d4c6f0462f86bdb362db72698a91cf0d4b", func := "loop.example/separation/laws.FnExactTryTriple", spec := "fnExactTryTriple", recurses := true, loops := true, apart := false }
def FnExactTryTripleSaid : Prop := fnExactTryTripleRow.holds Try.pinned (OpenSpec.ofChange fnExactTryTripleSpec)

/-- ITS FALSE NEIGHBOUR: 'it returns false'. Refute it at one input. -/
def fnExactTryTripleWrong : ChangeSpec := { name := "fnExactTryTriple", fn := fun _ => fun
  | [d1, d2, d3, d4] => { results := [.lit (.bool false)], args := [d1, d2, d3, d4] }
  | _ => none }
def FnExactTryTripleWrongFalsely : Prop := fnExactTryTripleRow.holds Try.pinned (OpenSpec.ofChange fnExactTryTripleWrong)

/- THE SECOND FORM. 'bulk': how many values and letters a reading holds, each counted each time it is reached (what is shared counts as often as it is met; a slice's spare places count too). A statement '..UptoSaid' is the law's where the arguments, and the package variables that the reading takes, are together of bulk at most 1048576: NARROWER than '..Said'. Prove '..Said' where nothing that the law and all that it calls make is longer than what came in: it says more and counts as full. Else prove '..UptoSaid'. A law counts once. -/
mutual
def uptoBulk {H : Type} : DataW H → Nat
  | .lit (.string bytes) => bytes.length + 1
  | .lit _ => 1
  | .nil => 1
  | .ptr d => uptoBulk d + 1
  | .slice elems spare => uptoBulkAll elems + uptoBulkAll spare + 1
  | .agg parts => uptoBulkAll parts + 1
  | .iface _ d => uptoBulk d + 1
  | .map entries => uptoBulkEntries entries + 1
  | .held _ => 1
def uptoBulkAll {H : Type} : List (DataW H) → Nat
  | [] => 0
  | d :: r => uptoBulk d + uptoBulkAll r
def uptoBulkEntries {H : Type} : List (Lit × DataW H) → Nat
  | [] => 0
  | x :: r => uptoBulkEntry x + uptoBulkEntries r
def uptoBulkEntry {H : Type} : Lit × DataW H → Nat
  | (.string bytes, d) => bytes.length + uptoBulk d + 1
  | (_, d) => uptoBulk d + 1
 end
def uptoSmall : (H : Type) → List (DataW H) → Bool := fun _ ds => decide (uptoBulkAll ds ≤ 1048576)
def OpenSpec.upto (s : _root_.Go.ChangeSpec) : _root_.Go.OpenSpec := { _root_.Go.OpenSpec.ofChange s with cond := some uptoSmall }

/-- 'laws.FnExactChangedTerms', WHERE WHAT IT READS IS OF BULK AT MOST 1048576: true; the input reads as it did. -/
def fnExactChangedTermsUptoRow : OpenClaim := { program := "ytcgifoghggajgaa", sum := "91bd6a9b85c91b72c1f42b7fc02300d4c6f0462f86bdb362db72698a91cf0d4b", func := "loop.example/separation/laws.FnExactChangedTerms", spec := "fnExactChangedTerms", unfollowed := true, recurses := true, loops := true, apart := false, narrowed := true }
def FnExactChangedTermsUptoSaid : Prop := fnExactChangedTermsUptoRow.holds Try.pinned (OpenSpec.upto fnExactChangedTermsSpec)

/-- 'laws.FnExactLogicalTerms', WHERE WHAT IT READS IS OF BULK AT MOST 1048576: true; the input reads as it did. -/
def fnExactLogicalTermsUptoRow : OpenClaim := { program := "ytcgifoghggajgaa", sum := "91bd6a9b85c91b72c1f42b7fc02300d4c6f0462f86bdb362db72698a91cf0d4b", func := "loop.example/separation/laws.FnExactLogicalTerms", spec := "fnExactLogicalTerms", unfollowed := true, recurses := true, loops := true, apart := false, narrowed := true }
def FnExactLogicalTermsUptoSaid : Prop := fnExactLogicalTermsUptoRow.holds Try.pinned (OpenSpec.upto fnExactLogicalTermsSpec)

/-- 'laws.FnLogicalTerms', WHERE WHAT IT READS IS OF BULK AT MOST 1048576: true; the input reads as it did. -/
def fnLogicalTermsUptoRow : OpenClaim := { program := "ytcgifoghggajgaa", sum := "91bd6a9b85c91b72c1f42b7fc02300d4c6f0462f86bdb362db72698a91cf0d4b", func := "loop.example/separation/laws.FnLogicalTerms", spec := "fnLogicalTerms", unfollowed := true, recurses := true, apart := false, narrowed := true }
def FnLogicalTermsUptoSaid : Prop := fnLogicalTermsUptoRow.holds Try.pinned (OpenSpec.upto fnLogicalTermsSpec)

/-- 'laws.FnExactModelsOf', WHERE WHAT IT READS IS OF BULK AT MOST 1048576: true; the input reads as it did. -/
def fnExactModelsOfUptoRow : OpenClaim := { program := "ytcgifoghggajgaa", sum := "91bd6a9b85c91b72c1f42b7fc02300d4c6f0462f86bdb362db72698a91cf0d4b", func := "loop.example/separation/laws.FnExactModelsOf", spec := "fnExactModelsOf", unfollowed := true, recurses := true, apart := false, narrowed := true }
def FnExactModelsOfUptoSaid : Prop := fnExactModelsOfUptoRow.holds Try.pinned (OpenSpec.upto fnExactModelsOfSpec)

/-- 'laws.FnModelsOf', WHERE WHAT IT READS IS OF BULK AT MOST 1048576: true; the input reads as it did. -/
def fnModelsOfUptoRow : OpenClaim := { program := "ytcgifoghggajgaa", sum := "91bd6a9b85c91b72c1f42b7fc02300d4c6f0462f86bdb362db72698a91cf0d4b", func := "loop.example/separation/laws.FnModelsOf", spec := "fnModelsOf", unfollowed := true, recurses := true, apart := false, narrowed := true }
def FnModelsOfUptoSaid : Prop := fnModelsOfUptoRow.holds Try.pinned (OpenSpec.upto fnModelsOfSpec)

/-- 'laws.FnExactRunSteps', WHERE WHAT IT READS IS OF BULK AT MOST 1048576: true; the input reads as it did. -/
def fnExactRunStepsUptoRow : OpenClaim := { program := "ytcgifoghggajgaa", sum := "91bd6a9b85c91b72c1f42b7fc02300d4c6f0462f86bdb362db72698a91cf0d4b", func := "loop.example/separation/laws.FnExactRunSteps", spec := "fnExactRunSteps", recurses := true, loops := true, apart := false, narrowed := true }
def FnExactRunStepsUptoSaid : Prop := fnExactRunStepsUptoRow.holds Try.pinned (OpenSpec.upto fnExactRunStepsSpec)

/-- 'laws.FnExactRunProgram', WHERE WHAT IT READS IS OF BULK AT MOST 1048576: true; the input reads as it did. -/
def fnExactRunProgramUptoRow : OpenClaim := { program := "ytcgifoghggajgaa", sum := "91bd6a9b85c91b72c1f42b7fc02300d4c6f0462f86bdb362db72698a91cf0d4b", func := "loop.example/separation/laws.FnExactRunProgram", spec := "fnExactRunProgram", recurses := true, loops := true, apart := false, narrowed := true }
def FnExactRunProgramUptoSaid : Prop := fnExactRunProgramUptoRow.holds Try.pinned (OpenSpec.upto fnExactRunProgramSpec)

/-- 'laws.FnExactExposeCell', WHERE WHAT IT READS IS OF BULK AT MOST 1048576: true; the input reads as it did. -/
def fnExactExposeCellUptoRow : OpenClaim := { program := "ytcgifoghggajgaa", sum := "91bd6a9b85c91b72c1f42b7fc02300d4c6f0462f86bdb362db72698a91cf0d4b", func := "loop.example/separation/laws.FnExactExposeCell", spec := "fnExactExposeCell", unfollowed := true, recurses := true, apart := false, narrowed := true }
def FnExactExposeCellUptoSaid : Prop := fnExactExposeCellUptoRow.holds Try.pinned (OpenSpec.upto fnExactExposeCellSpec)

/-- 'laws.FnExposeAgain', WHERE WHAT IT READS IS OF BULK AT MOST 1048576: true; the input reads as it did. -/
def fnExposeAgainUptoRow : OpenClaim := { program := "ytcgifoghggajgaa", sum := "91bd6a9b85c91b72c1f42b7fc02300d4c6f0462f86bdb362db72698a91cf0d4b", func := "loop.example/separation/laws.FnExposeAgain", spec := "fnExposeAgain", unfollowed := true, recurses := true, apart := false, narrowed := true }
def FnExposeAgainUptoSaid : Prop := fnExposeAgainUptoRow.holds Try.pinned (OpenSpec.upto fnExposeAgainSpec)

/-- 'laws.FnFrameOf', WHERE WHAT IT READS IS OF BULK AT MOST 1048576: true; the input reads as it did. -/
def fnFrameOfUptoRow : OpenClaim := { program := "ytcgifoghggajgaa", sum := "91bd6a9b85c91b72c1f42b7fc02300d4c6f0462f86bdb362db72698a91cf0d4b", func := "loop.example/separation/laws.FnFrameOf", spec := "fnFrameOf", unfollowed := true, recurses := true, apart := false, narrowed := true }
def FnFrameOfUptoSaid : Prop := fnFrameOfUptoRow.holds Try.pinned (OpenSpec.upto fnFrameOfSpec)

/-- 'laws.FnExactSafeCells', WHERE WHAT IT READS IS OF BULK AT MOST 1048576: true; the input reads as it did. -/
def fnExactSafeCellsUptoRow : OpenClaim := { program := "ytcgifoghggajgaa", sum := "91bd6a9b85c91b72c1f42b7fc02300d4c6f0462f86bdb362db72698a91cf0d4b", func := "loop.example/separation/laws.FnExactSafeCells", spec := "fnExactSafeCells", recurses := true, loops := true, apart := false, narrowed := true }
def FnExactSafeCellsUptoSaid : Prop := fnExactSafeCellsUptoRow.holds Try.pinned (OpenSpec.upto fnExactSafeCellsSpec)

/-- 'laws.FnExactTryTriple', WHERE WHAT IT READS IS OF BULK AT MOST 1048576: true; the input reads as it did. -/
def fnExactTryTripleUptoRow : OpenClaim := { program := "ytcgifoghggajgaa", sum := "91bd6a9b85c91b72c1f42b7fc02300d4c6f0462f86bdb362db72698a91cf0d4b", func := "loop.example/separation/laws.FnExactTryTriple", spec := "fnExactTryTriple", recurses := true, loops := true, apart := false, narrowed := true }
def FnExactTryTripleUptoSaid : Prop := fnExactTryTripleUptoRow.holds Try.pinned (OpenSpec.upto fnExactTryTripleSpec)

end Rows
end Go.Proofs.Ytcgifoghggajgaa
