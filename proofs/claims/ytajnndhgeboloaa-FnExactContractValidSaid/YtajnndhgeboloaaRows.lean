/-
  No cell of these rows narrows 'for every input' (looked for: loops, veiled, ifaces, maps, wideKeys, modest, calm, conditions, laid).
  DERIVED. THE GIVEN ROWS OF THIS SEAT. 5 by the template 'for every input the law returns true; each argument reads behind the call as it read before'; 0 by the template 'total and deterministic' (their statements: YtajnndhgeboloaaTotals.lean).
  GIVEN WITH THE SEED: the statements are not yours to turn. If you find one false, say at which input.
  Laid BY PROGRAM, IN A SANDBOX (cutbox-rows.mjs): the forced cells as the released guide's own fill.sh prints them over the translation a820abf776dc6c1a… (all of the seat's roots in one cut). By AI agents, Wed Nov 11 2026. No macro, syntax, notation, axiom, sorry.
-/
import Derived.Test.YtajnndhgeboloaaChecked
import GoSem.Claim
import GoSem.ClaimJoined
import GoSem.ClaimMapViews
import Derived.JoinedTies
import Derived.KernelRfl
namespace Go.Proofs.Ytajnndhgeboloaa
/- THE CELL 'sum', in the pinned program and in every row, IS THE sha256 OF THE DUMP (.gsa) THAT YtajnndhgeboloaaProg.lean LOADS. Nothing in Lean hashes anything: it is a label: what it is worth is what the hold of that sum in a sandbox is worth. -/
noncomputable def Try.pinned : Pinned := { name := "ytajnndhgeboloaa", sum := "a820abf776dc6c1a18e38761b05ded4d747c5e3c45384b895ddfebb26325e503", checked := Try.checked }
namespace Rows
def none {H : Type} : Left H := { results := [], args := [] }

/-- 'laws.FnExactContractValid': WHATEVER THE INPUT: true; the input reads as it did. -/
def fnExactContractValidSpec : ChangeSpec := { name := "fnExactContractValid", fn := fun _ => fun
  | [d] => { results := [.lit (.bool true)], args := [d] }
  | _ => none }
def fnExactContractValidRow : OpenClaim := { program := "ytajnndhgeboloaa", sum := "a820abf776dc6c1a18e38761b05ded4d747c5e3c45384b895ddfebb26325e503", func := "loop.example/separation/laws.FnExactContractValid", spec := "fnExactContractValid", apart := false }
def FnExactContractValidSaid : Prop := fnExactContractValidRow.holds Try.pinned (OpenSpec.ofChange fnExactContractValidSpec)

/-- ITS FALSE NEIGHBOUR: 'it returns false'. Refute it at one input. -/
def fnExactContractValidWrong : ChangeSpec := { name := "fnExactContractValid", fn := fun _ => fun
  | [d] => { results := [.lit (.bool false)], args := [d] }
  | _ => none }
def FnExactContractValidWrongFalsely : Prop := fnExactContractValidRow.holds Try.pinned (OpenSpec.ofChange fnExactContractValidWrong)

/-- 'laws.FnLogicalTerms': WHATEVER THE INPUT: true; the input reads as it did. -/
def fnLogicalTermsSpec : ChangeSpec := { name := "fnLogicalTerms", fn := fun _ => fun
  | [d] => { results := [.lit (.bool true)], args := [d] }
  | _ => none }
def fnLogicalTermsRow : OpenClaim := { program := "ytajnndhgeboloaa", sum := "a820abf776dc6c1a18e38761b05ded4d747c5e3c45384b895ddfebb26325e503", func := "loop.example/separation/laws.FnLogicalTerms", spec := "fnLogicalTerms", unfollowed := true, recurses := true, apart := false }
def FnLogicalTermsSaid : Prop := fnLogicalTermsRow.holds Try.pinned (OpenSpec.ofChange fnLogicalTermsSpec)

/-- ITS FALSE NEIGHBOUR: 'it returns false'. Refute it at one input. -/
def fnLogicalTermsWrong : ChangeSpec := { name := "fnLogicalTerms", fn := fun _ => fun
  | [d] => { results := [.lit (.bool false)], args := [d] }
  | _ => none }
def FnLogicalTermsWrongFalsely : Prop := fnLogicalTermsRow.holds Try.pinned (OpenSpec.ofChange fnLogicalTermsWrong)

/-- 'laws.FnExactCasesOf': WHATEVER THE INPUT: true; the input reads as it did. -/
def fnExactCasesOfSpec : ChangeSpec := { name := "fnExactCasesOf", fn := fun _ => fun
  | [d] => { results := [.lit (.bool true)], args := [d] }
  | _ => none }
def fnExactCasesOfRow : OpenClaim := { program := "ytajnndhgeboloaa", sum := "a820abf776dc6c1a18e38761b05ded4d747c5e3c45384b895ddfebb26325e503", func := "loop.example/separation/laws.FnExactCasesOf", spec := "fnExactCasesOf", unfollowed := true, recurses := true, apart := false }
def FnExactCasesOfSaid : Prop := fnExactCasesOfRow.holds Try.pinned (OpenSpec.ofChange fnExactCasesOfSpec)

/-- ITS FALSE NEIGHBOUR: 'it returns false'. Refute it at one input. -/
def fnExactCasesOfWrong : ChangeSpec := { name := "fnExactCasesOf", fn := fun _ => fun
  | [d] => { results := [.lit (.bool false)], args := [d] }
  | _ => none }
def FnExactCasesOfWrongFalsely : Prop := fnExactCasesOfRow.holds Try.pinned (OpenSpec.ofChange fnExactCasesOfWrong)

/-- 'laws.FnTidyKeep': WHATEVER THE INPUT: true; the input reads as it did. -/
def fnTidyKeepSpec : ChangeSpec := { name := "fnTidyKeep", fn := fun _ => fun
  | [d] => { results := [.lit (.bool true)], args := [d] }
  | _ => none }
def fnTidyKeepRow : OpenClaim := { program := "ytajnndhgeboloaa", sum := "a820abf776dc6c1a18e38761b05ded4d747c5e3c45384b895ddfebb26325e503", func := "loop.example/separation/laws.FnTidyKeep", spec := "fnTidyKeep", unfollowed := true, recurses := true, apart := false }
def FnTidyKeepSaid : Prop := fnTidyKeepRow.holds Try.pinned (OpenSpec.ofChange fnTidyKeepSpec)

/-- ITS FALSE NEIGHBOUR: 'it returns false'. Refute it at one input. -/
def fnTidyKeepWrong : ChangeSpec := { name := "fnTidyKeep", fn := fun _ => fun
  | [d] => { results := [.lit (.bool false)], args := [d] }
  | _ => none }
def FnTidyKeepWrongFalsely : Prop := fnTidyKeepRow.holds Try.pinned (OpenSpec.ofChange fnTidyKeepWrong)

/-- 'laws.FnExactSymTest': WHATEVER THE INPUT: true; the input reads as it did. -/
def fnExactSymTestSpec : ChangeSpec := { name := "fnExactSymTest", fn := fun _ => fun
  | [d1, d2] => { results := [.lit (.bool true)], args := [d1, d2] }
  | _ => none }
def fnExactSymTestRow : OpenClaim := { program := "ytajnndhgeboloaa", sum := "a820abf776dc6c1a18e38761b05ded4d747c5e3c45384b895ddfebb26325e503", func := "loop.example/separation/laws.FnExactSymTest", spec := "fnExactSymTest", unfollowed := true, recurses := true, apart := false }
def FnExactSymTestSaid : Prop := fnExactSymTestRow.holds Try.pinned (OpenSpec.ofChange fnExactSymTestSpec)

/-- ITS FALSE NEIGHBOUR: 'it returns false'. Refute it at one input. -/
def fnExactSymTestWrong : ChangeSpec := { name := "fnExactSymTest", fn := fun _ => fun
  | [d1, d2] => { results := [.lit (.bool false)], args := [d1, d2] }
  | _ => none }
def FnExactSymTestWrongFalsely : Prop := fnExactSymTestRow.holds Try.pinned (OpenSpec.ofChange fnExactSymTestWrong)

/- THE SECOND FORM. 'bulk': how many values and letters a reading holds, each counted each time it is reached (what is shared counts as often as it is met; a slice's spare places count too). A statement '..UptoSaid' is the law's where the arguments, and the package variables that the reading takes, are together of bulk at most 1048576: NARROWER than '..Said'. Prove '..Said' where nothing that the law and all that it calls make is longer than what came in: it says more and counts as full. Else prove '..UptoSaid'. A law counts once. -/
mutual
def uptoBulk {H : Type} : DataW H → Nat
  | .lit (.string bytes) => bytes.length + 1
  | .lit _ => 1
  | .nil => 1
  | .ptr d => uptoBulk d + 1
  | .slice elems spare => uptoBulkAll elems + uptoBulkAll spare + 1
  | .agg parts => uptoBulkAll parts + 1
  | .iface _ d => uptoBulk d + 1
  | .map entries => uptoBulkEntries entries + 1
  | .held _ => 1
def uptoBulkAll {H : Type} : List (DataW H) → Nat
  | [] => 0
  | d :: r => uptoBulk d + uptoBulkAll r
def uptoBulkEntries {H : Type} : List (Lit × DataW H) → Nat
  | [] => 0
  | x :: r => uptoBulkEntry x + uptoBulkEntries r
def uptoBulkEntry {H : Type} : Lit × DataW H → Nat
  | (.string bytes, d) => bytes.length + uptoBulk d + 1
  | (_, d) => uptoBulk d + 1
 end
def uptoSmall : (H : Type) → List (DataW H) → Bool := fun _ ds => decide (uptoBulkAll ds ≤ 1048576)
def OpenSpec.upto (s : _root_.Go.ChangeSpec) : _root_.Go.OpenSpec := { _root_.Go.OpenSpec.ofChange s with cond := some uptoSmall }

/-- 'laws.FnExactContractValid', WHERE WHAT IT READS IS OF BULK AT MOST 1048576: true; the input reads as it did. -/
def fnExactContractValidUptoRow : OpenClaim := { program := "ytajnndhgeboloaa", sum := "a820abf776dc6c1a18e38761b05ded4d747c5e3c45384b895ddfebb26325e503", func := "loop.example/separation/laws.FnExactContractValid", spec := "fnExactContractValid", apart := false, narrowed := true }
def FnExactContractValidUptoSaid : Prop := fnExactContractValidUptoRow.holds Try.pinned (OpenSpec.upto fnExactContractValidSpec)

/-- 'laws.FnLogicalTerms', WHERE WHAT IT READS IS OF BULK AT MOST 1048576: true; the input reads as it did. -/
def fnLogicalTermsUptoRow : OpenClaim := { program := "ytajnndhgeboloaa", sum := "a820abf776dc6c1a18e38761b05ded4d747c5e3c45384b895ddfebb26325e503", func := "loop.example/separation/laws.FnLogicalTerms", spec := "fnLogicalTerms", unfollowed := true, recurses := true, apart := false, narrowed := true }
def FnLogicalTermsUptoSaid : Prop := fnLogicalTermsUptoRow.holds Try.pinned (OpenSpec.upto fnLogicalTermsSpec)

/-- 'laws.FnExactCasesOf', WHERE WHAT IT READS IS OF BULK AT MOST 1048576: true; the input reads as it did. -/
def fnExactCasesOfUptoRow : OpenClaim := { program := "ytajnndhgeboloaa", sum := "a820abf776dc6c1a18e38761b05ded4d747c5e3c45384b895ddfebb26325e503", func := "loop.example/separation/laws.FnExactCasesOf", spec := "fnExactCasesOf", unfollowed := true, recurses := true, apart := false, narrowed := true }
def FnExactCasesOfUptoSaid : Prop := fnExactCasesOfUptoRow.holds Try.pinned (OpenSpec.upto fnExactCasesOfSpec)

/-- 'laws.FnTidyKeep', WHERE WHAT IT READS IS OF BULK AT MOST 1048576: true; the input reads as it did. -/
def fnTidyKeepUptoRow : OpenClaim := { program := "ytajnndhgeboloaa", sum := "a820abf776dc6c1a18e38761b05ded4d747c5e3c45384b895ddfebb26325e503", func := "loop.example/separation/laws.FnTidyKeep", spec := "fnTidyKeep", unfollowed := true, recurses := true, apart := false, narrowed := true }
def FnTidyKeepUptoSaid : Prop := fnTidyKeepUptoRow.holds Try.pinned (OpenSpec.upto fnTidyKeepSpec)

/-- 'laws.FnExactSymTest', WHERE WHAT IT READS IS OF BULK AT MOST 1048576: true; the input reads as it did. -/
def fnExactSymTestUptoRow : OpenClaim := { program := "ytajnndhgeboloaa", sum := "a820abf776dc6c1a18e38761b05ded4d747c5e3c45384b895ddfebb26325e503", func := "loop.example/separation/laws.FnExactSymTest", spec := "fnExactSymTest", unfollowed := true, recurses := true, apart := false, narrowed := true }
def FnExactSymTestUptoSaid : Prop := fnExactSymTestUptoRow.holds Try.pinned (OpenSpec.upto fnExactSymTestSpec)

end Rows
end Go.Proofs.Ytajnndhgeboloaa
