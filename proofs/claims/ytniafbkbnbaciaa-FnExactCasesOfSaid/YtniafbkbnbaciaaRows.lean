/-
  NARROWER THAN 'FOR EVERY INPUT', by the rows' own cells (each row's printed sentence says how): FnExactChangedTerms: loops · FnExactLogicalTerms: loops.
  DERIVED. THE GIVEN ROWS OF THIS SEAT. 12 by the template 'for every input the law returns true; each argument reads behind the call as it read before'; 0 by the template 'total and deterministic' (their statements: YtniafbkbnbaciaaTotals.lean).
  GIVEN WITH THE SEED: the statements are not yours to turn. If you find one false, say at which input.
  Laid BY PROGRAM, IN A SANDBOX (cutbox-rows.mjs): the forced cells as the released guide's own fill.sh prints them over the translation e1957f14f813e068… (all of the seat's roots in one cut). By AI agents, Wed Nov 11 2026. No macro, syntax, notation, axiom, sorry.
-/
import Derived.Test.YtniafbkbnbaciaaChecked
import GoSem.Claim
import GoSem.ClaimJoined
import GoSem.ClaimMapViews
import Derived.JoinedTies
import Derived.KernelRfl
namespace Go.Proofs.Ytniafbkbnbaciaa
/- THE CELL 'sum', in the pinned program and in every row, IS THE sha256 OF THE DUMP (.gsa) THAT YtniafbkbnbaciaaProg.lean LOADS. Nothing in Lean hashes anything: it is a label: what it is worth is what the hold of that sum in a sandbox is worth. -/
noncomputable def Try.pinned : Pinned := { name := "ytniafbkbnbaciaa", sum := "e1957f14f813e068f977eebe962862307d01da9f451fe367914e594121d40b6e", checked := Try.checked }
namespace Rows
def none {H : Type} : Left H := { results := [], args := [] }

/-- 'laws.FnExactFrameContract': WHATEVER THE INPUT: true; the input reads as it did. -/
def fnExactFrameContractSpec : ChangeSpec := { name := "fnExactFrameContract", fn := fun _ => fun
  | [d1, d2] => { results := [.lit (.bool true)], args := [d1, d2] }
  | _ => none }
def fnExactFrameContractRow : OpenClaim := { program := "ytniafbkbnbaciaa", sum := "e1957f14f813e068f977eebe962862307d01da9f451fe367914e594121d40b6e", func := "loop.example/separation/laws.FnExactFrameContract", spec := "fnExactFrameContract", apart := false }
def FnExactFrameContractSaid : Prop := fnExactFrameContractRow.holds Try.pinned (OpenSpec.ofChange fnExactFrameContractSpec)

/-- ITS FALSE NEIGHBOUR: 'it returns false'. Refute it at one input. -/
def fnExactFrameContractWrong : ChangeSpec := { name := "fnExactFrameContract", fn := fun _ => fun
  | [d1, d2] => { results := [.lit (.bool false)], args := [d1, d2] }
  | _ => none }
def FnExactFrameContractWrongFalsely : Prop := fnExactFrameContractRow.holds Try.pinned (OpenSpec.ofChange fnExactFrameContractWrong)

/-- 'laws.FnExactCasesOf': WHATEVER THE INPUT: true; the input reads as it did. -/
def fnExactCasesOfSpec : ChangeSpec := { name := "fnExactCasesOf", fn := fun _ => fun
  | [d] => { results := [.lit (.bool true)], args := [d] }
  | _ => none }
def fnExactCasesOfRow : OpenClaim := { program := "ytniafbkbnbaciaa", sum := "e1957f14f813e068f977eebe962862307d01da9f451fe367914e594121d40b6e", func := "loop.example/separation/laws.FnExactCasesOf", spec := "fnExactCasesOf", unfollowed := true, recurses := true, apart := false }
def FnExactCasesOfSaid : Prop := fnExactCasesOfRow.holds Try.pinned (OpenSpec.ofChange fnExactCasesOfSpec)

/-- ITS FALSE NEIGHBOUR: 'it returns false'. Refute it at one input. -/
def fnExactCasesOfWrong : ChangeSpec := { name := "fnExactCasesOf", fn := fun _ => fun
  | [d] => { results := [.lit (.bool false)], args := [d] }
  | _ => none }
def FnExactCasesOfWrongFalsely : Prop := fnExactCasesOfRow.holds Try.pinned (OpenSpec.ofChange fnExactCasesOfWrong)

/-- 'laws.FnExactSymTest': WHATEVER THE INPUT: true; the input reads as it did. -/
def fnExactSymTestSpec : ChangeSpec := { name := "fnExactSymTest", fn := fun _ => fun
  | [d1, d2] => { results := [.lit (.bool true)], args := [d1, d2] }
  | _ => none }
def fnExactSymTestRow : OpenClaim := { program := "ytniafbkbnbaciaa", sum := "e1957f14f813e068f977eebe962862307d01da9f451fe367914e594121d40b6e", func := "loop.example/separation/laws.FnExactSymTest", spec := "fnExactSymTest", unfollowed := true, recurses := true, apart := false }
def FnExactSymTestSaid : Prop := fnExactSymTestRow.holds Try.pinned (OpenSpec.ofChange fnExactSymTestSpec)

/-- ITS FALSE NEIGHBOUR: 'it returns false'. Refute it at one input. -/
def fnExactSymTestWrong : ChangeSpec := { name := "fnExactSymTest", fn := fun _ => fun
  | [d1, d2] => { results := [.lit (.bool false)], args := [d1, d2] }
  | _ => none }
def FnExactSymTestWrongFalsely : Prop := fnExactSymTestRow.holds Try.pinned (OpenSpec.ofChange fnExactSymTestWrong)

/-- 'laws.FnExactFailingCase': WHATEVER THE INPUT: true; the input reads as it did. -/
def fnExactFailingCaseSpec : ChangeSpec := { name := "fnExactFailingCase", fn := fun _ => fun
  | [d1, d2] => { results := [.lit (.bool true)], args := [d1, d2] }
  | _ => none }
def fnExactFailingCaseRow : OpenClaim := { program := "ytniafbkbnbaciaa", sum := "e1957f14f813e068f977eebe962862307d01da9f451fe367914e594121d40b6e", func := "loop.example/separation/laws.FnExactFailingCase", spec := "fnExactFailingCase", unfollowed := true, recurses := true, apart := false }
def FnExactFailingCaseSaid : Prop := fnExactFailingCaseRow.holds Try.pinned (OpenSpec.ofChange fnExactFailingCaseSpec)

/-- ITS FALSE NEIGHBOUR: 'it returns false'. Refute it at one input. -/
def fnExactFailingCaseWrong : ChangeSpec := { name := "fnExactFailingCase", fn := fun _ => fun
  | [d1, d2] => { results := [.lit (.bool false)], args := [d1, d2] }
  | _ => none }
def FnExactFailingCaseWrongFalsely : Prop := fnExactFailingCaseRow.holds Try.pinned (OpenSpec.ofChange fnExactFailingCaseWrong)

/-- 'laws.FnExactChangedTerms': WHATEVER THE INPUT: true; the input reads as it did. -/
def fnExactChangedTermsSpec : ChangeSpec := { name := "fnExactChangedTerms", fn := fun _ => fun
  | [d] => { results := [.lit (.bool true)], args := [d] }
  | _ => none }
def fnExactChangedTermsRow : OpenClaim := { program := "ytniafbkbnbaciaa", sum := "e1957f14f813e068f977eebe962862307d01da9f451fe367914e594121d40b6e", func := "loop.example/separation/laws.FnExactChangedTerms", spec := "fnExactChangedTerms", unfollowed := true, recurses := true, loops := true, apart := false }
def FnExactChangedTermsSaid : Prop := fnExactChangedTermsRow.holds Try.pinned (OpenSpec.ofChange fnExactChangedTermsSpec)

/-- ITS FALSE NEIGHBOUR: 'it returns false'. Refute it at one input. -/
def fnExactChangedTermsWrong : ChangeSpec := { name := "fnExactChangedTerms", fn := fun _ => fun
  | [d] => { results := [.lit (.bool false)], args := [d] }
  | _ => none }
def FnExactChangedTermsWrongFalsely : Prop := fnExactChangedTermsRow.holds Try.pinned (OpenSpec.ofChange fnExactChangedTermsWrong)

/-- 'laws.FnExactLogicalTerms': WHATEVER THE INPUT: true; the input reads as it did. -/
def fnExactLogicalTermsSpec : ChangeSpec := { name := "fnExactLogicalTerms", fn := fun _ => fun
  | [d] => { results := [.lit (.bool true)], args := [d] }
  | _ => none }
def fnExactLogicalTermsRow : OpenClaim := { program := "ytniafbkbnbaciaa", sum := "e1957f14f813e068f977eebe962862307d01da9f451fe367914e594121d40b6e", func := "loop.example/separation/laws.FnExactLogicalTerms", spec := "fnExactLogicalTerms", unfollowed := true, recurses := true, loops := true, apart := false }
def FnExactLogicalTermsSaid : Prop := fnExactLogicalTermsRow.holds Try.pinned (OpenSpec.ofChange fnExactLogicalTermsSpec)

/-- ITS FALSE NEIGHBOUR: 'it returns false'. Refute it at one input. -/
def fnExactLogicalTermsWrong : ChangeSpec := { name := "fnExactLogicalTerms", fn := fun _ => fun
  | [d] => { results := [.lit (.bool false)], args := [d] }
  | _ => none }
def FnExactLogicalTermsWrongFalsely : Prop := fnExactLogicalTermsRow.holds Try.pinned (OpenSpec.ofChange fnExactLogicalTermsWrong)

/-- 'laws.FnExactRefines': WHATEVER THE INPUT: true; the input reads as it did. -/
def fnExactRefinesSpec : ChangeSpec := { name := "fnExactRefines", fn := fun _ => fun
  | [d1, d2] => { results := [.lit (.bool true)], args := [d1, d2] }
  | _ => none }
def fnExactRefinesRow : OpenClaim := { program := "ytniafbkbnbaciaa", sum := "e1957f14f813e068f977eebe962862307d01da9f451fe367914e594121d40b6e", func := "loop.example/separation/laws.FnExactRefines", spec := "fnExactRefines", unfollowed := true, recurses := true, apart := false }
def FnExactRefinesSaid : Prop := fnExactRefinesRow.holds Try.pinned (OpenSpec.ofChange fnExactRefinesSpec)

/-- ITS FALSE NEIGHBOUR: 'it returns false'. Refute it at one input. -/
def fnExactRefinesWrong : ChangeSpec := { name := "fnExactRefines", fn := fun _ => fun
  | [d1, d2] => { results := [.lit (.bool false)], args := [d1, d2] }
  | _ => none }
def FnExactRefinesWrongFalsely : Prop := fnExactRefinesRow.holds Try.pinned (OpenSpec.ofChange fnExactRefinesWrong)

/-- 'laws.FnHoldsMore': WHATEVER THE INPUT: true; the input reads as it did. -/
def fnHoldsMoreSpec : ChangeSpec := { name := "fnHoldsMore", fn := fun _ => fun
  | [d1, d2] => { results := [.lit (.bool true)], args := [d1, d2] }
  | _ => none }
def fnHoldsMoreRow : OpenClaim := { program := "ytniafbkbnbaciaa", sum := "e1957f14f813e068f977eebe962862307d01da9f451fe367914e594121d40b6e", func := "loop.example/separation/laws.FnHoldsMore", spec := "fnHoldsMore", apart := false }
def FnHoldsMoreSaid : Prop := fnHoldsMoreRow.holds Try.pinned (OpenSpec.ofChange fnHoldsMoreSpec)

/-- ITS FALSE NEIGHBOUR: 'it returns false'. Refute it at one input. -/
def fnHoldsMoreWrong : ChangeSpec := { name := "fnHoldsMore", fn := fun _ => fun
  | [d1, d2] => { results := [.lit (.bool false)], args := [d1, d2] }
  | _ => none }
def FnHoldsMoreWrongFalsely : Prop := fnHoldsMoreRow.holds Try.pinned (OpenSpec.ofChange fnHoldsMoreWrong)

/-- 'laws.FnHoldsPart': WHATEVER THE INPUT: true; the input reads as it did. -/
def fnHoldsPartSpec : ChangeSpec := { name := "fnHoldsPart", fn := fun _ => fun
  | [d] => { results := [.lit (.bool true)], args := [d] }
  | _ => none }
def fnHoldsPartRow : OpenClaim := { program := "ytniafbkbnbaciaa", sum := "e1957f14f813e068f977eebe962862307d01da9f451fe367914e594121d40b6e", func := "loop.example/separation/laws.FnHoldsPart", spec := "fnHoldsPart", apart := false }
def FnHoldsPartSaid : Prop := fnHoldsPartRow.holds Try.pinned (OpenSpec.ofChange fnHoldsPartSpec)

/-- ITS FALSE NEIGHBOUR: 'it returns false'. Refute it at one input. -/
def fnHoldsPartWrong : ChangeSpec := { name := "fnHoldsPart", fn := fun _ => fun
  | [d] => { results := [.lit (.bool false)], args := [d] }
  | _ => none }
def FnHoldsPartWrongFalsely : Prop := fnHoldsPartRow.holds Try.pinned (OpenSpec.ofChange fnHoldsPartWrong)

/-- 'laws.FnHoldsStar': WHATEVER THE INPUT: true; the input reads as it did. -/
def fnHoldsStarSpec : ChangeSpec := { name := "fnHoldsStar", fn := fun _ => fun
  | [d1, d2] => { results := [.lit (.bool true)], args := [d1, d2] }
  | _ => none }
def fnHoldsStarRow : OpenClaim := { program := "ytniafbkbnbaciaa", sum := "e1957f14f813e068f977eebe962862307d01da9f451fe367914e594121d40b6e", func := "loop.example/separation/laws.FnHoldsStar", spec := "fnHoldsStar", apart := false }
def FnHoldsStarSaid : Prop := fnHoldsStarRow.holds Try.pinned (OpenSpec.ofChange fnHoldsStarSpec)

/-- ITS FALSE NEIGHBOUR: 'it returns false'. Refute it at one input. -/
def fnHoldsStarWrong : ChangeSpec := { name := "fnHoldsStar", fn := fun _ => fun
  | [d1, d2] => { results := [.lit (.bool false)], args := [d1, d2] }
  | _ => none }
def FnHoldsStarWrongFalsely : Prop := fnHoldsStarRow.holds Try.pinned (OpenSpec.ofChange fnHoldsStarWrong)

/-- 'laws.FnLogicalTerms': WHATEVER THE INPUT: true; the input reads as it did. -/
def fnLogicalTermsSpec : ChangeSpec := { name := "fnLogicalTerms", fn := fun _ => fun
  | [d] => { results := [.lit (.bool true)], args := [d] }
  | _ => none }
def fnLogicalTermsRow : OpenClaim := { program := "ytniafbkbnbaciaa", sum := "e1957f14f813e068f977eebe962862307d01da9f451fe367914e594121d40b6e", func := "loop.example/separation/laws.FnLogicalTerms", spec := "fnLogicalTerms", unfollowed := true, recurses := true, apart := false }
def FnLogicalTermsSaid : Prop := fnLogicalTermsRow.holds Try.pinned (OpenSpec.ofChange fnLogicalTermsSpec)

/-- ITS FALSE NEIGHBOUR: 'it returns false'. Refute it at one input. -/
def fnLogicalTermsWrong : ChangeSpec := { name := "fnLogicalTerms", fn := fun _ => fun
  | [d] => { results := [.lit (.bool false)], args := [d] }
  | _ => none }
def FnLogicalTermsWrongFalsely : Prop := fnLogicalTermsRow.holds Try.pinned (OpenSpec.ofChange fnLogicalTermsWrong)

/-- 'laws.FnTidyKeep': WHATEVER THE INPUT: true; the input reads as it did. -/
def fnTidyKeepSpec : ChangeSpec := { name := "fnTidyKeep", fn := fun _ => fun
  | [d] => { results := [.lit (.bool true)], args := [d] }
  | _ => none }
def fnTidyKeepRow : OpenClaim := { program := "ytniafbkbnbaciaa", sum := "e1957f14f813e068f977eebe962862307d01da9f451fe367914e594121d40b6e", func := "loop.example/separation/laws.FnTidyKeep", spec := "fnTidyKeep", unfollowed := true, recurses := true, apart := false }
def FnTidyKeepSaid : Prop := fnTidyKeepRow.holds Try.pinned (OpenSpec.ofChange fnTidyKeepSpec)

/-- ITS FALSE NEIGHBOUR: 'it returns false'. Refute it at one input. -/
def fnTidyKeepWrong : ChangeSpec := { name := "fnTidyKeep", fn := fun _ => fun
  | [d] => { results := [.lit (.bool false)], args := [d] }
  | _ => none }
def FnTidyKeepWrongFalsely : Prop := fnTidyKeepRow.holds Try.pinned (OpenSpec.ofChange fnTidyKeepWrong)

/- THE SECOND FORM. 'bulk': how many values and letters a reading holds, each counted each time it is reached (what is shared counts as often as it is met; a slice's spare places count too). A statement '..UptoSaid' is the law's where the arguments, and the package variables that the reading takes, are together of bulk at most 1048576: NARROWER than '..Said'. Prove '..Said' where nothing that the law and all that it calls make is longer than what came in: it says more and counts as full. Else prove '..UptoSaid'. A law counts once. -/
mutual
def uptoBulk {H : Type} : DataW H → Nat
  | .lit (.string bytes) => bytes.length + 1
  | .lit _ => 1
  | .nil => 1
  | .ptr d => uptoBulk d + 1
  | .slice elems spare => uptoBulkAll elems + uptoBulkAll spare + 1
  | .agg parts => uptoBulkAll parts + 1
  | .iface _ d => uptoBulk d + 1
  | .map entries => uptoBulkEntries entries + 1
  | .held _ => 1
def uptoBulkAll {H : Type} : List (DataW H) → Nat
  | [] => 0
  | d :: r => uptoBulk d + uptoBulkAll r
def uptoBulkEntries {H : Type} : List (Lit × DataW H) → Nat
  | [] => 0
  | x :: r => uptoBulkEntry x + uptoBulkEntries r
def uptoBulkEntry {H : Type} : Lit × DataW H → Nat
  | (.string bytes, d) => bytes.length + uptoBulk d + 1
  | (_, d) => uptoBulk d + 1
 end
def uptoSmall : (H : Type) → List (DataW H) → Bool := fun _ ds => decide (uptoBulkAll ds ≤ 1048576)
def OpenSpec.upto (s : _root_.Go.ChangeSpec) : _root_.Go.OpenSpec := { _root_.Go.OpenSpec.ofChange s with cond := some uptoSmall }

/-- 'laws.FnExactFrameContract', WHERE WHAT IT READS IS OF BULK AT MOST 1048576: true; the input reads as it did. -/
def fnExactFrameContractUptoRow : OpenClaim := { program := "ytniafbkbnbaciaa", sum := "e1957f14f813e068f977eebe962862307d01da9f451fe367914e594121d40b6e", func := "loop.example/separation/laws.FnExactFrameContract", spec := "fnExactFrameContract", apart := false, narrowed := true }
def FnExactFrameContractUptoSaid : Prop := fnExactFrameContractUptoRow.holds Try.pinned (OpenSpec.upto fnExactFrameContractSpec)

/-- 'laws.FnExactCasesOf', WHERE WHAT IT READS IS OF BULK AT MOST 1048576: true; the input reads as it did. -/
def fnExactCasesOfUptoRow : OpenClaim := { program := "ytniafbkbnbaciaa", sum := "e1957f14f813e068f977eebe962862307d01da9f451fe367914e594121d40b6e", func := "loop.example/separation/laws.FnExactCasesOf", spec := "fnExactCasesOf", unfollowed := true, recurses := true, apart := false, narrowed := true }
def FnExactCasesOfUptoSaid : Prop := fnExactCasesOfUptoRow.holds Try.pinned (OpenSpec.upto fnExactCasesOfSpec)

/-- 'laws.FnExactSymTest', WHERE WHAT IT READS IS OF BULK AT MOST 1048576: true; the input reads as it did. -/
def fnExactSymTestUptoRow : OpenClaim := { program := "ytniafbkbnbaciaa", sum := "e1957f14f813e068f977eebe962862307d01da9f451fe367914e594121d40b6e", func := "loop.example/separation/laws.FnExactSymTest", spec := "fnExactSymTest", unfollowed := true, recurses := true, apart := false, narrowed := true }
def FnExactSymTestUptoSaid : Prop := fnExactSymTestUptoRow.holds Try.pinned (OpenSpec.upto fnExactSymTestSpec)

/-- 'laws.FnExactFailingCase', WHERE WHAT IT READS IS OF BULK AT MOST 1048576: true; the input reads as it did. -/
def fnExactFailingCaseUptoRow : OpenClaim := { program := "ytniafbkbnbaciaa", sum := "e1957f14f813e068f977eebe962862307d01da9f451fe367914e594121d40b6e", func := "loop.example/separation/laws.FnExactFailingCase", spec := "fnExactFailingCase", unfollowed := true, recurses := true, apart := false, narrowed := true }
def FnExactFailingCaseUptoSaid : Prop := fnExactFailingCaseUptoRow.holds Try.pinned (OpenSpec.upto fnExactFailingCaseSpec)

/-- 'laws.FnExactChangedTerms', WHERE WHAT IT READS IS OF BULK AT MOST 1048576: true; the input reads as it did. -/
def fnExactChangedTermsUptoRow : OpenClaim := { program := "ytniafbkbnbaciaa", sum := "e1957f14f813e068f977eebe962862307d01da9f451fe367914e594121d40b6e", func := "loop.example/separation/laws.FnExactChangedTerms", spec := "fnExactChangedTerms", unfollowed := true, recurses := true, loops := true, apart := false, narrowed := true }
def FnExactChangedTermsUptoSaid : Prop := fnExactChangedTermsUptoRow.holds Try.pinned (OpenSpec.upto fnExactChangedTermsSpec)

/-- 'laws.FnExactLogicalTerms', WHERE WHAT IT READS IS OF BULK AT MOST 1048576: true; the input reads as it did. -/
def fnExactLogicalTermsUptoRow : OpenClaim := { program := "ytniafbkbnbaciaa", sum := "e1957f14f813e068f977eebe962862307d01da9f451fe367914e594121d40b6e", func := "loop.example/separation/laws.FnExactLogicalTerms", spec := "fnExactLogicalTerms", unfollowed := true, recurses := true, loops := true, apart := false, narrowed := true }
def FnExactLogicalTermsUptoSaid : Prop := fnExactLogicalTermsUptoRow.holds Try.pinned (OpenSpec.upto fnExactLogicalTermsSpec)

/-- 'laws.FnExactRefines', WHERE WHAT IT READS IS OF BULK AT MOST 1048576: true; the input reads as it did. -/
def fnExactRefinesUptoRow : OpenClaim := { program := "ytniafbkbnbaciaa", sum := "e1957f14f813e068f977eebe962862307d01da9f451fe367914e594121d40b6e", func := "loop.example/separation/laws.FnExactRefines", spec := "fnExactRefines", unfollowed := true, recurses := true, apart := false, narrowed := true }
def FnExactRefinesUptoSaid : Prop := fnExactRefinesUptoRow.holds Try.pinned (OpenSpec.upto fnExactRefinesSpec)

/-- 'laws.FnHoldsMore', WHERE WHAT IT READS IS OF BULK AT MOST 1048576: true; the input reads as it did. -/
def fnHoldsMoreUptoRow : OpenClaim := { program := "ytniafbkbnbaciaa", sum := "e1957f14f813e068f977eebe962862307d01da9f451fe367914e594121d40b6e", func := "loop.example/separation/laws.FnHoldsMore", spec := "fnHoldsMore", apart := false, narrowed := true }
def FnHoldsMoreUptoSaid : Prop := fnHoldsMoreUptoRow.holds Try.pinned (OpenSpec.upto fnHoldsMoreSpec)

/-- 'laws.FnHoldsPart', WHERE WHAT IT READS IS OF BULK AT MOST 1048576: true; the input reads as it did. -/
def fnHoldsPartUptoRow : OpenClaim := { program := "ytniafbkbnbaciaa", sum := "e1957f14f813e068f977eebe962862307d01da9f451fe367914e594121d40b6e", func := "loop.example/separation/laws.FnHoldsPart", spec := "fnHoldsPart", apart := false, narrowed := true }
def FnHoldsPartUptoSaid : Prop := fnHoldsPartUptoRow.holds Try.pinned (OpenSpec.upto fnHoldsPartSpec)

/-- 'laws.FnHoldsStar', WHERE WHAT IT READS IS OF BULK AT MOST 1048576: true; the input reads as it did. -/
def fnHoldsStarUptoRow : OpenClaim := { program := "ytniafbkbnbaciaa", sum := "e1957f14f813e068f977eebe962862307d01da9f451fe367914e594121d40b6e", func := "loop.example/separation/laws.FnHoldsStar", spec := "fnHoldsStar", apart := false, narrowed := true }
def FnHoldsStarUptoSaid : Prop := fnHoldsStarUptoRow.holds Try.pinned (OpenSpec.upto fnHoldsStarSpec)

/-- 'laws.FnLogicalTerms', WHERE WHAT IT READS IS OF BULK AT MOST 1048576: true; the input reads as it did. -/
def fnLogicalTermsUptoRow : OpenClaim := { program := "ytniafbkbnbaciaa", sum := "e1957f14f813e068f977eebe962862307d01da9f451fe367914e594121d40b6e", func := "loop.example/separation/laws.FnLogicalTerms", spec := "fnLogicalTerms", unfollowed := true, recurses := true, apart := false, narrowed := true }
def FnLogicalTermsUptoSaid : Prop := fnLogicalTermsUptoRow.holds Try.pinned (OpenSpec.upto fnLogicalTermsSpec)

/-- 'laws.FnTidyKeep', WHERE WHAT IT READS IS OF BULK AT MOST 1048576: true; the input reads as it did. -/
def fnTidyKeepUptoRow : OpenClaim := { program := "ytniafbkbnbaciaa", sum := "e1957f14f813e068f977eebe962862307d01da9f451fe367914e594121d40b6e", func := "loop.example/separation/laws.FnTidyKeep", spec := "fnTidyKeep", unfollowed := true, recurses := true, apart := false, narrowed := true }
def FnTidyKeepUptoSaid : Prop := fnTidyKeepUptoRow.holds Try.pinned (OpenSpec.upto fnTidyKeepSpec)

end Rows
end Go.Proofs.Ytniafbkbnbaciaa
