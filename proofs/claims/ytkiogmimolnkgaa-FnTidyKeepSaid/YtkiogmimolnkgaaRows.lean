/-
  NARROWER THAN 'FOR EVERY INPUT', by the rows' own cells (each row's printed sentence says how): FnExactChangedTerms: loops · FnExactLogicalTerms: loops.
  DERIVED. THE GIVEN ROWS OF THIS SEAT. 12 by the template 'for every input the law returns true; each argument reads behind the call as it read before'; 0 by the template 'total and deterministic' (their statements: YtkiogmimolnkgaaTotals.lean).
  GIVEN WITH THE SEED: the statements are not yours to turn. If you find one false, say at which input.
  Laid BY PROGRAM, IN A SANDBOX (cutbox-rows.mjs): the forced cells as the released guide's own fill.sh prints them over the translation 73f1f7d009dfefe9… (all of the seat's roots in one cut). By AI agents, Wed Nov 11 2026. No macro, syntax, notation, axiom, sorry.
-/
import Derived.Test.YtkiogmimolnkgaaChecked
import GoSem.Claim
import GoSem.ClaimJoined
import GoSem.ClaimMapViews
import Derived.JoinedTies
import Derived.KernelRfl
namespace Go.Proofs.Ytkiogmimolnkgaa
/- THE CELL 'sum', in the pinned program and in every row, IS THE sha256 OF THE DUMP (.gsa) THAT YtkiogmimolnkgaaProg.lean LOADS. Nothing in Lean hashes anything: it is a label: what it is worth is what the hold of that sum in a sandbox is worth. -/
noncomputable def Try.pinned : Pinned := { name := "ytkiogmimolnkgaa", sum := "73f1f7d009dfefe9ea78ea834ba7c88865dc114d537e0bc1de457a72d8fe45b3", checked := Try.checked }
namespace Rows
def none {H : Type} : Left H := { results := [], args := [] }

/-- 'laws.FnExactFailingCase': WHATEVER THE INPUT: true; the input reads as it did. -/
def fnExactFailingCaseSpec : ChangeSpec := { name := "fnExactFailingCase", fn := fun _ => fun
  | [d1, d2] => { results := [.lit (.bool true)], args := [d1, d2] }
  | _ => none }
def fnExactFailingCaseRow : OpenClaim := { program := "ytkiogmimolnkgaa", sum := "73f1f7d009dfefe9ea78ea834ba7c88865dc114d537e0bc1de457a72d8fe45b3", func := "loop.example/separation/laws.FnExactFailingCase", spec := "fnExactFailingCase", unfollowed := true, recurses := true, apart := false }
def FnExactFailingCaseSaid : Prop := fnExactFailingCaseRow.holds Try.pinned (OpenSpec.ofChange fnExactFailingCaseSpec)

/-- ITS FALSE NEIGHBOUR: 'it returns false'. Refute it at one input. -/
def fnExactFailingCaseWrong : ChangeSpec := { name := "fnExactFailingCase", fn := fun _ => fun
  | [d1, d2] => { results := [.lit (.bool false)], args := [d1, d2] }
  | _ => none }
def FnExactFailingCaseWrongFalsely : Prop := fnExactFailingCaseRow.holds Try.pinned (OpenSpec.ofChange fnExactFailingCaseWrong)

/-- 'laws.FnExactFrameContract': WHATEVER THE INPUT: true; the input reads as it did. -/
def fnExactFrameContractSpec : ChangeSpec := { name := "fnExactFrameContract", fn := fun _ => fun
  | [d1, d2] => { results := [.lit (.bool true)], args := [d1, d2] }
  | _ => none }
def fnExactFrameContractRow : OpenClaim := { program := "ytkiogmimolnkgaa", sum := "73f1f7d009dfefe9ea78ea834ba7c88865dc114d537e0bc1de457a72d8fe45b3", func := "loop.example/separation/laws.FnExactFrameContract", spec := "fnExactFrameContract", apart := false }
def FnExactFrameContractSaid : Prop := fnExactFrameContractRow.holds Try.pinned (OpenSpec.ofChange fnExactFrameContractSpec)

/-- ITS FALSE NEIGHBOUR: 'it returns false'. Refute it at one input. -/
def fnExactFrameContractWrong : ChangeSpec := { name := "fnExactFrameContract", fn := fun _ => fun
  | [d1, d2] => { results := [.lit (.bool false)], args := [d1, d2] }
  | _ => none }
def FnExactFrameContractWrongFalsely : Prop := fnExactFrameContractRow.holds Try.pinned (OpenSpec.ofChange fnExactFrameContractWrong)

/-- 'laws.FnExactRefines': WHATEVER THE INPUT: true; the input reads as it did. -/
def fnExactRefinesSpec : ChangeSpec := { name := "fnExactRefines", fn := fun _ => fun
  | [d1, d2] => { results := [.lit (.bool true)], args := [d1, d2] }
  | _ => none }
def fnExactRefinesRow : OpenClaim := { program := "ytkiogmimolnkgaa", sum := "73f1f7d009dfefe9ea78ea834ba7c88865dc114d537e0bc1de457a72d8fe45b3", func := "loop.example/separation/laws.FnExactRefines", spec := "fnExactRefines", unfollowed := true, recurses := true, apart := false }
def FnExactRefinesSaid : Prop := fnExactRefinesRow.holds Try.pinned (OpenSpec.ofChange fnExactRefinesSpec)

/-- ITS FALSE NEIGHBOUR: 'it returns false'. Refute it at one input. -/
def fnExactRefinesWrong : ChangeSpec := { name := "fnExactRefines", fn := fun _ => fun
  | [d1, d2] => { results := [.lit (.bool false)], args := [d1, d2] }
  | _ => none }
def FnExactRefinesWrongFalsely : Prop := fnExactRefinesRow.holds Try.pinned (OpenSpec.ofChange fnExactRefinesWrong)

/-- 'laws.FnExactChangedTerms': WHATEVER THE INPUT: true; the input reads as it did. -/
def fnExactChangedTermsSpec : ChangeSpec := { name := "fnExactChangedTerms", fn := fun _ => fun
  | [d] => { results := [.lit (.bool true)], args := [d] }
  | _ => none }
def fnExactChangedTermsRow : OpenClaim := { program := "ytkiogmimolnkgaa", sum := "73f1f7d009dfefe9ea78ea834ba7c88865dc114d537e0bc1de457a72d8fe45b3", func := "loop.example/separation/laws.FnExactChangedTerms", spec := "fnExactChangedTerms", unfollowed := true, recurses := true, loops := true, apart := false }
def FnExactChangedTermsSaid : Prop := fnExactChangedTermsRow.holds Try.pinned (OpenSpec.ofChange fnExactChangedTermsSpec)

/-- ITS FALSE NEIGHBOUR: 'it returns false'. Refute it at one input. -/
def fnExactChangedTermsWrong : ChangeSpec := { name := "fnExactChangedTerms", fn := fun _ => fun
  | [d] => { results := [.lit (.bool false)], args := [d] }
  | _ => none }
def FnExactChangedTermsWrongFalsely : Prop := fnExactChangedTermsRow.holds Try.pinned (OpenSpec.ofChange fnExactChangedTermsWrong)

/-- 'laws.FnExactLogicalTerms': WHATEVER THE INPUT: true; the input reads as it did. -/
def fnExactLogicalTermsSpec : ChangeSpec := { name := "fnExactLogicalTerms", fn := fun _ => fun
  | [d] => { results := [.lit (.bool true)], args := [d] }
  | _ => none }
def fnExactLogicalTermsRow : OpenClaim := { program := "ytkiogmimolnkgaa", sum := "73f1f7d009dfefe9ea78ea834ba7c88865dc114d537e0bc1de457a72d8fe45b3", func := "loop.example/separation/laws.FnExactLogicalTerms", spec := "fnExactLogicalTerms", unfollowed := true, recurses := true, loops := true, apart := false }
def FnExactLogicalTermsSaid : Prop := fnExactLogicalTermsRow.holds Try.pinned (OpenSpec.ofChange fnExactLogicalTermsSpec)

/-- ITS FALSE NEIGHBOUR: 'it returns false'. Refute it at one input. -/
def fnExactLogicalTermsWrong : ChangeSpec := { name := "fnExactLogicalTerms", fn := fun _ => fun
  | [d] => { results := [.lit (.bool false)], args := [d] }
  | _ => none }
def FnExactLogicalTermsWrongFalsely : Prop := fnExactLogicalTermsRow.holds Try.pinned (OpenSpec.ofChange fnExactLogicalTermsWrong)

/-- 'laws.FnHoldsMore': WHATEVER THE INPUT: true; the input reads as it did. -/
def fnHoldsMoreSpec : ChangeSpec := { name := "fnHoldsMore", fn := fun _ => fun
  | [d1, d2] => { results := [.lit (.bool true)], args := [d1, d2] }
  | _ => none }
def fnHoldsMoreRow : OpenClaim := { program := "ytkiogmimolnkgaa", sum := "73f1f7d009dfefe9ea78ea834ba7c88865dc114d537e0bc1de457a72d8fe45b3", func := "loop.example/separation/laws.FnHoldsMore", spec := "fnHoldsMore", apart := false }
def FnHoldsMoreSaid : Prop := fnHoldsMoreRow.holds Try.pinned (OpenSpec.ofChange fnHoldsMoreSpec)

/-- ITS FALSE NEIGHBOUR: 'it returns false'. Refute it at one input. -/
def fnHoldsMoreWrong : ChangeSpec := { name := "fnHoldsMore", fn := fun _ => fun
  | [d1, d2] => { results := [.lit (.bool false)], args := [d1, d2] }
  | _ => none }
def FnHoldsMoreWrongFalsely : Prop := fnHoldsMoreRow.holds Try.pinned (OpenSpec.ofChange fnHoldsMoreWrong)

/-- 'laws.FnHoldsPart': WHATEVER THE INPUT: true; the input reads as it did. -/
def fnHoldsPartSpec : ChangeSpec := { name := "fnHoldsPart", fn := fun _ => fun
  | [d] => { results := [.lit (.bool true)], args := [d] }
  | _ => none }
def fnHoldsPartRow : OpenClaim := { program := "ytkiogmimolnkgaa", sum := "73f1f7d009dfefe9ea78ea834ba7c88865dc114d537e0bc1de457a72d8fe45b3", func := "loop.example/separation/laws.FnHoldsPart", spec := "fnHoldsPart", apart := false }
def FnHoldsPartSaid : Prop := fnHoldsPartRow.holds Try.pinned (OpenSpec.ofChange fnHoldsPartSpec)

/-- ITS FALSE NEIGHBOUR: 'it returns false'. Refute it at one input. -/
def fnHoldsPartWrong : ChangeSpec := { name := "fnHoldsPart", fn := fun _ => fun
  | [d] => { results := [.lit (.bool false)], args := [d] }
  | _ => none }
def FnHoldsPartWrongFalsely : Prop := fnHoldsPartRow.holds Try.pinned (OpenSpec.ofChange fnHoldsPartWrong)

/-- 'laws.FnHoldsStar': WHATEVER THE INPUT: true; the input reads as it did. -/
def fnHoldsStarSpec : ChangeSpec := { name := "fnHoldsStar", fn := fun _ => fun
  | [d1, d2] => { results := [.lit (.bool true)], args := [d1, d2] }
  | _ => none }
def fnHoldsStarRow : OpenClaim := { program := "ytkiogmimolnkgaa", sum := "73f1f7d009dfefe9ea78ea834ba7c88865dc114d537e0bc1de457a72d8fe45b3", func := "loop.example/separation/laws.FnHoldsStar", spec := "fnHoldsStar", apart := false }
def FnHoldsStarSaid : Prop := fnHoldsStarRow.holds Try.pinned (OpenSpec.ofChange fnHoldsStarSpec)

/-- ITS FALSE NEIGHBOUR: 'it returns false'. Refute it at one input. -/
def fnHoldsStarWrong : ChangeSpec := { name := "fnHoldsStar", fn := fun _ => fun
  | [d1, d2] => { results := [.lit (.bool false)], args := [d1, d2] }
  | _ => none }
def FnHoldsStarWrongFalsely : Prop := fnHoldsStarRow.holds Try.pinned (OpenSpec.ofChange fnHoldsStarWrong)

/-- 'laws.FnTidyKeep': WHATEVER THE INPUT: true; the input reads as it did. -/
def fnTidyKeepSpec : ChangeSpec := { name := "fnTidyKeep", fn := fun _ => fun
  | [d] => { results := [.lit (.bool true)], args := [d] }
  | _ => none }
def fnTidyKeepRow : OpenClaim := { program := "ytkiogmimolnkgaa", sum := "73f1f7d009dfefe9ea78ea834ba7c88865dc114d537e0bc1de457a72d8fe45b3", func := "loop.example/separation/laws.FnTidyKeep", spec := "fnTidyKeep", unfollowed := true, recurses := true, apart := false }
def FnTidyKeepSaid : Prop := fnTidyKeepRow.holds Try.pinned (OpenSpec.ofChange fnTidyKeepSpec)

/-- ITS FALSE NEIGHBOUR: 'it returns false'. Refute it at one input. -/
def fnTidyKeepWrong : ChangeSpec := { name := "fnTidyKeep", fn := fun _ => fun
  | [d] => { results := [.lit (.bool false)], args := [d] }
  | _ => none }
def FnTidyKeepWrongFalsely : Prop := fnTidyKeepRow.holds Try.pinned (OpenSpec.ofChange fnTidyKeepWrong)

/-- 'laws.FnEntailsEmpty': WHATEVER THE INPUT: true; the input reads as it did. -/
def fnEntailsEmptySpec : ChangeSpec := { name := "fnEntailsEmpty", fn := fun _ => fun
  | [d] => { results := [.lit (.bool true)], args := [d] }
  | _ => none }
def fnEntailsEmptyRow : OpenClaim := { program := "ytkiogmimolnkgaa", sum := "73f1f7d009dfefe9ea78ea834ba7c88865dc114d537e0bc1de457a72d8fe45b3", func := "loop.example/separation/laws.FnEntailsEmpty", spec := "fnEntailsEmpty", unfollowed := true, recurses := true, apart := false }
def FnEntailsEmptySaid : Prop := fnEntailsEmptyRow.holds Try.pinned (OpenSpec.ofChange fnEntailsEmptySpec)

/-- ITS FALSE NEIGHBOUR: 'it returns false'. Refute it at one input. -/
def fnEntailsEmptyWrong : ChangeSpec := { name := "fnEntailsEmpty", fn := fun _ => fun
  | [d] => { results := [.lit (.bool false)], args := [d] }
  | _ => none }
def FnEntailsEmptyWrongFalsely : Prop := fnEntailsEmptyRow.holds Try.pinned (OpenSpec.ofChange fnEntailsEmptyWrong)

/-- 'laws.FnFailingCase': WHATEVER THE INPUT: true; the input reads as it did. -/
def fnFailingCaseSpec : ChangeSpec := { name := "fnFailingCase", fn := fun _ => fun
  | [d] => { results := [.lit (.bool true)], args := [d] }
  | _ => none }
def fnFailingCaseRow : OpenClaim := { program := "ytkiogmimolnkgaa", sum := "73f1f7d009dfefe9ea78ea834ba7c88865dc114d537e0bc1de457a72d8fe45b3", func := "loop.example/separation/laws.FnFailingCase", spec := "fnFailingCase", unfollowed := true, recurses := true, apart := false }
def FnFailingCaseSaid : Prop := fnFailingCaseRow.holds Try.pinned (OpenSpec.ofChange fnFailingCaseSpec)

/-- ITS FALSE NEIGHBOUR: 'it returns false'. Refute it at one input. -/
def fnFailingCaseWrong : ChangeSpec := { name := "fnFailingCase", fn := fun _ => fun
  | [d] => { results := [.lit (.bool false)], args := [d] }
  | _ => none }
def FnFailingCaseWrongFalsely : Prop := fnFailingCaseRow.holds Try.pinned (OpenSpec.ofChange fnFailingCaseWrong)

/-- 'laws.FnLogicalTerms': WHATEVER THE INPUT: true; the input reads as it did. -/
def fnLogicalTermsSpec : ChangeSpec := { name := "fnLogicalTerms", fn := fun _ => fun
  | [d] => { results := [.lit (.bool true)], args := [d] }
  | _ => none }
def fnLogicalTermsRow : OpenClaim := { program := "ytkiogmimolnkgaa", sum := "73f1f7d009dfefe9ea78ea834ba7c88865dc114d537e0bc1de457a72d8fe45b3", func := "loop.example/separation/laws.FnLogicalTerms", spec := "fnLogicalTerms", unfollowed := true, recurses := true, apart := false }
def FnLogicalTermsSaid : Prop := fnLogicalTermsRow.holds Try.pinned (OpenSpec.ofChange fnLogicalTermsSpec)

/-- ITS FALSE NEIGHBOUR: 'it returns false'. Refute it at one input. -/
def fnLogicalTermsWrong : ChangeSpec := { name := "fnLogicalTerms", fn := fun _ => fun
  | [d] => { results := [.lit (.bool false)], args := [d] }
  | _ => none }
def FnLogicalTermsWrongFalsely : Prop := fnLogicalTermsRow.holds Try.pinned (OpenSpec.ofChange fnLogicalTermsWrong)

/- THE SECOND FORM. 'bulk': how many values and letters a reading holds, each counted each time it is reached (what is shared counts as often as it is met; a slice's spare places count too). A statement '..UptoSaid' is the law's where the arguments, and the package variables that the reading takes, are together of bulk at most 1048576: NARROWER than '..Said'. Prove '..Said' where nothing that the law and all that it calls make is longer than what came in: it says more and counts as full. Else prove '..UptoSaid'. A law counts once. -/
mutual
def uptoBulk {H : Type} : DataW H → Nat
  | .lit (.string bytes) => bytes.length + 1
  | .lit _ => 1
  | .nil => 1
  | .ptr d => uptoBulk d + 1
  | .slice elems spare => uptoBulkAll elems + uptoBulkAll spare + 1
  | .agg parts => uptoBulkAll parts + 1
  | .iface _ d => uptoBulk d + 1
  | .map entries => uptoBulkEntries entries + 1
  | .held _ => 1
def uptoBulkAll {H : Type} : List (DataW H) → Nat
  | [] => 0
  | d :: r => uptoBulk d + uptoBulkAll r
def uptoBulkEntries {H : Type} : List (Lit × DataW H) → Nat
  | [] => 0
  | x :: r => uptoBulkEntry x + uptoBulkEntries r
def uptoBulkEntry {H : Type} : Lit × DataW H → Nat
  | (.string bytes, d) => bytes.length + uptoBulk d + 1
  | (_, d) => uptoBulk d + 1
 end
def uptoSmall : (H : Type) → List (DataW H) → Bool := fun _ ds => decide (uptoBulkAll ds ≤ 1048576)
def OpenSpec.upto (s : _root_.Go.ChangeSpec) : _root_.Go.OpenSpec := { _root_.Go.OpenSpec.ofChange s with cond := some uptoSmall }

/-- 'laws.FnExactFailingCase', WHERE WHAT IT READS IS OF BULK AT MOST 1048576: true; the input reads as it did. -/
def fnExactFailingCaseUptoRow : OpenClaim := { program := "ytkiogmimolnkgaa", sum := "73f1f7d009dfefe9ea78ea834ba7c88865dc114d537e0bc1de457a72d8fe45b3", func := "loop.example/separation/laws.FnExactFailingCase", spec := "fnExactFailingCase", unfollowed := true, recurses := true, apart := false, narrowed := true }
def FnExactFailingCaseUptoSaid : Prop := fnExactFailingCaseUptoRow.holds Try.pinned (OpenSpec.upto fnExactFailingCaseSpec)

/-- 'laws.FnExactFrameContract', WHERE WHAT IT READS IS OF BULK AT MOST 1048576: true; the input reads as it did. -/
def fnExactFrameContractUptoRow : OpenClaim := { program := "ytkiogmimolnkgaa", sum := "73f1f7d009dfefe9ea78ea834ba7c88865dc114d537e0bc1de457a72d8fe45b3", func := "loop.example/separation/laws.FnExactFrameContract", spec := "fnExactFrameContract", apart := false, narrowed := true }
def FnExactFrameContractUptoSaid : Prop := fnExactFrameContractUptoRow.holds Try.pinned (OpenSpec.upto fnExactFrameContractSpec)

/-- 'laws.FnExactRefines', WHERE WHAT IT READS IS OF BULK AT MOST 1048576: true; the input reads as it did. -/
def fnExactRefinesUptoRow : OpenClaim := { program := "ytkiogmimolnkgaa", sum := "73f1f7d009dfefe9ea78ea834ba7c88865dc114d537e0bc1de457a72d8fe45b3", func := "loop.example/separation/laws.FnExactRefines", spec := "fnExactRefines", unfollowed := true, recurses := true, apart := false, narrowed := true }
def FnExactRefinesUptoSaid : Prop := fnExactRefinesUptoRow.holds Try.pinned (OpenSpec.upto fnExactRefinesSpec)

/-- 'laws.FnExactChangedTerms', WHERE WHAT IT READS IS OF BULK AT MOST 1048576: true; the input reads as it did. -/
def fnExactChangedTermsUptoRow : OpenClaim := { program := "ytkiogmimolnkgaa", sum := "73f1f7d009dfefe9ea78ea834ba7c88865dc114d537e0bc1de457a72d8fe45b3", func := "loop.example/separation/laws.FnExactChangedTerms", spec := "fnExactChangedTerms", unfollowed := true, recurses := true, loops := true, apart := false, narrowed := true }
def FnExactChangedTermsUptoSaid : Prop := fnExactChangedTermsUptoRow.holds Try.pinned (OpenSpec.upto fnExactChangedTermsSpec)

/-- 'laws.FnExactLogicalTerms', WHERE WHAT IT READS IS OF BULK AT MOST 1048576: true; the input reads as it did. -/
def fnExactLogicalTermsUptoRow : OpenClaim := { program := "ytkiogmimolnkgaa", sum := "73f1f7d009dfefe9ea78ea834ba7c88865dc114d537e0bc1de457a72d8fe45b3", func := "loop.example/separation/laws.FnExactLogicalTerms", spec := "fnExactLogicalTerms", unfollowed := true, recurses := true, loops := true, apart := false, narrowed := true }
def FnExactLogicalTermsUptoSaid : Prop := fnExactLogicalTermsUptoRow.holds Try.pinned (OpenSpec.upto fnExactLogicalTermsSpec)

/-- 'laws.FnHoldsMore', WHERE WHAT IT READS IS OF BULK AT MOST 1048576: true; the input reads as it did. -/
def fnHoldsMoreUptoRow : OpenClaim := { program := "ytkiogmimolnkgaa", sum := "73f1f7d009dfefe9ea78ea834ba7c88865dc114d537e0bc1de457a72d8fe45b3", func := "loop.example/separation/laws.FnHoldsMore", spec := "fnHoldsMore", apart := false, narrowed := true }
def FnHoldsMoreUptoSaid : Prop := fnHoldsMoreUptoRow.holds Try.pinned (OpenSpec.upto fnHoldsMoreSpec)

/-- 'laws.FnHoldsPart', WHERE WHAT IT READS IS OF BULK AT MOST 1048576: true; the input reads as it did. -/
def fnHoldsPartUptoRow : OpenClaim := { program := "ytkiogmimolnkgaa", sum := "73f1f7d009dfefe9ea78ea834ba7c88865dc114d537e0bc1de457a72d8fe45b3", func := "loop.example/separation/laws.FnHoldsPart", spec := "fnHoldsPart", apart := false, narrowed := true }
def FnHoldsPartUptoSaid : Prop := fnHoldsPartUptoRow.holds Try.pinned (OpenSpec.upto fnHoldsPartSpec)

/-- 'laws.FnHoldsStar', WHERE WHAT IT READS IS OF BULK AT MOST 1048576: true; the input reads as it did. -/
def fnHoldsStarUptoRow : OpenClaim := { program := "ytkiogmimolnkgaa", sum := "73f1f7d009dfefe9ea78ea834ba7c88865dc114d537e0bc1de457a72d8fe45b3", func := "loop.example/separation/laws.FnHoldsStar", spec := "fnHoldsStar", apart := false, narrowed := true }
def FnHoldsStarUptoSaid : Prop := fnHoldsStarUptoRow.holds Try.pinned (OpenSpec.upto fnHoldsStarSpec)

/-- 'laws.FnTidyKeep', WHERE WHAT IT READS IS OF BULK AT MOST 1048576: true; the input reads as it did. -/
def fnTidyKeepUptoRow : OpenClaim := { program := "ytkiogmimolnkgaa", sum := "73f1f7d009dfefe9ea78ea834ba7c88865dc114d537e0bc1de457a72d8fe45b3", func := "loop.example/separation/laws.FnTidyKeep", spec := "fnTidyKeep", unfollowed := true, recurses := true, apart := false, narrowed := true }
def FnTidyKeepUptoSaid : Prop := fnTidyKeepUptoRow.holds Try.pinned (OpenSpec.upto fnTidyKeepSpec)

/-- 'laws.FnEntailsEmpty', WHERE WHAT IT READS IS OF BULK AT MOST 1048576: true; the input reads as it did. -/
def fnEntailsEmptyUptoRow : OpenClaim := { program := "ytkiogmimolnkgaa", sum := "73f1f7d009dfefe9ea78ea834ba7c88865dc114d537e0bc1de457a72d8fe45b3", func := "loop.example/separation/laws.FnEntailsEmpty", spec := "fnEntailsEmpty", unfollowed := true, recurses := true, apart := false, narrowed := true }
def FnEntailsEmptyUptoSaid : Prop := fnEntailsEmptyUptoRow.holds Try.pinned (OpenSpec.upto fnEntailsEmptySpec)

/-- 'laws.FnFailingCase', WHERE WHAT IT READS IS OF BULK AT MOST 1048576: true; the input reads as it did. -/
def fnFailingCaseUptoRow : OpenClaim := { program := "ytkiogmimolnkgaa", sum := "73f1f7d009dfefe9ea78ea834ba7c88865dc114d537e0bc1de457a72d8fe45b3", func := "loop.example/separation/laws.FnFailingCase", spec := "fnFailingCase", unfollowed := true, recurses := true, apart := false, narrowed := true }
def FnFailingCaseUptoSaid : Prop := fnFailingCaseUptoRow.holds Try.pinned (OpenSpec.upto fnFailingCaseSpec)

/-- 'laws.FnLogicalTerms', WHERE WHAT IT READS IS OF BULK AT MOST 1048576: true; the input reads as it did. -/
def fnLogicalTermsUptoRow : OpenClaim := { program := "ytkiogmimolnkgaa", sum := "73f1f7d009dfefe9ea78ea834ba7c88865dc114d537e0bc1de457a72d8fe45b3", func := "loop.example/separation/laws.FnLogicalTerms", spec := "fnLogicalTerms", unfollowed := true, recurses := true, apart := false, narrowed := true }
def FnLogicalTermsUptoSaid : Prop := fnLogicalTermsUptoRow.holds Try.pinned (OpenSpec.upto fnLogicalTermsSpec)

end Rows
end Go.Proofs.Ytkiogmimolnkgaa
