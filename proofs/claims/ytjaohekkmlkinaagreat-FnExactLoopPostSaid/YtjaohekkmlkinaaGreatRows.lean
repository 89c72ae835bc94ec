/-
  NARROWER THAN 'FOR EVERY INPUT', by the rows' own cells (each row's printed sentence says how): FnExactLoopPost: loops.
  DERIVED. THE GIVEN ROWS OF THIS SEAT. 6 by the template 'for every input the law returns true; each argument reads behind the call as it read before'; 0 by the template 'total and deterministic' (their statements: YtjaohekkmlkinaaGreatTotals.lean).
  GIVEN WITH THE SEED: the statements are not yours to turn. If you find one false, say at which input.
  Laid BY PROGRAM, IN A SANDBOX (cutbox-rows.mjs): the forced cells as the released guide's own fill.sh prints them over the translation ccea630908e20394… (all of the seat's roots in one cut). By AI agents, Wed Nov 11 2026. No macro, syntax, notation, axiom, sorry.
-/
import Derived.Test.YtjaohekkmlkinaaGreatChecked
import GoSem.Claim
import GoSem.ClaimJoined
import GoSem.ClaimMapViews
import Derived.JoinedTies
import Derived.KernelRfl
namespace Go.Proofs.YtjaohekkmlkinaaGreat
/- THE CELL 'sum', in the pinned program and in every row, IS THE sha256 OF THE DUMP (.gsa) THAT YtjaohekkmlkinaaGreatProg.lean LOADS. Nothing in Lean hashes anything: it is a label: what it is worth is what the hold of that sum in a sandbox is worth. -/
noncomputable def Tryz.pinned : Pinned := { name := "ytjaohekkmlkinaagreat", sum := "ccea630908e20394bb2a44085e75580b2f806a803b19f1fecba0cefaadedb7b1", checked := Tryz.checked }
namespace Rows
def none {H : Type} : Left H := { results := [], args := [] }

/-- 'laws.FnExactLoopPost': WHATEVER THE INPUT: true; the input reads as it did. -/
def fnExactLoopPostSpec : ChangeSpec := { name := "fnExactLoopPost", fn := fun _ => fun
  | [d1, d2, d3] => { results := [.lit (.bool true)], args := [d1, d2, d3] }
  | _ => none }
def fnExactLoopPostRow : OpenClaim := { program := "ytjaohekkmlkinaagreat", sum := "ccea630908e20394bb2a44085e75580b2f806a803b19f1fecba0cefaadedb7b1", func := "loop.example/separation/laws.FnExactLoopPost", spec := "fnExactLoopPost", unfollowed := true, recurses := true, loops := true, apart := false }
def FnExactLoopPostSaid : Prop := fnExactLoopPostRow.holds Tryz.pinned (OpenSpec.ofChange fnExactLoopPostSpec)

/-- ITS FALSE NEIGHBOUR: 'it returns false'. Refute it at one input. -/
def fnExactLoopPostWrong : ChangeSpec := { name := "fnExactLoopPost", fn := fun _ => fun
  | [d1, d2, d3] => { results := [.lit (.bool false)], args := [d1, d2, d3] }
  | _ => none }
def FnExactLoopPostWrongFalsely : Prop := fnExactLoopPostRow.holds Tryz.pinned (OpenSpec.ofChange fnExactLoopPostWrong)

/-- 'laws.FnVerifyEmpty': WHATEVER THE INPUT: true; the input reads as it did. -/
def fnVerifyEmptySpec : ChangeSpec := { name := "fnVerifyEmpty", fn := fun _ => fun
  | [d] => { results := [.lit (.bool true)], args := [d] }
  | _ => none }
def fnVerifyEmptyRow : OpenClaim := { program := "ytjaohekkmlkinaagreat", sum := "ccea630908e20394bb2a44085e75580b2f806a803b19f1fecba0cefaadedb7b1", func := "loop.example/separation/laws.FnVerifyEmpty", spec := "fnVerifyEmpty", unfollowed := true, recurses := true, apart := false }
def FnVerifyEmptySaid : Prop := fnVerifyEmptyRow.holds Tryz.pinned (OpenSpec.ofChange fnVerifyEmptySpec)

/-- ITS FALSE NEIGHBOUR: 'it returns false'. Refute it at one input. -/
def fnVerifyEmptyWrong : ChangeSpec := { name := "fnVerifyEmpty", fn := fun _ => fun
  | [d] => { results := [.lit (.bool false)], args := [d] }
  | _ => none }
def FnVerifyEmptyWrongFalsely : Prop := fnVerifyEmptyRow.holds Tryz.pinned (OpenSpec.ofChange fnVerifyEmptyWrong)

/-- 'laws.FnTryTriple': WHATEVER THE INPUT: true; the input reads as it did. -/
def fnTryTripleSpec : ChangeSpec := { name := "fnTryTriple", fn := fun _ => fun
  | [d] => { results := [.lit (.bool true)], args := [d] }
  | _ => none }
def fnTryTripleRow : OpenClaim := { program := "ytjaohekkmlkinaagreat", sum := "ccea630908e20394bb2a44085e75580b2f806a803b19f1fecba0cefaadedb7b1", func := "loop.example/separation/laws.FnTryTriple", spec := "fnTryTriple", recurses := true, apart := false }
def FnTryTripleSaid : Prop := fnTryTripleRow.holds Tryz.pinned (OpenSpec.ofChange fnTryTripleSpec)

/-- ITS FALSE NEIGHBOUR: 'it returns false'. Refute it at one input. -/
def fnTryTripleWrong : ChangeSpec := { name := "fnTryTriple", fn := fun _ => fun
  | [d] => { results := [.lit (.bool false)], args := [d] }
  | _ => none }
def FnTryTripleWrongFalsely : Prop := fnTryTripleRow.holds Tryz.pinned (OpenSpec.ofChange fnTryTripleWrong)

/-- 'laws.FnRefines': WHATEVER THE INPUT: true; the input reads as it did. -/
def fnRefinesSpec : ChangeSpec := { name := "fnRefines", fn := fun _ => fun
  | [d1, d2] => { results := [.lit (.bool true)], args := [d1, d2] }
  | _ => none }
def fnRefinesRow : OpenClaim := { program := "ytjaohekkmlkinaagreat", sum := "ccea630908e20394bb2a44085e75580b2f806a803b19f1fecba0cefaadedb7b1", func := "loop.example/separation/laws.FnRefines", spec := "fnRefines", unfollowed := true, recurses := true, apart := false }
def FnRefinesSaid : Prop := fnRefinesRow.holds Tryz.pinned (OpenSpec.ofChange fnRefinesSpec)

/-- ITS FALSE NEIGHBOUR: 'it returns false'. Refute it at one input. -/
def fnRefinesWrong : ChangeSpec := { name := "fnRefines", fn := fun _ => fun
  | [d1, d2] => { results := [.lit (.bool false)], args := [d1, d2] }
  | _ => none }
def FnRefinesWrongFalsely : Prop := fnRefinesRow.holds Tryz.pinned (OpenSpec.ofChange fnRefinesWrong)

/-- 'laws.FnFrameContract': WHATEVER THE INPUT: true; the input reads as it did. -/
def fnFrameContractSpec : ChangeSpec := { name := "fnFrameContract", fn := fun _ => fun
  | [d] => { results := [.lit (.bool true)], args := [d] }
  | _ => none }
def fnFrameContractRow : OpenClaim := { program := "ytjaohekkmlkinaagreat", sum := "ccea630908e20394bb2a44085e75580b2f806a803b19f1fecba0cefaadedb7b1", func := "loop.example/separation/laws.FnFrameContract", spec := "fnFrameContract", unfollowed := true, recurses := true, apart := false }
def FnFrameContractSaid : Prop := fnFrameContractRow.holds Tryz.pinned (OpenSpec.ofChange fnFrameContractSpec)

/-- ITS FALSE NEIGHBOUR: 'it returns false'. Refute it at one input. -/
def fnFrameContractWrong : ChangeSpec := { name := "fnFrameContract", fn := fun _ => fun
  | [d] => { results := [.lit (.bool false)], args := [d] }
  | _ => none }
def FnFrameContractWrongFalsely : Prop := fnFrameContractRow.holds Tryz.pinned (OpenSpec.ofChange fnFrameContractWrong)

/-- 'laws.FnSymSequence': WHATEVER THE INPUT: true; the input reads as it did. -/
def fnSymSequenceSpec : ChangeSpec := { name := "fnSymSequence", fn := fun _ => fun
  | [d] => { results := [.lit (.bool true)], args := [d] }
  | _ => none }
def fnSymSequenceRow : OpenClaim := { program := "ytjaohekkmlkinaagreat", sum := "ccea630908e20394bb2a44085e75580b2f806a803b19f1fecba0cefaadedb7b1", func := "loop.example/separation/laws.FnSymSequence", spec := "fnSymSequence", unfollowed := true, recurses := true, apart := false }
def FnSymSequenceSaid : Prop := fnSymSequenceRow.holds Tryz.pinned (OpenSpec.ofChange fnSymSequenceSpec)

/-- ITS FALSE NEIGHBOUR: 'it returns false'. Refute it at one input. -/
def fnSymSequenceWrong : ChangeSpec := { name := "fnSymSequence", fn := fun _ => fun
  | [d] => { results := [.lit (.bool false)], args := [d] }
  | _ => none }
def FnSymSequenceWrongFalsely : Prop := fnSymSequenceRow.holds Tryz.pinned (OpenSpec.ofChange fnSymSequenceWrong)

/- THE SECOND FORM. 'bulk': how many values and letters a reading holds, each counted each time it is reached (what is shared counts as often as it is met; a slice's spare places count too). A statement '..UptoSaid' is the law's where the arguments, and the package variables that the reading takes, are together of bulk at most 1048576: NARROWER than '..Said'. Prove '..Said' where nothing that the law and all that it calls make is longer than what came in: it says more and counts as full. Else prove '..UptoSaid'. A law counts once. -/
mutual
def uptoBulk {H : Type} : DataW H → Nat
  | .lit (.string bytes) => bytes.length + 1
  | .lit _ => 1
  | .nil => 1
  | .ptr d => uptoBulk d + 1
  | .slice elems spare => uptoBulkAll elems + uptoBulkAll spare + 1
  | .agg parts => uptoBulkAll parts + 1
  | .iface _ d => uptoBulk d + 1
  | .map entries => uptoBulkEntries entries + 1
  | .held _ => 1
def uptoBulkAll {H : Type} : List (DataW H) → Nat
  | [] => 0
  | d :: r => uptoBulk d + uptoBulkAll r
def uptoBulkEntries {H : Type} : List (Lit × DataW H) → Nat
  | [] => 0
  | x :: r => uptoBulkEntry x + uptoBulkEntries r
def uptoBulkEntry {H : Type} : Lit × DataW H → Nat
  | (.string bytes, d) => bytes.length + uptoBulk d + 1
  | (_, d) => uptoBulk d + 1
 end
def uptoSmall : (H : Type) → List (DataW H) → Bool := fun _ ds => decide (uptoBulkAll ds ≤ 1048576)
def OpenSpec.upto (s : _root_.Go.ChangeSpec) : _root_.Go.OpenSpec := { _root_.Go.OpenSpec.ofChange s with cond := some uptoSmall }

/-- 'laws.FnExactLoopPost', WHERE WHAT IT READS IS OF BULK AT MOST 1048576: true; the input reads as it did. -/
def fnExactLoopPostUptoRow : OpenClaim := { program := "ytjaohekkmlkinaagreat", sum := "ccea630908e20394bb2a44085e75580b2f806a803b19f1fecba0cefaadedb7b1", func := "loop.example/separation/laws.FnExactLoopPost", spec := "fnExactLoopPost", unfollowed := true, recurses := true, loops := true, apart := false, narrowed := true }
def FnExactLoopPostUptoSaid : Prop := fnExactLoopPostUptoRow.holds Tryz.pinned (OpenSpec.upto fnExactLoopPostSpec)

/-- 'laws.FnVerifyEmpty', WHERE WHAT IT READS IS OF BULK AT MOST 1048576: true; the input reads as it did. -/
def fnVerifyEmptyUptoRow : OpenClaim := { program := "ytjaohekkmlkinaagreat", sum := "ccea630908e20394bb2a44085e75580b2f806a803b19f1fecba0cefaadedb7b1", func := "loop.example/separation/laws.FnVerifyEmpty", spec := "fnVerifyEmpty", unfollowed := true, recurses := true, apart := false, narrowed := true }
def FnVerifyEmptyUptoSaid : Prop := fnVerifyEmptyUptoRow.holds Tryz.pinned (OpenSpec.upto fnVerifyEmptySpec)

/-- 'laws.FnTryTriple', WHERE WHAT IT READS IS OF BULK AT MOST 1048576: true; the input reads as it did. -/
def fnTryTripleUptoRow : OpenClaim := { program := "ytjaohekkmlkinaagreat", sum := "ccea630908e20394bb2a44085e75580b2f806a803b19f1fecba0cefaadedb7b1", func := "loop.example/separation/laws.FnTryTriple", spec := "fnTryTriple", recurses := true, apart := false, narrowed := true }
def FnTryTripleUptoSaid : Prop := fnTryTripleUptoRow.holds Tryz.pinned (OpenSpec.upto fnTryTripleSpec)

/-- 'laws.FnRefines', WHERE WHAT IT READS IS OF BULK AT MOST 1048576: true; the input reads as it did. -/
def fnRefinesUptoRow : OpenClaim := { program := "ytjaohekkmlkinaagreat", sum := "ccea630908e20394bb2a44085e75580b2f806a803b19f1fecba0cefaadedb7b1", func := "loop.example/separation/laws.FnRefines", spec := "fnRefines", unfollowed := true, recurses := true, apart := false, narrowed := true }
def FnRefinesUptoSaid : Prop := fnRefinesUptoRow.holds Tryz.pinned (OpenSpec.upto fnRefinesSpec)

/-- 'laws.FnFrameContract', WHERE WHAT IT READS IS OF BULK AT MOST 1048576: true; the input reads as it did. -/
def fnFrameContractUptoRow : OpenClaim := { program := "ytjaohekkmlkinaagreat", sum := "ccea630908e20394bb2a44085e75580b2f806a803b19f1fecba0cefaadedb7b1", func := "loop.example/separation/laws.FnFrameContract", spec := "fnFrameContract", unfollowed := true, recurses := true, apart := false, narrowed := true }
def FnFrameContractUptoSaid : Prop := fnFrameContractUptoRow.holds Tryz.pinned (OpenSpec.upto fnFrameContractSpec)

/-- 'laws.FnSymSequence', WHERE WHAT IT READS IS OF BULK AT MOST 1048576: true; the input reads as it did. -/
def fnSymSequenceUptoRow : OpenClaim := { program := "ytjaohekkmlkinaagreat", sum := "ccea630908e20394bb2a44085e75580b2f806a803b19f1fecba0cefaadedb7b1", func := "loop.example/separation/laws.FnSymSequence", spec := "fnSymSequence", unfollowed := true, recurses := true, apart := false, narrowed := true }
def FnSymSequenceUptoSaid : Prop := fnSymSequenceUptoRow.holds Tryz.pinned (OpenSpec.upto fnSymSequenceSpec)

end Rows
end Go.Proofs.YtjaohekkmlkinaaGreat
