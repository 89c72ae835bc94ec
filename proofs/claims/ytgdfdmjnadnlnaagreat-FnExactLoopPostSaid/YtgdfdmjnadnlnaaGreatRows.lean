/-
  NARROWER THAN 'FOR EVERY INPUT', by the rows' own cells (each row's printed sentence says how): FnExactStrongestPosts: loops · FnExactVerifyProgram: loops · FnExactSymProgram: loops · FnExactLoopPost: loops.
  DERIVED. THE GIVEN ROWS OF THIS SEAT. 8 by the template 'for every input the law returns true; each argument reads behind the call as it read before'; 0 by the template 'total and deterministic' (their statements: YtgdfdmjnadnlnaaGreatTotals.lean).
  GIVEN WITH THE SEED: the statements are not yours to turn. If you find one false, say at which input.
  Laid BY PROGRAM, IN A SANDBOX (cutbox-rows.mjs): the forced cells as the released guide's own fill.sh prints them over the translation 5e08d694a91134d2… (all of the seat's roots in one cut). By AI agents, Wed Nov 11 2026. No macro, syntax, notation, axiom, sorry.
-/
import Derived.Test.YtgdfdmjnadnlnaaGreatChecked
import GoSem.Claim
import GoSem.ClaimJoined
import GoSem.ClaimMapViews
import Derived.JoinedTies
import Derived.KernelRfl
namespace Go.Proofs.YtgdfdmjnadnlnaaGreat
/- THE CELL 'sum', in the pinned program and in every row, IS THE sha256 OF THE DUMP (.gsa) THAT YtgdfdmjnadnlnaaGreatProg.lean LOADS. Nothing in Lean hashes anything: it is a label: what it is worth is what the hold of that sum in a sandbox is worth. -/
noncomputable def Tryz.pinned : Pinned := { name := "ytgdfdmjnadnlnaagreat", sum := "5e08d694a91134d2031f31c82049f1a288fe9c0f064291dd1195b773c29aab4c", checked := Tryz.checked }
namespace Rows
def none {H : Type} : Left H := { results := [], args := [] }

/-- 'laws.FnExactStrongestPosts': WHATEVER THE INPUT: true; the input reads as it did. -/
def fnExactStrongestPostsSpec : ChangeSpec := { name := "fnExactStrongestPosts", fn := fun _ => fun
  | [d1, d2, d3] => { results := [.lit (.bool true)], args := [d1, d2, d3] }
  | _ => none }
def fnExactStrongestPostsRow : OpenClaim := { program := "ytgdfdmjnadnlnaagreat", sum := "5e08d694a91134d2031f31c82049f1a288fe9c0f064291dd1195b773c29aab4c", func := "loop.example/separation/laws.FnExactStrongestPosts", spec := "fnExactStrongestPosts", unfollowed := true, recurses := true, loops := true, apart := false }
def FnExactStrongestPostsSaid : Prop := fnExactStrongestPostsRow.holds Tryz.pinned (OpenSpec.ofChange fnExactStrongestPostsSpec)

/-- ITS FALSE NEIGHBOUR: 'it returns false'. Refute it at one input. -/
def fnExactStrongestPostsWrong : ChangeSpec := { name := "fnExactStrongestPosts", fn := fun _ => fun
  | [d1, d2, d3] => { results := [.lit (.bool false)], args := [d1, d2, d3] }
  | _ => none }
def FnExactStrongestPostsWrongFalsely : Prop := fnExactStrongestPostsRow.holds Tryz.pinned (OpenSpec.ofChange fnExactStrongestPostsWrong)

/-- 'laws.FnExactVerifyProgram': WHATEVER THE INPUT: true; the input reads as it did. -/
def fnExactVerifyProgramSpec : ChangeSpec := { name := "fnExactVerifyProgram", fn := fun _ => fun
  | [d1, d2, d3] => { results := [.lit (.bool true)], args := [d1, d2, d3] }
  | _ => none }
def fnExactVerifyProgramRow : OpenClaim := { program := "ytgdfdmjnadnlnaagreat", sum := "5e08d694a91134d2031f31c82049f1a288fe9c0f064291dd1195b773c29aab4c", func := "loop.example/separation/laws.FnExactVerifyProgram", spec := "fnExactVerifyProgram", unfollowed := true, recurses := true, loops := true, apart := false }
def FnExactVerifyProgramSaid : Prop := fnExactVerifyProgramRow.holds Tryz.pinned (OpenSpec.ofChange fnExactVerifyProgramSpec)

/-- ITS FALSE NEIGHBOUR: 'it returns false'. Refute it at one input. -/
def fnExactVerifyProgramWrong : ChangeSpec := { name := "fnExactVerifyProgram", fn := fun _ => fun
  | [d1, d2, d3] => { results := [.lit (.bool false)], args := [d1, d2, d3] }
  | _ => none }
def FnExactVerifyProgramWrongFalsely : Prop := fnExactVerifyProgramRow.holds Tryz.pinned (OpenSpec.ofChange fnExactVerifyProgramWrong)

/-- 'laws.FnExactSymProgram': WHATEVER THE INPUT: true; the input reads as it did. -/
def fnExactSymProgramSpec : ChangeSpec := { name := "fnExactSymProgram", fn := fun _ => fun
  | [d1, d2, d3] => { results := [.lit (.bool true)], args := [d1, d2, d3] }
  | _ => none }
def fnExactSymProgramRow : OpenClaim := { program := "ytgdfdmjnadnlnaagreat", sum := "5e08d694a91134d2031f31c82049f1a288fe9c0f064291dd1195b773c29aab4c", func := "loop.example/separation/laws.FnExactSymProgram", spec := "fnExactSymProgram", unfollowed := true, recurses := true, loops := true, apart := false }
def FnExactSymProgramSaid : Prop := fnExactSymProgramRow.holds Tryz.pinned (OpenSpec.ofChange fnExactSymProgramSpec)

/-- ITS FALSE NEIGHBOUR: 'it returns false'. Refute it at one input. -/
def fnExactSymProgramWrong : ChangeSpec := { name := "fnExactSymProgram", fn := fun _ => fun
  | [d1, d2, d3] => { results := [.lit (.bool false)], args := [d1, d2, d3] }
  | _ => none }
def FnExactSymProgramWrongFalsely : Prop := fnExactSymProgramRow.holds Tryz.pinned (OpenSpec.ofChange fnExactSymProgramWrong)

/-- 'laws.FnExactLoopPost': WHATEVER THE INPUT: true; the input reads as it did. -/
def fnExactLoopPostSpec : ChangeSpec := { name := "fnExactLoopPost", fn := fun _ => fun
  | [d1, d2, d3] => { results := [.lit (.bool true)], args := [d1, d2, d3] }
  | _ => none }
def fnExactLoopPostRow : OpenClaim := { program := "ytgdfdmjnadnlnaagreat", sum := "5e08d694a91134d2031f31c82049f1a288fe9c0f064291dd1195b773c29aab4c", func := "loop.example/separation/laws.FnExactLoopPost", spec := "fnExactLoopPost", unfollowed := true, recurses := true, loops := true, apart := false }
def FnExactLoopPostSaid : Prop := fnExactLoopPostRow.holds Tryz.pinned (OpenSpec.ofChange fnExactLoopPostSpec)

/-- ITS FALSE NEIGHBOUR: 'it returns false'. Refute it at one input. -/
def fnExactLoopPostWrong : ChangeSpec := { name := "fnExactLoopPost", fn := fun _ => fun
  | [d1, d2, d3] => { results := [.lit (.bool false)], args := [d1, d2, d3] }
  | _ => none }
def FnExactLoopPostWrongFalsely : Prop := fnExactLoopPostRow.holds Tryz.pinned (OpenSpec.ofChange fnExactLoopPostWrong)

/-- 'laws.FnSymFrame': WHATEVER THE INPUT: true; the input reads as it did. -/
def fnSymFrameSpec : ChangeSpec := { name := "fnSymFrame", fn := fun _ => fun
  | [d] => { results := [.lit (.bool true)], args := [d] }
  | _ => none }
def fnSymFrameRow : OpenClaim := { program := "ytgdfdmjnadnlnaagreat", sum := "5e08d694a91134d2031f31c82049f1a288fe9c0f064291dd1195b773c29aab4c", func := "loop.example/separation/laws.FnSymFrame", spec := "fnSymFrame", unfollowed := true, recurses := true, apart := false }
def FnSymFrameSaid : Prop := fnSymFrameRow.holds Tryz.pinned (OpenSpec.ofChange fnSymFrameSpec)

/-- ITS FALSE NEIGHBOUR: 'it returns false'. Refute it at one input. -/
def fnSymFrameWrong : ChangeSpec := { name := "fnSymFrame", fn := fun _ => fun
  | [d] => { results := [.lit (.bool false)], args := [d] }
  | _ => none }
def FnSymFrameWrongFalsely : Prop := fnSymFrameRow.holds Tryz.pinned (OpenSpec.ofChange fnSymFrameWrong)

/-- 'laws.FnSymProgram': WHATEVER THE INPUT: true; the input reads as it did. -/
def fnSymProgramSpec : ChangeSpec := { name := "fnSymProgram", fn := fun _ => fun
  | [d] => { results := [.lit (.bool true)], args := [d] }
  | _ => none }
def fnSymProgramRow : OpenClaim := { program := "ytgdfdmjnadnlnaagreat", sum := "5e08d694a91134d2031f31c82049f1a288fe9c0f064291dd1195b773c29aab4c", func := "loop.example/separation/laws.FnSymProgram", spec := "fnSymProgram", unfollowed := true, recurses := true, apart := false }
def FnSymProgramSaid : Prop := fnSymProgramRow.holds Tryz.pinned (OpenSpec.ofChange fnSymProgramSpec)

/-- ITS FALSE NEIGHBOUR: 'it returns false'. Refute it at one input. -/
def fnSymProgramWrong : ChangeSpec := { name := "fnSymProgram", fn := fun _ => fun
  | [d] => { results := [.lit (.bool false)], args := [d] }
  | _ => none }
def FnSymProgramWrongFalsely : Prop := fnSymProgramRow.holds Tryz.pinned (OpenSpec.ofChange fnSymProgramWrong)

/-- 'laws.FnSymSequence': WHATEVER THE INPUT: true; the input reads as it did. -/
def fnSymSequenceSpec : ChangeSpec := { name := "fnSymSequence", fn := fun _ => fun
  | [d] => { results := [.lit (.bool true)], args := [d] }
  | _ => none }
def fnSymSequenceRow : OpenClaim := { program := "ytgdfdmjnadnlnaagreat", sum := "5e08d694a91134d2031f31c82049f1a288fe9c0f064291dd1195b773c29aab4c", func := "loop.example/separation/laws.FnSymSequence", spec := "fnSymSequence", unfollowed := true, recurses := true, apart := false }
def FnSymSequenceSaid : Prop := fnSymSequenceRow.holds Tryz.pinned (OpenSpec.ofChange fnSymSequenceSpec)

/-- ITS FALSE NEIGHBOUR: 'it returns false'. Refute it at one input. -/
def fnSymSequenceWrong : ChangeSpec := { name := "fnSymSequence", fn := fun _ => fun
  | [d] => { results := [.lit (.bool false)], args := [d] }
  | _ => none }
def FnSymSequenceWrongFalsely : Prop := fnSymSequenceRow.holds Tryz.pinned (OpenSpec.ofChange fnSymSequenceWrong)

/-- 'laws.FnVerifyEmpty': WHATEVER THE INPUT: true; the input reads as it did. -/
def fnVerifyEmptySpec : ChangeSpec := { name := "fnVerifyEmpty", fn := fun _ => fun
  | [d] => { results := [.lit (.bool true)], args := [d] }
  | _ => none }
def fnVerifyEmptyRow : OpenClaim := { program := "ytgdfdmjnadnlnaagreat", sum := "5e08d694a91134d2031f31c82049f1a288fe9c0f064291dd1195b773c29aab4c", func := "loop.example/separation/laws.FnVerifyEmpty", spec := "fnVerifyEmpty", unfollowed := true, recurses := true, apart := false }
def FnVerifyEmptySaid : Prop := fnVerifyEmptyRow.holds Tryz.pinned (OpenSpec.ofChange fnVerifyEmptySpec)

/-- ITS FALSE NEIGHBOUR: 'it returns false'. Refute it at one input. -/
def fnVerifyEmptyWrong : ChangeSpec := { name := "fnVerifyEmpty", fn := fun _ => fun
  | [d] => { results := [.lit (.bool false)], args := [d] }
  | _ => none }
def FnVerifyEmptyWrongFalsely : Prop := fnVerifyEmptyRow.holds Tryz.pinned (OpenSpec.ofChange fnVerifyEmptyWrong)

/- THE SECOND FORM. 'bulk': how many values and letters a reading holds, each counted each time it is reached (what is shared counts as often as it is met; a slice's spare places count too). A statement '..UptoSaid' is the law's where the arguments, and the package variables that the reading takes, are together of bulk at most 1048576: NARROWER than '..Said'. Prove '..Said' where nothing that the law and all that it calls make is longer than what came in: it says more and counts as full. Else prove '..UptoSaid'. A law counts once. -/
mutual
def uptoBulk {H : Type} : DataW H → Nat
  | .lit (.string bytes) => bytes.length + 1
  | .lit _ => 1
  | .nil => 1
  | .ptr d => uptoBulk d + 1
  | .slice elems spare => uptoBulkAll elems + uptoBulkAll spare + 1
  | .agg parts => uptoBulkAll parts + 1
  | .iface _ d => uptoBulk d + 1
  | .map entries => uptoBulkEntries entries + 1
  | .held _ => 1
def uptoBulkAll {H : Type} : List (DataW H) → Nat
  | [] => 0
  | d :: r => uptoBulk d + uptoBulkAll r
def uptoBulkEntries {H : Type} : List (Lit × DataW H) → Nat
  | [] => 0
  | x :: r => uptoBulkEntry x + uptoBulkEntries r
def uptoBulkEntry {H : Type} : Lit × DataW H → Nat
  | (.string bytes, d) => bytes.length + uptoBulk d + 1
  | (_, d) => uptoBulk d + 1
 end
def uptoSmall : (H : Type) → List (DataW H) → Bool := fun _ ds => decide (uptoBulkAll ds ≤ 1048576)
def OpenSpec.upto (s : _root_.Go.ChangeSpec) : _root_.Go.OpenSpec := { _root_.Go.OpenSpec.ofChange s with cond := some uptoSmall }

/-- 'laws.FnExactStrongestPosts', WHERE WHAT IT READS IS OF BULK AT MOST 1048576: true; the input reads as it did. -/
def fnExactStrongestPostsUptoRow : OpenClaim := { program := "ytgdfdmjnadnlnaagreat", sum := "5e08d694a91134d2031f31c82049f1a288fe9c0f064291dd1195b773c29aab4c", func := "loop.example/separation/laws.FnExactStrongestPosts", spec := "fnExactStrongestPosts", unfollowed := true, recurses := true, loops := true, apart := false, narrowed := true }
def FnExactStrongestPostsUptoSaid : Prop := fnExactStrongestPostsUptoRow.holds Tryz.pinned (OpenSpec.upto fnExactStrongestPostsSpec)

/-- 'laws.FnExactVerifyProgram', WHERE WHAT IT READS IS OF BULK AT MOST 1048576: true; the input reads as it did. -/
def fnExactVerifyProgramUptoRow : OpenClaim := { program := "ytgdfdmjnadnlnaagreat", sum := "5e08d694a91134d2031f31c82049f1a288fe9c0f064291dd1195b773c29aab4c", func := "loop.example/separation/laws.FnExactVerifyProgram", spec := "fnExactVerifyProgram", unfollowed := true, recurses := true, loops := true, apart := false, narrowed := true }
def FnExactVerifyProgramUptoSaid : Prop := fnExactVerifyProgramUptoRow.holds Tryz.pinned (OpenSpec.upto fnExactVerifyProgramSpec)

/-- 'laws.FnExactSymProgram', WHERE WHAT IT READS IS OF BULK AT MOST 1048576: true; the input reads as it did. -/
def fnExactSymProgramUptoRow : OpenClaim := { program := "ytgdfdmjnadnlnaagreat", sum := "5e08d694a91134d2031f31c82049f1a288fe9c0f064291dd1195b773c29aab4c", func := "loop.example/separation/laws.FnExactSymProgram", spec := "fnExactSymProgram", unfollowed := true, recurses := true, loops := true, apart := false, narrowed := true }
def FnExactSymProgramUptoSaid : Prop := fnExactSymProgramUptoRow.holds Tryz.pinned (OpenSpec.upto fnExactSymProgramSpec)

/-- 'laws.FnExactLoopPost', WHERE WHAT IT READS IS OF BULK AT MOST 1048576: true; the input reads as it did. -/
def fnExactLoopPostUptoRow : OpenClaim := { program := "ytgdfdmjnadnlnaagreat", sum := "5e08d694a91134d2031f31c82049f1a288fe9c0f064291dd1195b773c29aab4c", func := "loop.example/separation/laws.FnExactLoopPost", spec := "fnExactLoopPost", unfollowed := true, recurses := true, loops := true, apart := false, narrowed := true }
def FnExactLoopPostUptoSaid : Prop := fnExactLoopPostUptoRow.holds Tryz.pinned (OpenSpec.upto fnExactLoopPostSpec)

/-- 'laws.FnSymFrame', WHERE WHAT IT READS IS OF BULK AT MOST 1048576: true; the input reads as it did. -/
def fnSymFrameUptoRow : OpenClaim := { program := "ytgdfdmjnadnlnaagreat", sum := "5e08d694a91134d2031f31c82049f1a288fe9c0f064291dd1195b773c29aab4c", func := "loop.example/separation/laws.FnSymFrame", spec := "fnSymFrame", unfollowed := true, recurses := true, apart := false, narrowed := true }
def FnSymFrameUptoSaid : Prop := fnSymFrameUptoRow.holds Tryz.pinned (OpenSpec.upto fnSymFrameSpec)

/-- 'laws.FnSymProgram', WHERE WHAT IT READS IS OF BULK AT MOST 1048576: true; the input reads as it did. -/
def fnSymProgramUptoRow : OpenClaim := { program := "ytgdfdmjnadnlnaagreat", sum := "5e08d694a91134d2031f31c82049f1a288fe9c0f064291dd1195b773c29aab4c", func := "loop.example/separation/laws.FnSymProgram", spec := "fnSymProgram", unfollowed := true, recurses := true, apart := false, narrowed := true }
def FnSymProgramUptoSaid : Prop := fnSymProgramUptoRow.holds Tryz.pinned (OpenSpec.upto fnSymProgramSpec)

/-- 'laws.FnSymSequence', WHERE WHAT IT READS IS OF BULK AT MOST 1048576: true; the input reads as it did. -/
def fnSymSequenceUptoRow : OpenClaim := { program := "ytgdfdmjnadnlnaagreat", sum := "5e08d694a91134d2031f31c82049f1a288fe9c0f064291dd1195b773c29aab4c", func := "loop.example/separation/laws.FnSymSequence", spec := "fnSymSequence", unfollowed := true, recurses := true, apart := false, narrowed := true }
def FnSymSequenceUptoSaid : Prop := fnSymSequenceUptoRow.holds Tryz.pinned (OpenSpec.upto fnSymSequenceSpec)

/-- 'laws.FnVerifyEmpty', WHERE WHAT IT READS IS OF BULK AT MOST 1048576: true; the input reads as it did. -/
def fnVerifyEmptyUptoRow : OpenClaim := { program := "ytgdfdmjnadnlnaagreat", sum := "5e08d694a91134d2031f31c82049f1a288fe9c0f064291dd1195b773c29aab4c", func := "loop.example/separation/laws.FnVerifyEmpty", spec := "fnVerifyEmpty", unfollowed := true, recurses := true, apart := false, narrowed := true }
def FnVerifyEmptyUptoSaid : Prop := fnVerifyEmptyUptoRow.holds Tryz.pinned (OpenSpec.upto fnVerifyEmptySpec)

end Rows
end Go.Proofs.YtgdfdmjnadnlnaaGreat
