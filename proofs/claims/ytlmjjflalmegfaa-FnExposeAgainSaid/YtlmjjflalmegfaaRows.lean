/-
  No cell of these rows narrows 'for every input' (looked for: loops, veiled, ifaces, maps, wideKeys, modest, calm, conditions, laid).
  DERIVED. THE GIVEN ROWS OF THIS SEAT. 3 by the template 'for every input the law returns true; each argument reads behind the call as it read before'; 0 by the template 'total and deterministic' (their statements: YtlmjjflalmegfaaTotals.lean).
  GIVEN WITH THE SEED: the statements are not yours to turn. If you find one false, say at which input.
  Laid BY PROGRAM, IN A SANDBOX (cutbox-rows.mjs): the forced cells as the released guide's own fill.sh prints them over the translation 0be54db08a85c095… (all of the seat's roots in one cut). By AI agents, Wed Nov 11 2026. No macro, syntax, notation, axiom, sorry.
-/
import Derived.Test.YtlmjjflalmegfaaChecked
import GoSem.Claim
import GoSem.ClaimJoined
import GoSem.ClaimMapViews
import Derived.JoinedTies
import Derived.KernelRfl
namespace Go.Proofs.Ytlmjjflalmegfaa
/- THE CELL 'sum', in the pinned program and in every row, IS THE sha256 OF THE DUMP (.gsa) THAT YtlmjjflalmegfaaProg.lean LOADS. Nothing in Lean hashes anything: it is a label: what it is worth is what the hold of that sum in a sandbox is worth. -/
noncomputable def Try.pinned : Pinned := { name := "ytlmjjflalmegfaa", sum := "0be54db08a85c09567e60ca98b5c70ba81aa02e832f9f0508f4a127b86ff237a", checked := Try.checked }
namespace Rows
def none {H : Type} : Left H := { results := [], args := [] }

/-- 'laws.FnExactExposeCell': WHATEVER THE INPUT: true; the input reads as it did. -/
def fnExactExposeCellSpec : ChangeSpec := { name := "fnExactExposeCell", fn := fun _ => fun
  | [d1, d2, d3] => { results := [.lit (.bool true)], args := [d1, d2, d3] }
  | _ => none }
def fnExactExposeCellRow : OpenClaim := { program := "ytlmjjflalmegfaa", sum := "0be54db08a85c09567e60ca98b5c70ba81aa02e832f9f0508f4a127b86ff237a", func := "loop.example/separation/laws.FnExactExposeCell", spec := "fnExactExposeCell", unfollowed := true, recurses := true, apart := false }
def FnExactExposeCellSaid : Prop := fnExactExposeCellRow.holds Try.pinned (OpenSpec.ofChange fnExactExposeCellSpec)

/-- ITS FALSE NEIGHBOUR: 'it returns false'. Refute it at one input. -/
def fnExactExposeCellWrong : ChangeSpec := { name := "fnExactExposeCell", fn := fun _ => fun
  | [d1, d2, d3] => { results := [.lit (.bool false)], args := [d1, d2, d3] }
  | _ => none }
def FnExactExposeCellWrongFalsely : Prop := fnExactExposeCellRow.holds Try.pinned (OpenSpec.ofChange fnExactExposeCellWrong)

/-- 'laws.FnExposeAgain': WHATEVER THE INPUT: true; the input reads as it did. -/
def fnExposeAgainSpec : ChangeSpec := { name := "fnExposeAgain", fn := fun _ => fun
  | [d] => { results := [.lit (.bool true)], args := [d] }
  | _ => none }
def fnExposeAgainRow : OpenClaim := { program := "ytlmjjflalmegfaa", sum := "0be54db08a85c09567e60ca98b5c70ba81aa02e832f9f0508f4a127b86ff237a", func := "loop.example/separation/laws.FnExposeAgain", spec := "fnExposeAgain", unfollowed := true, recurses := true, apart := false }
def FnExposeAgainSaid : Prop := fnExposeAgainRow.holds Try.pinned (OpenSpec.ofChange fnExposeAgainSpec)

/-- ITS FALSE NEIGHBOUR: 'it returns false'. Refute it at one input. -/
def fnExposeAgainWrong : ChangeSpec := { name := "fnExposeAgain", fn := fun _ => fun
  | [d] => { results := [.lit (.bool false)], args := [d] }
  | _ => none }
def FnExposeAgainWrongFalsely : Prop := fnExposeAgainRow.holds Try.pinned (OpenSpec.ofChange fnExposeAgainWrong)

/-- 'laws.FnFrameOf': WHATEVER THE INPUT: true; the input reads as it did. -/
def fnFrameOfSpec : ChangeSpec := { name := "fnFrameOf", fn := fun _ => fun
  | [d] => { results := [.lit (.bool true)], args := [d] }
  | _ => none }
def fnFrameOfRow : OpenClaim := { program := "ytlmjjflalmegfaa", sum := "0be54db08a85c09567e60ca98b5c70ba81aa02e832f9f0508f4a127b86ff237a", func := "loop.example/separation/laws.FnFrameOf", spec := "fnFrameOf", unfollowed := true, recurses := true, apart := false }
def FnFrameOfSaid : Prop := fnFrameOfRow.holds Try.pinned (OpenSpec.ofChange fnFrameOfSpec)

/-- ITS FALSE NEIGHBOUR: 'it returns false'. Refute it at one input. -/
def fnFrameOfWrong : ChangeSpec := { name := "fnFrameOf", fn := fun _ => fun
  | [d] => { results := [.lit (.bool false)], args := [d] }
  | _ => none }
def FnFrameOfWrongFalsely : Prop := fnFrameOfRow.holds Try.pinned (OpenSpec.ofChange fnFrameOfWrong)

/- THE SECOND FORM. 'bulk': how many values and letters a reading holds, each counted each time it is reached (what is shared counts as often as it is met; a slice's spare places count too). A statement '..UptoSaid' is the law's where the arguments, and the package variables that the reading takes, are together of bulk at most 1048576: NARROWER than '..Said'. Prove '..Said' where nothing that the law and all that it calls make is longer than what came in: it says more and counts as full. Else prove '..UptoSaid'. A law counts once. -/
mutual
def uptoBulk {H : Type} : DataW H → Nat
  | .lit (.string bytes) => bytes.length + 1
  | .lit _ => 1
  | .nil => 1
  | .ptr d => uptoBulk d + 1
  | .slice elems spare => uptoBulkAll elems + uptoBulkAll spare + 1
  | .agg parts => uptoBulkAll parts + 1
  | .iface _ d => uptoBulk d + 1
  | .map entries => uptoBulkEntries entries + 1
  | .held _ => 1
def uptoBulkAll {H : Type} : List (DataW H) → Nat
  | [] => 0
  | d :: r => uptoBulk d + uptoBulkAll r
def uptoBulkEntries {H : Type} : List (Lit × DataW H) → Nat
  | [] => 0
  | x :: r => uptoBulkEntry x + uptoBulkEntries r
def uptoBulkEntry {H : Type} : Lit × DataW H → Nat
  | (.string bytes, d) => bytes.length + uptoBulk d + 1
  | (_, d) => uptoBulk d + 1
 end
def uptoSmall : (H : Type) → List (DataW H) → Bool := fun _ ds => decide (uptoBulkAll ds ≤ 1048576)
def OpenSpec.upto (s : _root_.Go.ChangeSpec) : _root_.Go.OpenSpec := { _root_.Go.OpenSpec.ofChange s with cond := some uptoSmall }

/-- 'laws.FnExactExposeCell', WHERE WHAT IT READS IS OF BULK AT MOST 1048576: true; the input reads as it did. -/
def fnExactExposeCellUptoRow : OpenClaim := { program := "ytlmjjflalmegfaa", sum := "0be54db08a85c09567e60ca98b5c70ba81aa02e832f9f0508f4a127b86ff237a", func := "loop.example/separation/laws.FnExactExposeCell", spec := "fnExactExposeCell", unfollowed := true, recurses := true, apart := false, narrowed := true }
def FnExactExposeCellUptoSaid : Prop := fnExactExposeCellUptoRow.holds Try.pinned (OpenSpec.upto fnExactExposeCellSpec)

/-- 'laws.FnExposeAgain', WHERE WHAT IT READS IS OF BULK AT MOST 1048576: true; the input reads as it did. -/
def fnExposeAgainUptoRow : OpenClaim := { program := "ytlmjjflalmegfaa", sum := "0be54db08a85c09567e60ca98b5c70ba81aa02e832f9f0508f4a127b86ff237a", func := "loop.example/separation/laws.FnExposeAgain", spec := "fnExposeAgain", unfollowed := true, recurses := true, apart := false, narrowed := true }
def FnExposeAgainUptoSaid : Prop := fnExposeAgainUptoRow.holds Try.pinned (OpenSpec.upto fnExposeAgainSpec)

/-- 'laws.FnFrameOf', WHERE WHAT IT READS IS OF BULK AT MOST 1048576: true; the input reads as it did. -/
def fnFrameOfUptoRow : OpenClaim := { program := "ytlmjjflalmegfaa", sum := "0be54db08a85c09567e60ca98b5c70ba81aa02e832f9f0508f4a127b86ff237a", func := "loop.example/separation/laws.FnFrameOf", spec := "fnFrameOf", unfollowed := true, recurses := true, apart := false, narrowed := true }
def FnFrameOfUptoSaid : Prop := fnFrameOfUptoRow.holds Try.pinned (OpenSpec.upto fnFrameOfSpec)

end Rows
end Go.Proofs.Ytlmjjflalmegfaa
