/-
  NARROWER THAN 'FOR EVERY INPUT', by the rows' own cells (each row's printed sentence says how): FnExactSymBasic: loops.
  DERIVED. THE GIVEN ROWS OF THIS SEAT. 6 by the template 'for every input the law returns true; each argument reads behind the call as it read before'; 0 by the template 'total and deterministic' (their statements: YtlmjjflalmegfaaGreatTotals.lean).
  GIVEN WITH THE SEED: the statements are not yours to turn. If you find one false, say at which input.
  Laid BY PROGRAM, IN A SANDBOX (cutbox-rows.mjs): the forced cells as the released guide's own fill.sh prints them over the translation 841bd6524f2a6e83… (all of the seat's roots in one cut). By AI agents, Wed Nov 11 2026. No macro, syntax, notation, axiom, sorry.
-/
import Derived.Test.YtlmjjflalmegfaaGreatChecked
import GoSem.Claim
import GoSem.ClaimJoined
import GoSem.ClaimMapViews
import Derived.JoinedTies
import Derived.KernelRfl
namespace Go.Proofs.YtlmjjflalmegfaaGreat
/- THE CELL 'sum', in the pinned program and in every row, IS THE sha256 OF THE DUMP (.gsa) THAT YtlmjjflalmegfaaGreatProg.lean LOADS. Nothing in Lean hashes anything: it is a label: what it is worth is what the hold of that sum in a sandbox is worth. -/
noncomputable def Tryz.pinned : Pinned := { name := "ytlmjjflalmegfaagreat", sum := "841bd6524f2a6e83c02b000247c7d3ee0e7f74a1559c3796d24eb67e8176ba7e", checked := Tryz.checked }
namespace Rows
def none {H : Type} : Left H := { results := [], args := [] }

/-- 'laws.FnExposeCell': WHATEVER THE INPUT: true; the input reads as it did. -/
def fnExposeCellSpec : ChangeSpec := { name := "fnExposeCell", fn := fun _ => fun
  | [d] => { results := [.lit (.bool true)], args := [d] }
  | _ => none }
def fnExposeCellRow : OpenClaim := { program := "ytlmjjflalmegfaagreat", sum := "841bd6524f2a6e83c02b000247c7d3ee0e7f74a1559c3796d24eb67e8176ba7e", func := "loop.example/separation/laws.FnExposeCell", spec := "fnExposeCell", unfollowed := true, recurses := true, apart := false }
def FnExposeCellSaid : Prop := fnExposeCellRow.holds Tryz.pinned (OpenSpec.ofChange fnExposeCellSpec)

/-- ITS FALSE NEIGHBOUR: 'it returns false'. Refute it at one input. -/
def fnExposeCellWrong : ChangeSpec := { name := "fnExposeCell", fn := fun _ => fun
  | [d] => { results := [.lit (.bool false)], args := [d] }
  | _ => none }
def FnExposeCellWrongFalsely : Prop := fnExposeCellRow.holds Tryz.pinned (OpenSpec.ofChange fnExposeCellWrong)

/-- 'laws.FnRefines': WHATEVER THE INPUT: true; the input reads as it did. -/
def fnRefinesSpec : ChangeSpec := { name := "fnRefines", fn := fun _ => fun
  | [d1, d2] => { results := [.lit (.bool true)], args := [d1, d2] }
  | _ => none }
def fnRefinesRow : OpenClaim := { program := "ytlmjjflalmegfaagreat", sum := "841bd6524f2a6e83c02b000247c7d3ee0e7f74a1559c3796d24eb67e8176ba7e", func := "loop.example/separation/laws.FnRefines", spec := "fnRefines", unfollowed := true, recurses := true, apart := false }
def FnRefinesSaid : Prop := fnRefinesRow.holds Tryz.pinned (OpenSpec.ofChange fnRefinesSpec)

/-- ITS FALSE NEIGHBOUR: 'it returns false'. Refute it at one input. -/
def fnRefinesWrong : ChangeSpec := { name := "fnRefines", fn := fun _ => fun
  | [d1, d2] => { results := [.lit (.bool false)], args := [d1, d2] }
  | _ => none }
def FnRefinesWrongFalsely : Prop := fnRefinesRow.holds Tryz.pinned (OpenSpec.ofChange fnRefinesWrong)

/-- 'laws.FnExactCallPost': WHATEVER THE INPUT: true; the input reads as it did. -/
def fnExactCallPostSpec : ChangeSpec := { name := "fnExactCallPost", fn := fun _ => fun
  | [d1, d2, d3] => { results := [.lit (.bool true)], args := [d1, d2, d3] }
  | _ => none }
def fnExactCallPostRow : OpenClaim := { program := "ytlmjjflalmegfaagreat", sum := "841bd6524f2a6e83c02b000247c7d3ee0e7f74a1559c3796d24eb67e8176ba7e", func := "loop.example/separation/laws.FnExactCallPost", spec := "fnExactCallPost", unfollowed := true, recurses := true, apart := false }
def FnExactCallPostSaid : Prop := fnExactCallPostRow.holds Tryz.pinned (OpenSpec.ofChange fnExactCallPostSpec)

/-- ITS FALSE NEIGHBOUR: 'it returns false'. Refute it at one input. -/
def fnExactCallPostWrong : ChangeSpec := { name := "fnExactCallPost", fn := fun _ => fun
  | [d1, d2, d3] => { results := [.lit (.bool false)], args := [d1, d2, d3] }
  | _ => none }
def FnExactCallPostWrongFalsely : Prop := fnExactCallPostRow.holds Tryz.pinned (OpenSpec.ofChange fnExactCallPostWrong)

/-- 'laws.FnExactSymBasic': WHATEVER THE INPUT: true; the input reads as it did. -/
def fnExactSymBasicSpec : ChangeSpec := { name := "fnExactSymBasic", fn := fun _ => fun
  | [d1, d2, d3] => { results := [.lit (.bool true)], args := [d1, d2, d3] }
  | _ => none }
def fnExactSymBasicRow : OpenClaim := { program := "ytlmjjflalmegfaagreat", sum := "841bd6524f2a6e83c02b000247c7d3ee0e7f74a1559c3796d24eb67e8176ba7e", func := "loop.example/separation/laws.FnExactSymBasic", spec := "fnExactSymBasic", unfollowed := true, recurses := true, loops := true, apart := false }
def FnExactSymBasicSaid : Prop := fnExactSymBasicRow.holds Tryz.pinned (OpenSpec.ofChange fnExactSymBasicSpec)

/-- ITS FALSE NEIGHBOUR: 'it returns false'. Refute it at one input. -/
def fnExactSymBasicWrong : ChangeSpec := { name := "fnExactSymBasic", fn := fun _ => fun
  | [d1, d2, d3] => { results := [.lit (.bool false)], args := [d1, d2, d3] }
  | _ => none }
def FnExactSymBasicWrongFalsely : Prop := fnExactSymBasicRow.holds Tryz.pinned (OpenSpec.ofChange fnExactSymBasicWrong)

/-- 'laws.FnSymSet': WHATEVER THE INPUT: true; the input reads as it did. -/
def fnSymSetSpec : ChangeSpec := { name := "fnSymSet", fn := fun _ => fun
  | [d] => { results := [.lit (.bool true)], args := [d] }
  | _ => none }
def fnSymSetRow : OpenClaim := { program := "ytlmjjflalmegfaagreat", sum := "841bd6524f2a6e83c02b000247c7d3ee0e7f74a1559c3796d24eb67e8176ba7e", func := "loop.example/separation/laws.FnSymSet", spec := "fnSymSet", unfollowed := true, recurses := true, apart := false }
def FnSymSetSaid : Prop := fnSymSetRow.holds Tryz.pinned (OpenSpec.ofChange fnSymSetSpec)

/-- ITS FALSE NEIGHBOUR: 'it returns false'. Refute it at one input. -/
def fnSymSetWrong : ChangeSpec := { name := "fnSymSet", fn := fun _ => fun
  | [d] => { results := [.lit (.bool false)], args := [d] }
  | _ => none }
def FnSymSetWrongFalsely : Prop := fnSymSetRow.holds Tryz.pinned (OpenSpec.ofChange fnSymSetWrong)

/-- 'laws.FnSymStore': WHATEVER THE INPUT: true; the input reads as it did. -/
def fnSymStoreSpec : ChangeSpec := { name := "fnSymStore", fn := fun _ => fun
  | [d] => { results := [.lit (.bool true)], args := [d] }
  | _ => none }
def fnSymStoreRow : OpenClaim := { program := "ytlmjjflalmegfaagreat", sum := "841bd6524f2a6e83c02b000247c7d3ee0e7f74a1559c3796d24eb67e8176ba7e", func := "loop.example/separation/laws.FnSymStore", spec := "fnSymStore", unfollowed := true, recurses := true, apart := false }
def FnSymStoreSaid : Prop := fnSymStoreRow.holds Tryz.pinned (OpenSpec.ofChange fnSymStoreSpec)

/-- ITS FALSE NEIGHBOUR: 'it returns false'. Refute it at one input. -/
def fnSymStoreWrong : ChangeSpec := { name := "fnSymStore", fn := fun _ => fun
  | [d] => { results := [.lit (.bool false)], args := [d] }
  | _ => none }
def FnSymStoreWrongFalsely : Prop := fnSymStoreRow.holds Tryz.pinned (OpenSpec.ofChange fnSymStoreWrong)

/- THE SECOND FORM. 'bulk': how many values and letters a reading holds, each counted each time it is reached (what is shared counts as often as it is met; a slice's spare places count too). A statement '..UptoSaid' is the law's where the arguments, and the package variables that the reading takes, are together of bulk at most 1048576: NARROWER than '..Said'. Prove '..Said' where nothing that the law and all that it calls make is longer than what came in: it says more and counts as full. Else prove '..UptoSaid'. A law counts once. -/
mutual
def uptoBulk {H : Type} : DataW H → Nat
  | .lit (.string bytes) => bytes.length + 1
  | .lit _ => 1
  | .nil => 1
  | .ptr d => uptoBulk d + 1
  | .slice elems spare => uptoBulkAll elems + uptoBulkAll spare + 1
  | .agg parts => uptoBulkAll parts + 1
  | .iface _ d => uptoBulk d + 1
  | .map entries => uptoBulkEntries entries + 1
  | .held _ => 1
def uptoBulkAll {H : Type} : List (DataW H) → Nat
  | [] => 0
  | d :: r => uptoBulk d + uptoBulkAll r
def uptoBulkEntries {H : Type} : List (Lit × DataW H) → Nat
  | [] => 0
  | x :: r => uptoBulkEntry x + uptoBulkEntries r
def uptoBulkEntry {H : Type} : Lit × DataW H → Nat
  | (.string bytes, d) => bytes.length + uptoBulk d + 1
  | (_, d) => uptoBulk d + 1
 end
def uptoSmall : (H : Type) → List (DataW H) → Bool := fun _ ds => decide (uptoBulkAll ds ≤ 1048576)
def OpenSpec.upto (s : _root_.Go.ChangeSpec) : _root_.Go.OpenSpec := { _root_.Go.OpenSpec.ofChange s with cond := some uptoSmall }

/-- 'laws.FnExposeCell', WHERE WHAT IT READS IS OF BULK AT MOST 1048576: true; the input reads as it did. -/
def fnExposeCellUptoRow : OpenClaim := { program := "ytlmjjflalmegfaagreat", sum := "841bd6524f2a6e83c02b000247c7d3ee0e7f74a1559c3796d24eb67e8176ba7e", func := "loop.example/separation/laws.FnExposeCell", spec := "fnExposeCell", unfollowed := true, recurses := true, apart := false, narrowed := true }
def FnExposeCellUptoSaid : Prop := fnExposeCellUptoRow.holds Tryz.pinned (OpenSpec.upto fnExposeCellSpec)

/-- 'laws.FnRefines', WHERE WHAT IT READS IS OF BULK AT MOST 1048576: true; the input reads as it did. -/
def fnRefinesUptoRow : OpenClaim := { program := "ytlmjjflalmegfaagreat", sum := "841bd6524f2a6e83c02b000247c7d3ee0e7f74a1559c3796d24eb67e8176ba7e", func := "loop.example/separation/laws.FnRefines", spec := "fnRefines", unfollowed := true, recurses := true, apart := false, narrowed := true }
def FnRefinesUptoSaid : Prop := fnRefinesUptoRow.holds Tryz.pinned (OpenSpec.upto fnRefinesSpec)

/-- 'laws.FnExactCallPost', WHERE WHAT IT READS IS OF BULK AT MOST 1048576: true; the input reads as it did. -/
def fnExactCallPostUptoRow : OpenClaim := { program := "ytlmjjflalmegfaagreat", sum := "841bd6524f2a6e83c02b000247c7d3ee0e7f74a1559c3796d24eb67e8176ba7e", func := "loop.example/separation/laws.FnExactCallPost", spec := "fnExactCallPost", unfollowed := true, recurses := true, apart := false, narrowed := true }
def FnExactCallPostUptoSaid : Prop := fnExactCallPostUptoRow.holds Tryz.pinned (OpenSpec.upto fnExactCallPostSpec)

/-- 'laws.FnExactSymBasic', WHERE WHAT IT READS IS OF BULK AT MOST 1048576: true; the input reads as it did. -/
def fnExactSymBasicUptoRow : OpenClaim := { program := "ytlmjjflalmegfaagreat", sum := "841bd6524f2a6e83c02b000247c7d3ee0e7f74a1559c3796d24eb67e8176ba7e", func := "loop.example/separation/laws.FnExactSymBasic", spec := "fnExactSymBasic", unfollowed := true, recurses := true, loops := true, apart := false, narrowed := true }
def FnExactSymBasicUptoSaid : Prop := fnExactSymBasicUptoRow.holds Tryz.pinned (OpenSpec.upto fnExactSymBasicSpec)

/-- 'laws.FnSymSet', WHERE WHAT IT READS IS OF BULK AT MOST 1048576: true; the input reads as it did. -/
def fnSymSetUptoRow : OpenClaim := { program := "ytlmjjflalmegfaagreat", sum := "841bd6524f2a6e83c02b000247c7d3ee0e7f74a1559c3796d24eb67e8176ba7e", func := "loop.example/separation/laws.FnSymSet", spec := "fnSymSet", unfollowed := true, recurses := true, apart := false, narrowed := true }
def FnSymSetUptoSaid : Prop := fnSymSetUptoRow.holds Tryz.pinned (OpenSpec.upto fnSymSetSpec)

/-- 'laws.FnSymStore', WHERE WHAT IT READS IS OF BULK AT MOST 1048576: true; the input reads as it did. -/
def fnSymStoreUptoRow : OpenClaim := { program := "ytlmjjflalmegfaagreat", sum := "841bd6524f2a6e83c02b000247c7d3ee0e7f74a1559c3796d24eb67e8176ba7e", func := "loop.example/separation/laws.FnSymStore", spec := "fnSymStore", unfollowed := true, recurses := true, apart := false, narrowed := true }
def FnSymStoreUptoSaid : Prop := fnSymStoreUptoRow.holds Tryz.pinned (OpenSpec.upto fnSymStoreSpec)

end Rows
end Go.Proofs.YtlmjjflalmegfaaGreat
