/-
  No cell of these rows narrows 'for every input' (looked for: loops, veiled, ifaces, maps, wideKeys, modest, calm, conditions, laid).
  DERIVED. THE GIVEN ROWS OF THIS SEAT. 7 by the template 'for every input the law returns true; each argument reads behind the call as it read before'; 0 by the template 'total and deterministic' (their statements: YtjjokmlmknllhaaGreatTotals.lean).
  GIVEN WITH THE SEED: the statements are not yours to turn. If you find one false, say at which input.
  Laid BY PROGRAM, IN A SANDBOX (cutbox-rows.mjs): the forced cells as the released guide's own fill.sh prints them over the translation ddb7387ede2745c9… (all of the seat's roots in one cut). By AI agents, Wed Nov 11 2026. No macro, syntax, notation, axiom, sorry.
-/
import Derived.Test.YtjjokmlmknllhaaGreatChecked
import GoSem.Claim
import GoSem.ClaimJoined
import GoSem.ClaimMapViews
import Derived.JoinedTies
import Derived.KernelRfl
namespace Go.Proofs.YtjjokmlmknllhaaGreat
/- THE CELL 'sum', in the pinned program and in every row, IS THE sha256 OF THE DUMP (.gsa) THAT YtjjokmlmknllhaaGreatProg.lean LOADS. Nothing in Lean hashes anything: it is a label: what it is worth is what the hold of that sum in a sandbox is worth. -/
noncomputable def Tryz.pinned : Pinned := { name := "ytjjokmlmknllhaagreat", sum := "ddb7387ede2745c9a1c5d28e803eeec8f09f9ef5b1cadbff535731cfc4a1eb07", checked := Tryz.checked }
namespace Rows
def none {H : Type} : Left H := { results := [], args := [] }

/-- 'laws.FnExactCallPost': WHATEVER THE INPUT: true; the input reads as it did. -/
def fnExactCallPostSpec : ChangeSpec := { name := "fnExactCallPost", fn := fun _ => fun
  | [d1, d2, d3] => { results := [.lit (.bool true)], args := [d1, d2, d3] }
  | _ => none }
def fnExactCallPostRow : OpenClaim := { program := "ytjjokmlmknllhaagreat", sum := "ddb7387ede2745c9a1c5d28e803eeec8f09f9ef5b1cadbff535731cfc4a1eb07", func := "loop.example/separation/laws.FnExactCallPost", spec := "fnExactCallPost", unfollowed := true, recurses := true, apart := false }
def FnExactCallPostSaid : Prop := fnExactCallPostRow.holds Tryz.pinned (OpenSpec.ofChange fnExactCallPostSpec)

/-- ITS FALSE NEIGHBOUR: 'it returns false'. Refute it at one input. -/
def fnExactCallPostWrong : ChangeSpec := { name := "fnExactCallPost", fn := fun _ => fun
  | [d1, d2, d3] => { results := [.lit (.bool false)], args := [d1, d2, d3] }
  | _ => none }
def FnExactCallPostWrongFalsely : Prop := fnExactCallPostRow.holds Tryz.pinned (OpenSpec.ofChange fnExactCallPostWrong)

/-- 'laws.FnSymSet': WHATEVER THE INPUT: true; the input reads as it did. -/
def fnSymSetSpec : ChangeSpec := { name := "fnSymSet", fn := fun _ => fun
  | [d] => { results := [.lit (.bool true)], args := [d] }
  | _ => none }
def fnSymSetRow : OpenClaim := { program := "ytjjokmlmknllhaagreat", sum := "ddb7387ede2745c9a1c5d28e803eeec8f09f9ef5b1cadbff535731cfc4a1eb07", func := "loop.example/separation/laws.FnSymSet", spec := "fnSymSet", unfollowed := true, recurses := true, apart := false }
def FnSymSetSaid : Prop := fnSymSetRow.holds Tryz.pinned (OpenSpec.ofChange fnSymSetSpec)

/-- ITS FALSE NEIGHBOUR: 'it returns false'. Refute it at one input. -/
def fnSymSetWrong : ChangeSpec := { name := "fnSymSet", fn := fun _ => fun
  | [d] => { results := [.lit (.bool false)], args := [d] }
  | _ => none }
def FnSymSetWrongFalsely : Prop := fnSymSetRow.holds Tryz.pinned (OpenSpec.ofChange fnSymSetWrong)

/-- 'laws.FnSymStore': WHATEVER THE INPUT: true; the input reads as it did. -/
def fnSymStoreSpec : ChangeSpec := { name := "fnSymStore", fn := fun _ => fun
  | [d] => { results := [.lit (.bool true)], args := [d] }
  | _ => none }
def fnSymStoreRow : OpenClaim := { program := "ytjjokmlmknllhaagreat", sum := "ddb7387ede2745c9a1c5d28e803eeec8f09f9ef5b1cadbff535731cfc4a1eb07", func := "loop.example/separation/laws.FnSymStore", spec := "fnSymStore", unfollowed := true, recurses := true, apart := false }
def FnSymStoreSaid : Prop := fnSymStoreRow.holds Tryz.pinned (OpenSpec.ofChange fnSymStoreSpec)

/-- ITS FALSE NEIGHBOUR: 'it returns false'. Refute it at one input. -/
def fnSymStoreWrong : ChangeSpec := { name := "fnSymStore", fn := fun _ => fun
  | [d] => { results := [.lit (.bool false)], args := [d] }
  | _ => none }
def FnSymStoreWrongFalsely : Prop := fnSymStoreRow.holds Tryz.pinned (OpenSpec.ofChange fnSymStoreWrong)

/-- 'laws.FnRefines': WHATEVER THE INPUT: true; the input reads as it did. -/
def fnRefinesSpec : ChangeSpec := { name := "fnRefines", fn := fun _ => fun
  | [d1, d2] => { results := [.lit (.bool true)], args := [d1, d2] }
  | _ => none }
def fnRefinesRow : OpenClaim := { program := "ytjjokmlmknllhaagreat", sum := "ddb7387ede2745c9a1c5d28e803eeec8f09f9ef5b1cadbff535731cfc4a1eb07", func := "loop.example/separation/laws.FnRefines", spec := "fnRefines", unfollowed := true, recurses := true, apart := false }
def FnRefinesSaid : Prop := fnRefinesRow.holds Tryz.pinned (OpenSpec.ofChange fnRefinesSpec)

/-- ITS FALSE NEIGHBOUR: 'it returns false'. Refute it at one input. -/
def fnRefinesWrong : ChangeSpec := { name := "fnRefines", fn := fun _ => fun
  | [d1, d2] => { results := [.lit (.bool false)], args := [d1, d2] }
  | _ => none }
def FnRefinesWrongFalsely : Prop := fnRefinesRow.holds Tryz.pinned (OpenSpec.ofChange fnRefinesWrong)

/-- 'laws.FnFrameContract': WHATEVER THE INPUT: true; the input reads as it did. -/
def fnFrameContractSpec : ChangeSpec := { name := "fnFrameContract", fn := fun _ => fun
  | [d] => { results := [.lit (.bool true)], args := [d] }
  | _ => none }
def fnFrameContractRow : OpenClaim := { program := "ytjjokmlmknllhaagreat", sum := "ddb7387ede2745c9a1c5d28e803eeec8f09f9ef5b1cadbff535731cfc4a1eb07", func := "loop.example/separation/laws.FnFrameContract", spec := "fnFrameContract", unfollowed := true, recurses := true, apart := false }
def FnFrameContractSaid : Prop := fnFrameContractRow.holds Tryz.pinned (OpenSpec.ofChange fnFrameContractSpec)

/-- ITS FALSE NEIGHBOUR: 'it returns false'. Refute it at one input. -/
def fnFrameContractWrong : ChangeSpec := { name := "fnFrameContract", fn := fun _ => fun
  | [d] => { results := [.lit (.bool false)], args := [d] }
  | _ => none }
def FnFrameContractWrongFalsely : Prop := fnFrameContractRow.holds Tryz.pinned (OpenSpec.ofChange fnFrameContractWrong)

/-- 'laws.FnSymBasic': WHATEVER THE INPUT: true; the input reads as it did. -/
def fnSymBasicSpec : ChangeSpec := { name := "fnSymBasic", fn := fun _ => fun
  | [d] => { results := [.lit (.bool true)], args := [d] }
  | _ => none }
def fnSymBasicRow : OpenClaim := { program := "ytjjokmlmknllhaagreat", sum := "ddb7387ede2745c9a1c5d28e803eeec8f09f9ef5b1cadbff535731cfc4a1eb07", func := "loop.example/separation/laws.FnSymBasic", spec := "fnSymBasic", unfollowed := true, recurses := true, apart := false }
def FnSymBasicSaid : Prop := fnSymBasicRow.holds Tryz.pinned (OpenSpec.ofChange fnSymBasicSpec)

/-- ITS FALSE NEIGHBOUR: 'it returns false'. Refute it at one input. -/
def fnSymBasicWrong : ChangeSpec := { name := "fnSymBasic", fn := fun _ => fun
  | [d] => { results := [.lit (.bool false)], args := [d] }
  | _ => none }
def FnSymBasicWrongFalsely : Prop := fnSymBasicRow.holds Tryz.pinned (OpenSpec.ofChange fnSymBasicWrong)

/-- 'laws.FnSymFrame': WHATEVER THE INPUT: true; the input reads as it did. -/
def fnSymFrameSpec : ChangeSpec := { name := "fnSymFrame", fn := fun _ => fun
  | [d] => { results := [.lit (.bool true)], args := [d] }
  | _ => none }
def fnSymFrameRow : OpenClaim := { program := "ytjjokmlmknllhaagreat", sum := "ddb7387ede2745c9a1c5d28e803eeec8f09f9ef5b1cadbff535731cfc4a1eb07", func := "loop.example/separation/laws.FnSymFrame", spec := "fnSymFrame", unfollowed := true, recurses := true, apart := false }
def FnSymFrameSaid : Prop := fnSymFrameRow.holds Tryz.pinned (OpenSpec.ofChange fnSymFrameSpec)

/-- ITS FALSE NEIGHBOUR: 'it returns false'. Refute it at one input. -/
def fnSymFrameWrong : ChangeSpec := { name := "fnSymFrame", fn := fun _ => fun
  | [d] => { results := [.lit (.bool false)], args := [d] }
  | _ => none }
def FnSymFrameWrongFalsely : Prop := fnSymFrameRow.holds Tryz.pinned (OpenSpec.ofChange fnSymFrameWrong)

/- THE SECOND FORM. 'bulk': how many values and letters a reading holds, each counted each time it is reached (what is shared counts as often as it is met; a slice's spare places count too). A statement '..UptoSaid' is the law's where the arguments, and the package variables that the reading takes, are together of bulk at most 1048576: NARROWER than '..Said'. Prove '..Said' where nothing that the law and all that it calls make is longer than what came in: it says more and counts as full. Else prove '..UptoSaid'. A law counts once. -/
mutual
def uptoBulk {H : Type} : DataW H → Nat
  | .lit (.string bytes) => bytes.length + 1
  | .lit _ => 1
  | .nil => 1
  | .ptr d => uptoBulk d + 1
  | .slice elems spare => uptoBulkAll elems + uptoBulkAll spare + 1
  | .agg parts => uptoBulkAll parts + 1
  | .iface _ d => uptoBulk d + 1
  | .map entries => uptoBulkEntries entries + 1
  | .held _ => 1
def uptoBulkAll {H : Type} : List (DataW H) → Nat
  | [] => 0
  | d :: r => uptoBulk d + uptoBulkAll r
def uptoBulkEntries {H : Type} : List (Lit × DataW H) → Nat
  | [] => 0
  | x :: r => uptoBulkEntry x + uptoBulkEntries r
def uptoBulkEntry {H : Type} : Lit × DataW H → Nat
  | (.string bytes, d) => bytes.length + uptoBulk d + 1
  | (_, d) => uptoBulk d + 1
 end
def uptoSmall : (H : Type) → List (DataW H) → Bool := fun _ ds => decide (uptoBulkAll ds ≤ 1048576)
def OpenSpec.upto (s : _root_.Go.ChangeSpec) : _root_.Go.OpenSpec := { _root_.Go.OpenSpec.ofChange s with cond := some uptoSmall }

/-- 'laws.FnExactCallPost', WHERE WHAT IT READS IS OF BULK AT MOST 1048576: true; the input reads as it did. -/
def fnExactCallPostUptoRow : OpenClaim := { program := "ytjjokmlmknllhaagreat", sum := "ddb7387ede2745c9a1c5d28e803eeec8f09f9ef5b1cadbff535731cfc4a1eb07", func := "loop.example/separation/laws.FnExactCallPost", spec := "fnExactCallPost", unfollowed := true, recurses := true, apart := false, narrowed := true }
def FnExactCallPostUptoSaid : Prop := fnExactCallPostUptoRow.holds Tryz.pinned (OpenSpec.upto fnExactCallPostSpec)

/-- 'laws.FnSymSet', WHERE WHAT IT READS IS OF BULK AT MOST 1048576: true; the input reads as it did. -/
def fnSymSetUptoRow : OpenClaim := { program := "ytjjokmlmknllhaagreat", sum := "ddb7387ede2745c9a1c5d28e803eeec8f09f9ef5b1cadbff535731cfc4a1eb07", func := "loop.example/separation/laws.FnSymSet", spec := "fnSymSet", unfollowed := true, recurses := true, apart := false, narrowed := true }
def FnSymSetUptoSaid : Prop := fnSymSetUptoRow.holds Tryz.pinned (OpenSpec.upto fnSymSetSpec)

/-- 'laws.FnSymStore', WHERE WHAT IT READS IS OF BULK AT MOST 1048576: true; the input reads as it did. -/
def fnSymStoreUptoRow : OpenClaim := { program := "ytjjokmlmknllhaagreat", sum := "ddb7387ede2745c9a1c5d28e803eeec8f09f9ef5b1cadbff535731cfc4a1eb07", func := "loop.example/separation/laws.FnSymStore", spec := "fnSymStore", unfollowed := true, recurses := true, apart := false, narrowed := true }
def FnSymStoreUptoSaid : Prop := fnSymStoreUptoRow.holds Tryz.pinned (OpenSpec.upto fnSymStoreSpec)

/-- 'laws.FnRefines', WHERE WHAT IT READS IS OF BULK AT MOST 1048576: true; the input reads as it did. -/
def fnRefinesUptoRow : OpenClaim := { program := "ytjjokmlmknllhaagreat", sum := "ddb7387ede2745c9a1c5d28e803eeec8f09f9ef5b1cadbff535731cfc4a1eb07", func := "loop.example/separation/laws.FnRefines", spec := "fnRefines", unfollowed := true, recurses := true, apart := false, narrowed := true }
def FnRefinesUptoSaid : Prop := fnRefinesUptoRow.holds Tryz.pinned (OpenSpec.upto fnRefinesSpec)

/-- 'laws.FnFrameContract', WHERE WHAT IT READS IS OF BULK AT MOST 1048576: true; the input reads as it did. -/
def fnFrameContractUptoRow : OpenClaim := { program := "ytjjokmlmknllhaagreat", sum := "ddb7387ede2745c9a1c5d28e803eeec8f09f9ef5b1cadbff535731cfc4a1eb07", func := "loop.example/separation/laws.FnFrameContract", spec := "fnFrameContract", unfollowed := true, recurses := true, apart := false, narrowed := true }
def FnFrameContractUptoSaid : Prop := fnFrameContractUptoRow.holds Tryz.pinned (OpenSpec.upto fnFrameContractSpec)

/-- 'laws.FnSymBasic', WHERE WHAT IT READS IS OF BULK AT MOST 1048576: true; the input reads as it did. -/
def fnSymBasicUptoRow : OpenClaim := { program := "ytjjokmlmknllhaagreat", sum := "ddb7387ede2745c9a1c5d28e803eeec8f09f9ef5b1cadbff535731cfc4a1eb07", func := "loop.example/separation/laws.FnSymBasic", spec := "fnSymBasic", unfollowed := true, recurses := true, apart := false, narrowed := true }
def FnSymBasicUptoSaid : Prop := fnSymBasicUptoRow.holds Tryz.pinned (OpenSpec.upto fnSymBasicSpec)

/-- 'laws.FnSymFrame', WHERE WHAT IT READS IS OF BULK AT MOST 1048576: true; the input reads as it did. -/
def fnSymFrameUptoRow : OpenClaim := { program := "ytjjokmlmknllhaagreat", sum := "ddb7387ede2745c9a1c5d28e803eeec8f09f9ef5b1cadbff535731cfc4a1eb07", func := "loop.example/separation/laws.FnSymFrame", spec := "fnSymFrame", unfollowed := true, recurses := true, apart := false, narrowed := true }
def FnSymFrameUptoSaid : Prop := fnSymFrameUptoRow.holds Tryz.pinned (OpenSpec.upto fnSymFrameSpec)

end Rows
end Go.Proofs.YtjjokmlmknllhaaGreat
