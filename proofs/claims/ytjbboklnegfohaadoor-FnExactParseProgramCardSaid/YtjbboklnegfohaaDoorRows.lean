/-
  NARROWER THAN 'FOR EVERY INPUT', by the rows' own cells (each row's printed sentence says how): FnExactFormatContract: laid · FnExactParseContract: laid · FnExactParseProgram: laid.
  DERIVED. THE GIVEN ROWS OF THIS SEAT. 3 by the template 'for every input the law returns true; each argument reads behind the call as it read before'; 0 by the template 'total and deterministic' (their statements: YtjbboklnegfohaaDoorTotals.lean).
  GIVEN WITH THE SEED: the statements are not yours to turn. If you find one false, say at which input.
  Laid BY PROGRAM, IN A SANDBOX (cutbox-rows.mjs): the forced cells as the released guide's own fill.sh prints them over the translation 05a00900e4d2cd27… (all of the seat's roots in one cut). By AI agents, Wed Nov 11 2026. No macro, syntax, notation, axiom, sorry.
-/
import Derived.Test.YtjbboklnegfohaaDoorChecked
import GoSem.PinnedTables
import GoSem.Claim
import GoSem.ClaimJoined
import GoSem.ClaimMapViews
import Derived.JoinedTies
import Derived.KernelRfl
namespace Go.Proofs.YtjbboklnegfohaaDoor
/- THE CELL 'sum', in the pinned program and in every row, IS THE sha256 OF THE DUMP (.gsa) THAT YtjbboklnegfohaaDoorProg.lean LOADS. Nothing in Lean hashes anything: it is a label: what it is worth is what the hold of that sum in a sandbox is worth. -/
noncomputable def Tryd.pinned : Pinned := { name := "ytjbboklnegfohaadoor", sum := "05a00900e4d2cd27427b3405be1fd730b8e9650c2f3f739df81d34591207b93f", checked := Tryd.checked }
namespace Rows
def none {H : Type} : Left H := { results := [], args := [] }

/- WHAT THE LISTED PACKAGE-LEVEL VARIABLES READ AS WHEN THE CALL BEGINS. Each datum BY PROGRAM (the guide's laid-datum.mjs) off the statement by which the dump's own 'gosem.cut.vars' lays the variable. In a bare row this is a premise. The card (YtjbboklnegfohaaDoorCards.lean) ties it to the program's text. -/
def laid_loop_example_separation_impl_termNames {H : Type} : DataW H := .agg [.lit (.string [110, 105, 108]), .lit (.string [97]), .lit (.string [98]), .lit (.string [99]), .lit (.string [100]), .lit (.string [112]), .lit (.string [113]), .lit (.string [114]), .lit (.string [115])]
def laid_unicode_utf8_acceptRanges {H : Type} : DataW H := .agg [.agg [.lit (.int .u8 128), .lit (.int .u8 191)], .agg [.lit (.int .u8 160), .lit (.int .u8 191)], .agg [.lit (.int .u8 128), .lit (.int .u8 159)], .agg [.lit (.int .u8 144), .lit (.int .u8 191)], .agg [.lit (.int .u8 128), .lit (.int .u8 143)], .agg [.lit (.int .u8 0), .lit (.int .u8 0)], .agg [.lit (.int .u8 0), .lit (.int .u8 0)], .agg [.lit (.int .u8 0), .lit (.int .u8 0)], .agg [.lit (.int .u8 0), .lit (.int .u8 0)], .agg [.lit (.int .u8 0), .lit (.int .u8 0)], .agg [.lit (.int .u8 0), .lit (.int .u8 0)], .agg [.lit (.int .u8 0), .lit (.int .u8 0)], .agg [.lit (.int .u8 0), .lit (.int .u8 0)], .agg [.lit (.int .u8 0), .lit (.int .u8 0)], .agg [.lit (.int .u8 0), .lit (.int .u8 0)], .agg [.lit (.int .u8 0), .lit (.int .u8 0)]]
/-- One of Go's own tables, pinned by name: the form's constant. -/
def laid_unicode_utf8_first : DataW Unit := Go.Pinned.utf8First

/-- 'laws.FnExactFormatContract': WHATEVER THE INPUT: true; the input reads as it did. -/
def fnExactFormatContractSpec : ChangeSpec := { name := "fnExactFormatContract", vars := ["loop.example/separation/impl.termNames"], fn := fun _ => fun
  | [d, g1] => { results := [.lit (.bool true)], args := [d], vars := [g1] }
  | _ => none }
def fnExactFormatContractRow : OpenClaim := { program := "ytjbboklnegfohaadoor", sum := "05a00900e4d2cd27427b3405be1fd730b8e9650c2f3f739df81d34591207b93f", func := "loop.example/separation/laws.FnExactFormatContract", spec := "fnExactFormatContract", inPlace := ["internal/abi.NoEscape", "internal/bytealg.MakeNoZero"], named := ["loop.example/separation/impl.termNames"], apart := false, laid := [("loop.example/separation/impl.termNames", laid_loop_example_separation_impl_termNames)] }
def FnExactFormatContractSaid : Prop := fnExactFormatContractRow.holds Tryd.pinned (OpenSpec.ofChange fnExactFormatContractSpec)

/-- ITS FALSE NEIGHBOUR: 'it returns false'. Refute it at one input. -/
def fnExactFormatContractWrong : ChangeSpec := { name := "fnExactFormatContract", vars := ["loop.example/separation/impl.termNames"], fn := fun _ => fun
  | [d, g1] => { results := [.lit (.bool false)], args := [d], vars := [g1] }
  | _ => none }
def FnExactFormatContractWrongFalsely : Prop := fnExactFormatContractRow.holds Tryd.pinned (OpenSpec.ofChange fnExactFormatContractWrong)

/-- 'laws.FnExactParseContract': WHATEVER THE INPUT: true; the input reads as it did. -/
def fnExactParseContractSpec : ChangeSpec := { name := "fnExactParseContract", vars := ["loop.example/separation/impl.termNames"], fn := fun _ => fun
  | [d, g1] => { results := [.lit (.bool true)], args := [d], vars := [g1] }
  | _ => none }
def fnExactParseContractRow : OpenClaim := { program := "ytjbboklnegfohaadoor", sum := "05a00900e4d2cd27427b3405be1fd730b8e9650c2f3f739df81d34591207b93f", func := "loop.example/separation/laws.FnExactParseContract", spec := "fnExactParseContract", inPlace := ["internal/bytealg.CountString", "internal/bytealg.IndexByteString", "internal/bytealg.IndexString"], named := ["unicode/utf8.first", "unicode/utf8.acceptRanges", "internal/bytealg.MaxLen", "loop.example/separation/impl.termNames"], apart := false, laid := [("unicode/utf8.acceptRanges", laid_unicode_utf8_acceptRanges), ("loop.example/separation/impl.termNames", laid_loop_example_separation_impl_termNames), ("unicode/utf8.first", laid_unicode_utf8_first)] }
def FnExactParseContractSaid : Prop := fnExactParseContractRow.holds Tryd.pinned (OpenSpec.ofChange fnExactParseContractSpec)

/-- ITS FALSE NEIGHBOUR: 'it returns false'. Refute it at one input. -/
def fnExactParseContractWrong : ChangeSpec := { name := "fnExactParseContract", vars := ["loop.example/separation/impl.termNames"], fn := fun _ => fun
  | [d, g1] => { results := [.lit (.bool false)], args := [d], vars := [g1] }
  | _ => none }
def FnExactParseContractWrongFalsely : Prop := fnExactParseContractRow.holds Tryd.pinned (OpenSpec.ofChange fnExactParseContractWrong)

/-- 'laws.FnExactParseProgram': WHATEVER THE INPUT: true; the input reads as it did. -/
def fnExactParseProgramSpec : ChangeSpec := { name := "fnExactParseProgram", vars := ["loop.example/separation/impl.termNames"], fn := fun _ => fun
  | [d, g1] => { results := [.lit (.bool true)], args := [d], vars := [g1] }
  | _ => none }
def fnExactParseProgramRow : OpenClaim := { program := "ytjbboklnegfohaadoor", sum := "05a00900e4d2cd27427b3405be1fd730b8e9650c2f3f739df81d34591207b93f", func := "loop.example/separation/laws.FnExactParseProgram", spec := "fnExactParseProgram", inPlace := ["internal/bytealg.IndexByteString", "internal/bytealg.IndexString", "internal/bytealg.CountString"], recurses := true, named := ["internal/bytealg.MaxLen", "loop.example/separation/impl.termNames", "unicode/utf8.first", "unicode/utf8.acceptRanges"], apart := false, laid := [("unicode/utf8.acceptRanges", laid_unicode_utf8_acceptRanges), ("loop.example/separation/impl.termNames", laid_loop_example_separation_impl_termNames), ("unicode/utf8.first", laid_unicode_utf8_first)] }
def FnExactParseProgramSaid : Prop := fnExactParseProgramRow.holds Tryd.pinned (OpenSpec.ofChange fnExactParseProgramSpec)

/-- ITS FALSE NEIGHBOUR: 'it returns false'. Refute it at one input. -/
def fnExactParseProgramWrong : ChangeSpec := { name := "fnExactParseProgram", vars := ["loop.example/separation/impl.termNames"], fn := fun _ => fun
  | [d, g1] => { results := [.lit (.bool false)], args := [d], vars := [g1] }
  | _ => none }
def FnExactParseProgramWrongFalsely : Prop := fnExactParseProgramRow.holds Tryd.pinned (OpenSpec.ofChange fnExactParseProgramWrong)

/- THE SECOND FORM. 'bulk': how many values and letters a reading holds, each counted each time it is reached (what is shared counts as often as it is met; a slice's spare places count too). A statement '..UptoSaid' is the law's where the arguments, and the package variables that the reading takes, are together of bulk at most 1048576: NARROWER than '..Said'. Prove '..Said' where nothing that the law and all that it calls make is longer than what came in: it says more and counts as full. Else prove '..UptoSaid'. A law counts once. -/
mutual
def uptoBulk {H : Type} : DataW H → Nat
  | .lit (.string bytes) => bytes.length + 1
  | .lit _ => 1
  | .nil => 1
  | .ptr d => uptoBulk d + 1
  | .slice elems spare => uptoBulkAll elems + uptoBulkAll spare + 1
  | .agg parts => uptoBulkAll parts + 1
  | .iface _ d => uptoBulk d + 1
  | .map entries => uptoBulkEntries entries + 1
  | .held _ => 1
def uptoBulkAll {H : Type} : List (DataW H) → Nat
  | [] => 0
  | d :: r => uptoBulk d + uptoBulkAll r
def uptoBulkEntries {H : Type} : List (Lit × DataW H) → Nat
  | [] => 0
  | x :: r => uptoBulkEntry x + uptoBulkEntries r
def uptoBulkEntry {H : Type} : Lit × DataW H → Nat
  | (.string bytes, d) => bytes.length + uptoBulk d + 1
  | (_, d) => uptoBulk d + 1
 end
def uptoSmall : (H : Type) → List (DataW H) → Bool := fun _ ds => decide (uptoBulkAll ds ≤ 1048576)
def OpenSpec.upto (s : _root_.Go.ChangeSpec) : _root_.Go.OpenSpec := { _root_.Go.OpenSpec.ofChange s with cond := some uptoSmall }

/-- 'laws.FnExactFormatContract', WHERE WHAT IT READS IS OF BULK AT MOST 1048576: true; the input reads as it did. -/
def fnExactFormatContractUptoRow : OpenClaim := { program := "ytjbboklnegfohaadoor", sum := "05a00900e4d2cd27427b3405be1fd730b8e9650c2f3f739df81d34591207b93f", func := "loop.example/separation/laws.FnExactFormatContract", spec := "fnExactFormatContract", inPlace := ["internal/abi.NoEscape", "internal/bytealg.MakeNoZero"], named := ["loop.example/separation/impl.termNames"], apart := false, laid := [("loop.example/separation/impl.termNames", laid_loop_example_separation_impl_termNames)], narrowed := true }
def FnExactFormatContractUptoSaid : Prop := fnExactFormatContractUptoRow.holds Tryd.pinned (OpenSpec.upto fnExactFormatContractSpec)

/-- 'laws.FnExactParseContract', WHERE WHAT IT READS IS OF BULK AT MOST 1048576: true; the input reads as it did. -/
def fnExactParseContractUptoRow : OpenClaim := { program := "ytjbboklnegfohaadoor", sum := "05a00900e4d2cd27427b3405be1fd730b8e9650c2f3f739df81d34591207b93f", func := "loop.example/separation/laws.FnExactParseContract", spec := "fnExactParseContract", inPlace := ["internal/bytealg.CountString", "internal/bytealg.IndexByteString", "internal/bytealg.IndexString"], named := ["unicode/utf8.first", "unicode/utf8.acceptRanges", "internal/bytealg.MaxLen", "loop.example/separation/impl.termNames"], apart := false, laid := [("unicode/utf8.acceptRanges", laid_unicode_utf8_acceptRanges), ("loop.example/separation/impl.termNames", laid_loop_example_separation_impl_termNames), ("unicode/utf8.first", laid_unicode_utf8_first)], narrowed := true }
def FnExactParseContractUptoSaid : Prop := fnExactParseContractUptoRow.holds Tryd.pinned (OpenSpec.upto fnExactParseContractSpec)

/-- 'laws.FnExactParseProgram', WHERE WHAT IT READS IS OF BULK AT MOST 1048576: true; the input reads as it did. -/
def fnExactParseProgramUptoRow : OpenClaim := { program := "ytjbboklnegfohaadoor", sum := "05a00900e4d2cd27427b3405be1fd730b8e9650c2f3f739df81d34591207b93f", func := "loop.example/separation/laws.FnExactParseProgram", spec := "fnExactParseProgram", inPlace := ["internal/bytealg.IndexByteString", "internal/bytealg.IndexString", "internal/bytealg.CountString"], recurses := true, named := ["internal/bytealg.MaxLen", "loop.example/separation/impl.termNames", "unicode/utf8.first", "unicode/utf8.acceptRanges"], apart := false, laid := [("unicode/utf8.acceptRanges", laid_unicode_utf8_acceptRanges), ("loop.example/separation/impl.termNames", laid_loop_example_separation_impl_termNames), ("unicode/utf8.first", laid_unicode_utf8_first)], narrowed := true }
def FnExactParseProgramUptoSaid : Prop := fnExactParseProgramUptoRow.holds Tryd.pinned (OpenSpec.upto fnExactParseProgramSpec)

end Rows
end Go.Proofs.YtjbboklnegfohaaDoor
