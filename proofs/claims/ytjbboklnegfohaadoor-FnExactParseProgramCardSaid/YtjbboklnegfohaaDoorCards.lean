/-
  DERIVED. GIVEN WITH THE SEED: THE CARDS: each row of YtjbboklnegfohaaDoorRows.lean that lists a variable, with what it lists TIED to the program's text (the seventh form; the later family's looks); each row that meets fmt, with fmt's text TOLD by the authors' own Lean function (tested against real Go, not proved from fmt's source: count such statements apart). THE CARD IS WHAT COUNTS. Prove the row's statement (the work); the ties are given (YtjbboklnegfohaaDoorTie.lean); close each card by the builder's one call (the guide's Derived/Test/ToyasCard.lean, 'card_holds'). Laid BY PROGRAM, IN A SANDBOX (cutbox-door.mjs). By AI agents, Wed Nov 11 2026. No macro, syntax, notation, axiom, sorry.
-/
import Derived.Test.YtjbboklnegfohaaDoorRows
import GoSem.ClaimSeven
namespace Go.Proofs.YtjbboklnegfohaaDoor
namespace Rows

/-- THE TIED CARD OF 'laws.FnExactFormatContract'. -/
def fnExactFormatContractCard : Claim7 := { stood := { row := fnExactFormatContractRow, standIns := [], harness := (true, "43fe65465a87341e331777c3cb27335340518d3e2bcea84a0871fc2c2df2da27"), looks := false }, kinds := [], alts := [], laidByText := true, laidKinds := [.data], laidTests := true, laidLooks := .later }
def FnExactFormatContractCardSaid : Prop := Claim7.holds Tryd.pinned (.plain (OpenSpec.ofChange fnExactFormatContractSpec)) fnExactFormatContractCard

/-- THE TIED CARD OF 'laws.FnExactParseContract'. -/
def fnExactParseContractCard : Claim7 := { stood := { row := fnExactParseContractRow, standIns := [], harness := (true, "43fe65465a87341e331777c3cb27335340518d3e2bcea84a0871fc2c2df2da27"), looks := false }, kinds := [], alts := [], laidByText := true, laidKinds := [.data, .data, .pinned], laidTests := true, laidLooks := .later }
def FnExactParseContractCardSaid : Prop := Claim7.holds Tryd.pinned (.plain (OpenSpec.ofChange fnExactParseContractSpec)) fnExactParseContractCard

/-- THE TIED CARD OF 'laws.FnExactParseProgram'. -/
def fnExactParseProgramCard : Claim7 := { stood := { row := fnExactParseProgramRow, standIns := [], harness := (true, "43fe65465a87341e331777c3cb27335340518d3e2bcea84a0871fc2c2df2da27"), looks := false }, kinds := [], alts := [], laidByText := true, laidKinds := [.data, .data, .pinned], laidTests := true, laidLooks := .later }
def FnExactParseProgramCardSaid : Prop := Claim7.holds Tryd.pinned (.plain (OpenSpec.ofChange fnExactParseProgramSpec)) fnExactParseProgramCard

/-- THE SECOND FORM's CARD OF 'laws.FnExactFormatContract'. -/
def fnExactFormatContractUptoCard : Claim7 := { stood := { row := fnExactFormatContractUptoRow, standIns := [], harness := (true, "43fe65465a87341e331777c3cb27335340518d3e2bcea84a0871fc2c2df2da27"), looks := false }, kinds := [], alts := [], laidByText := true, laidKinds := [.data], laidTests := true, laidLooks := .later }
def FnExactFormatContractUptoCardSaid : Prop := Claim7.holds Tryd.pinned (.plain (OpenSpec.upto fnExactFormatContractSpec)) fnExactFormatContractUptoCard

/-- THE SECOND FORM's CARD OF 'laws.FnExactParseContract'. -/
def fnExactParseContractUptoCard : Claim7 := { stood := { row := fnExactParseContractUptoRow, standIns := [], harness := (true, "43fe65465a87341e331777c3cb27335340518d3e2bcea84a0871fc2c2df2da27"), looks := false }, kinds := [], alts := [], laidByText := true, laidKinds := [.data, .data, .pinned], laidTests := true, laidLooks := .later }
def FnExactParseContractUptoCardSaid : Prop := Claim7.holds Tryd.pinned (.plain (OpenSpec.upto fnExactParseContractSpec)) fnExactParseContractUptoCard

/-- THE SECOND FORM's CARD OF 'laws.FnExactParseProgram'. -/
def fnExactParseProgramUptoCard : Claim7 := { stood := { row := fnExactParseProgramUptoRow, standIns := [], harness := (true, "43fe65465a87341e331777c3cb27335340518d3e2bcea84a0871fc2c2df2da27"), looks := false }, kinds := [], alts := [], laidByText := true, laidKinds := [.data, .data, .pinned], laidTests := true, laidLooks := .later }
def FnExactParseProgramUptoCardSaid : Prop := Claim7.holds Tryd.pinned (.plain (OpenSpec.upto fnExactParseProgramSpec)) fnExactParseProgramUptoCard
end Rows
end Go.Proofs.YtjbboklnegfohaaDoor
