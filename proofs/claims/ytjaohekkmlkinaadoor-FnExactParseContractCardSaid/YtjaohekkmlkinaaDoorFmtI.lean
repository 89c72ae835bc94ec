/- Contracts: the texts of terms, facts and atoms (impl). -/
import Derived.Test.YtjaohekkmlkinaaDoorStrF
set_option linter.unusedSimpArgs false
set_option linter.unusedVariables false
namespace Go.Proofs.YtjaohekkmlkinaaDoor
open Go Go.RowKit Go.Proofs
def TN (w:World):Prop:=0<w.heap.size∧∀ i:Nat,i<9→w.cell? ⟨0,i,none⟩=some (sv (tnameL i))
theorem TN.below {w w':World} (h:TN w) (hb:Below w.heap.size w w'):TN w':=⟨Nat.lt_of_lt_of_le h.1 hb.size,fun i hi=>by rw[(bcell hb).1 0 i h.1];exact h.2 i hi⟩
end Go.Proofs.YtjaohekkmlkinaaDoor
