/- Programs opened: what can be read as data reads as a list of commands. -/
import Derived.Test.YteogcababfenfaaGreatProg
import Derived.Test.YteogcababfenfaaGreatMCmd
set_option linter.unusedSimpArgs false
set_option linter.unusedVariables false
namespace Go.Proofs.YteogcababfenfaaGreat
open Go Go.RowKit Go.Proofs Go.ChangeShapes Go.WideShapes Go.ChangeAt Go.Deep

/-- one command's own cells -/
def CmdAt (w : World) (lo hi : Nat) (bl o : Nat) : Prop := ∃ (k a b : Int) (t : Fct) (i : Asn) (body els : Cms), CmsAt w lo hi (.cons k a b t i body els .nil) bl o ∧ (Cms.cons k a b t i body els .nil).small 9223372036854775807
section
variable {H : Type} {enc : TypeId × Value → H} {w : World} {base : Nat} {spare : Nat → Bool} {held : Bool}
/-- the cells of a command -/
def CmdR (w : World) (cs : List Value) : Prop := ∃ (k a b : Int) (t : Fct) (i : Asn) (A1 : Option Addr) (c1 : Nat) (A2 : Option Addr) (c2 : Nat) (A3 : Option Addr) (c3 : Nat) (body : Cms) (A4 : Option Addr) (c4 : Nat) (els : Cms),
  cs = [.int .i64 k, .int .i64 a, .int .i64 b, .bool t.eq, .int .i64 t.a, .int .i64 t.b, .slice A1 i.facts.length c1, .slice A2 i.atoms.length c2, .slice A3 body.len c3, .slice A4 els.len c4] ∧
    FactsR w A1 i.facts ∧ AtomsR w A2 i.atoms ∧ CmsV w 0 w.heap.size A3 body ∧ CmsV w 0 w.heap.size A4 els ∧ body.len ≤ 9223372036854775807 ∧ els.len ≤ 9223372036854775807 ∧ body.small 9223372036854775807 ∧ els.small 9223372036854775807
theorem CmdR.at {cs : List Value} (h : CmdR w cs) {bl o : Nat} (hc : ∀ j, j < 10 → w.cell? ⟨bl, o + j, none⟩ = cs[j]?) : CmdAt w 0 w.heap.size bl o := by
  obtain ⟨k, a, b, t, i, A1, c1, A2, c2, A3, c3, body, A4, c4, els, rfl, g1, g2, g3, g4, u3, u4, s3, s4⟩ := h
  exact ⟨k, a, b, t, i, body, els, ⟨⟨hc 0 (by omega), hc 1 (by omega), hc 2 (by omega), hc 3 (by omega), hc 4 (by omega), hc 5 (by omega)⟩, ⟨A1, c1, hc 6 (by omega), g1.1⟩, ⟨A2, c2, hc 7 (by omega), g2.1⟩, ⟨A3, c3, hc 8 (by omega), g3⟩, ⟨A4, c4, hc 9 (by omega), g4⟩, trivial⟩, ⟨g1.2, g2.2, u3, u4, s3, s4, trivial⟩⟩
--@
end
--@ laws.Cmd
--@
end Go.Proofs.YteogcababfenfaaGreat
