/- Programs opened: what can be read as data reads as a list of commands. -/
import Derived.Test.YteogcababfenfaaGreatProg
import Derived.Test.YteogcababfenfaaGreatMCmd
set_option linter.unusedSimpArgs false
set_option linter.unusedVariables false
namespace Go.Proofs.YteogcababfenfaaGreat
open Go Go.RowKit Go.Proofs Go.ChangeShapes Go.WideShapes Go.ChangeAt Go.Deep

theorem form10 {α : Type} {l : List α} (h : l.length = 10) : ∃ a b c d e f g i j k, l = [a, b, c, d, e, f, g, i, j, k] := by
  match l, h with
  | [a, b, c, d, e, f, g, i, j, k], _ => exact ⟨a, b, c, d, e, f, g, i, j, k, rfl⟩
/-- one command's own cells -/
def CmdAt (w : World) (lo hi : Nat) (bl o : Nat) : Prop := ∃ (k a b : Int) (t : Fct) (i : Asn) (body els : Cms), CmsAt w lo hi (.cons k a b t i body els .nil) bl o ∧ (Cms.cons k a b t i body els .nil).small 9223372036854775807
theorem cms_build {w : World} {lo hi bl : Nat} : ∀ (n o : Nat), (∀ i, i < n → CmdAt w lo hi bl (o + i * 10)) → ∃ L : Cms, L.len = n ∧ CmsAt w lo hi L bl o ∧ L.small 9223372036854775807
  | 0, o, _ => ⟨.nil, rfl, trivial, trivial⟩
  | n + 1, o, h => by
    obtain ⟨k, a, b, t, i, body, els, h0, hs⟩ := h 0 (by omega)
    obtain ⟨r, hr, hat, hsr⟩ := cms_build n (o + 10) (fun i hi => by have := h (i + 1) (by omega); rwa [show o + (i + 1) * 10 = o + 10 + i * 10 from by omega] at this)
    rw [Nat.zero_mul, Nat.add_zero] at h0
    exact ⟨.cons k a b t i body els r, by simp [Cms.len, hr], ⟨h0.1, h0.2.1, h0.2.2.1, h0.2.2.2.1, h0.2.2.2.2.1, hat⟩, hs.1, hs.2.1, hs.2.2.1, hs.2.2.2.1, hs.2.2.2.2.1, hs.2.2.2.2.2.1, hsr⟩
section
variable {H : Type} {enc : TypeId × Value → H} {w : World} {base : Nat} {spare : Nat → Bool} {held : Bool}
theorem tr_struct7n {P : Program} {t : TypeId} {f0 f1 f2 f3 f4 f5 f6 : Field} {fuel : Nat} {cs : List Value} {x : DataW H × List MemPlace} (ht : P.underlying t = some (.struct #[f0, f1, f2, f3, f4, f5, f6])) (h : DataW.trod enc P w base spare held fuel t cs = some x) :
    ∃ n, fuel = n + 1 ∧ cs.length = P.cellsOf t ∧ (∃ y, DataW.trod enc P w base spare held n f0.type ((cs.drop f0.offset).take (P.cellsOf f0.type)) = some y) ∧ (∃ y, DataW.trod enc P w base spare held n f1.type ((cs.drop f1.offset).take (P.cellsOf f1.type)) = some y) ∧ (∃ y, DataW.trod enc P w base spare held n f2.type ((cs.drop f2.offset).take (P.cellsOf f2.type)) = some y) ∧ (∃ y, DataW.trod enc P w base spare held n f3.type ((cs.drop f3.offset).take (P.cellsOf f3.type)) = some y) ∧ (∃ y, DataW.trod enc P w base spare held n f4.type ((cs.drop f4.offset).take (P.cellsOf f4.type)) = some y) ∧ (∃ y, DataW.trod enc P w base spare held n f5.type ((cs.drop f5.offset).take (P.cellsOf f5.type)) = some y) ∧ (∃ y, DataW.trod enc P w base spare held n f6.type ((cs.drop f6.offset).take (P.cellsOf f6.type)) = some y) := by
  obtain ⟨xs, n, hfuel, _, hl, hlen, hf⟩ := DataW.trod_struct ht h
  have get : ∀ (i : Nat) (f : Field), #[f0, f1, f2, f3, f4, f5, f6][i]? = some f → ∃ y, DataW.trod enc P w base spare held n f.type ((cs.drop f.offset).take (P.cellsOf f.type)) = some y := fun i f hi => ⟨_, (hf i f hi).trans (List.getElem?_eq_getElem (by rw [hlen]; exact (Array.getElem?_eq_some_iff.1 hi).1))⟩
  exact ⟨n, hfuel, hl, get 0 f0 rfl, get 1 f1 rfl, get 2 f2 rfl, get 3 f3 rfl, get 4 f4 rfl, get 5 f5 rfl, get 6 f6 rfl⟩
--@ laws.Cmd
/-- the cells of a command -/
def CmdR (w : World) (cs : List Value) : Prop := ∃ (k a b : Int) (t : Fct) (i : Asn) (A1 : Option Addr) (c1 : Nat) (A2 : Option Addr) (c2 : Nat) (A3 : Option Addr) (c3 : Nat) (body : Cms) (A4 : Option Addr) (c4 : Nat) (els : Cms),
  cs = [.int .i64 k, .int .i64 a, .int .i64 b, .bool t.eq, .int .i64 t.a, .int .i64 t.b, .slice A1 i.facts.length c1, .slice A2 i.atoms.length c2, .slice A3 body.len c3, .slice A4 els.len c4] ∧
    FactsR w A1 i.facts ∧ AtomsR w A2 i.atoms ∧ CmsV w 0 w.heap.size A3 body ∧ CmsV w 0 w.heap.size A4 els ∧ body.len ≤ 9223372036854775807 ∧ els.len ≤ 9223372036854775807 ∧ body.small 9223372036854775807 ∧ els.small 9223372036854775807
theorem CmdR.at {cs : List Value} (h : CmdR w cs) {bl o : Nat} (hc : ∀ j, j < 10 → w.cell? ⟨bl, o + j, none⟩ = cs[j]?) : CmdAt w 0 w.heap.size bl o := by
  obtain ⟨k, a, b, t, i, A1, c1, A2, c2, A3, c3, body, A4, c4, els, rfl, g1, g2, g3, g4, u3, u4, s3, s4⟩ := h
  exact ⟨k, a, b, t, i, body, els, ⟨⟨hc 0 (by omega), hc 1 (by omega), hc 2 (by omega), hc 3 (by omega), hc 4 (by omega), hc 5 (by omega)⟩, ⟨A1, c1, hc 6 (by omega), g1.1⟩, ⟨A2, c2, hc 7 (by omega), g2.1⟩, ⟨A3, c3, hc 8 (by omega), g3⟩, ⟨A4, c4, hc 9 (by omega), g4⟩, trivial⟩, ⟨g1.2, g2.2, u3, u4, s3, s4, trivial⟩⟩
--@
end
--@ laws.Cmd
--@
end Go.Proofs.YteogcababfenfaaGreat
