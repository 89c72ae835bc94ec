/- Reading an assertion out of a list of our own; comparing lists of assertions (the law's slAssertions). -/
import Derived.Test.YtlmjjflalmegfaaGreatExpD
import Derived.Test.YtlmjjflalmegfaaGreatSame
set_option linter.unusedSimpArgs false
set_option linter.unusedVariables false
namespace Go.Proofs.YtlmjjflalmegfaaGreat
open Go Go.RowKit Go.Proofs
attribute [local go_sem ↓] Go.wp_at_zero Go.wp_at_succ

theorem AsnV.mono0 {w : World} {lo hi : Nat} {v : Value} {a : Asn} (h : AsnV w lo hi v a) (hh : hi ≤ w.heap.size) : AsnV w 0 w.heap.size v a := by
  obtain ⟨A1, c1, A2, c2, e, h1, h2⟩ := h
  exact ⟨A1, c1, A2, c2, e, h1.mono (Nat.zero_le _) hh, h2.mono (Nat.zero_le _) hh⟩
theorem A2O.atC {w : World} {base n c : Nat} {A : Option Addr} {vs : List Value} {ss : List Asn} (h : A2O w base (.slice A n c) vs ss) {k : Nat} (hk : k < ss.length) : ∃ b o B c D d, A = some ⟨b, o, none⟩ ∧ b < w.heap.size ∧ w.cell? ⟨b, o + k*2, none⟩ = some (.slice B ss[k].facts.length c) ∧ w.cell? ⟨b, o + k*2 + 1, none⟩ = some (.slice D ss[k].atoms.length d) ∧ AsnC w base w.heap.size (.agg #[.slice B ss[k].facts.length c, .slice D ss[k].atoms.length d]) ss[k] := by
  have h1 := h.rd
  have hl : vs.length = ss.length * 2 := h1.raw.1
  have hr := rowsA_len ss
  obtain ⟨b, o, e, -, -, hc⟩ := h1.raw.form (by omega)
  obtain ⟨g1, g2⟩ := rowsA_get ss k hk
  have r1 := h.els.at_ (k*2) (by omega) (by omega)
  have r2 := h.els.at_ (k*2+1) (by omega) (by omega)
  have x1 : (rowsA ss)[k*2]'(by omega) = .inl ss[k].facts := by rw [List.getElem?_eq_getElem (by omega)] at g1; exact Option.some.inj g1
  have x2 : (rowsA ss)[k*2+1]'(by omega) = .inr ss[k].atoms := by rw [List.getElem?_eq_getElem (by omega)] at g2; exact Option.some.inj g2
  rw [x1] at r1
  rw [x2] at r2
  have c1 := hc (k*2) _ (List.getElem?_eq_getElem (by omega))
  have c2 := hc (k*2+1) _ (List.getElem?_eq_getElem (by omega))
  have r1 : FactsO w base vs[k*2] ss[k].facts := r1
  have r2 : AtomsO w base vs[k*2+1] ss[k].atoms := r2
  obtain ⟨B, c, e1, -⟩ := r1.reads
  obtain ⟨D, d, e2, -⟩ := r2.reads
  rw [e1] at c1 r1
  rw [e2] at c2 r2
  exact ⟨b, o, B, c, D, d, e, block_lt_of_cell c1, c1, c2, AsnO.C ⟨_, _, rfl, r1, r2⟩⟩
--@ impl.AssertionSame
end Go.Proofs.YtlmjjflalmegfaaGreat
