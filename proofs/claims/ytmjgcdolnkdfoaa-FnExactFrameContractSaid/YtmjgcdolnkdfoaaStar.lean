/- The spec's joined assertions. -/
import Derived.Test.YtmjgcdolnkdfoaaRow
set_option linter.unusedSimpArgs false
set_option linter.unusedVariables false
namespace Go.Proofs.Ytmjgcdolnkdfoaa
open Go Go.RowKit Go.Proofs
attribute [local go_sem ↓] Go.wp_at_zero Go.wp_at_succ

--@ spec.l3Star
set_option maxRecDepth 100000 in
set_option maxHeartbeats 1600000 in
theorem c_spec_l3Star {lo hi lo' hi' : Nat} (v v' : Value) (a b : Asn) (w : World) (h : AsnV w lo hi v a) (h' : AsnV w lo' hi' v' b) (hn1 : a.facts.length + b.facts.length ≤ 1049600) (hn2 : a.atoms.length + b.atoms.length ≤ 1049600) :
    Calls Try.prog 125 #[v, v'] w fun e w' => ∃ r, e = .returned r ∧ AsnO w' w.heap.size r (starA a b) ∧ Below w.heap.size w w' := by
  obtain ⟨A1, c1, A2, c2, rfl, h1, h2⟩ := h
  obtain ⟨A3, c3, A4, c4, rfl, h3, h4⟩ := h'
  go_enter Try.func125, Try.ntmps125
  have kk := blk3 w 26 26 26 #[.slice A1 a.facts.length c1, .slice A2 a.atoms.length c2] #[.slice A3 b.facts.length c3, .slice A4 b.atoms.length c4] #[.slice none 0 0, .slice none 0 0]
  have hB : Below w.heap.size w (((w.alloc (.cells #[.slice A1 a.facts.length c1, .slice A2 a.atoms.length c2] 26)).alloc (.cells #[.slice A3 b.facts.length c3, .slice A4 b.atoms.length c4] 26)).alloc (.cells #[.slice none 0 0, .slice none 0 0] 26)) := bel
  obtain ⟨k0, k1, k2⟩ := kk
  go_wp2_with fail
  have hz := k2.lt
  generalize (((w.alloc (.cells #[.slice A1 a.facts.length c1, .slice A2 a.atoms.length c2] 26)).alloc (.cells #[.slice A3 b.facts.length c3, .slice A4 b.atoms.length c4] 26)).alloc (.cells #[.slice none 0 0, .slice none 0 0] 26)) = W at k0 k1 k2 hB hz ⊢
  have tok3 : True := trivial
  have tok6 : True := trivial
  have tok10 : True := trivial
  have tok13 : True := trivial
  go_region_held3 (fun w' => (∀ i, w'.cell? ⟨w.heap.size, i, none⟩ = #[.slice A1 a.facts.length c1, .slice A2 a.atoms.length c2][i]?) ∧ (∀ i, w'.cell? ⟨w.heap.size + 1, i, none⟩ = #[.slice A3 b.facts.length c3, .slice A4 b.atoms.length c4][i]?))
    (exact ⟨Blk.cell blks, Blk.cell blks⟩)
    (first
      | (have _t := tok3; clear _t tok3; refine stepFL (xs := []) rfl _ _ rfl rfl (FactsO.ofBlk (base := w.heap.size) blks (by first | omega | (simp; omega))) rfl (h1.below bel) (by first | omega | (simp; omega)) (by first | omega | (simp; omega)) ?_; intro F1 e1 w1 hO1 hg1 hB1; have hBw1 : Below w.heap.size w w1 := Below.trans bel hB1; simp only [List.nil_append] at hO1; have m10 := Blk.grownO (g := w.heap.size) (hg := hg1) blks (FactsO.ofBlk (base := w.heap.size) blks (by first | omega | (simp; omega))).1 (by decide); have m11 := Blk.grownO (g := w.heap.size + 1) (hg := hg1) blks (FactsO.ofBlk (base := w.heap.size) blks (by first | omega | (simp; omega))).1 (by decide); have m12 := Blk.grownO (g := w.heap.size + 1 + 1) (hg := hg1) blks (FactsO.ofBlk (base := w.heap.size) blks (by first | omega | (simp; omega))).1 (by decide); have lt1 := m12.lt; (try (have za : Blk w1 (W.heap.size + 1) tA #[] := ?zz; case zz => (refine Blk.grownO (hg := hg1) ?_ (FactsO.ofBlk (base := w.heap.size) blks (by first | omega | (simp; omega))).1 (by decide); (repeat (first | (with_reducible assumption) | (with_reducible exact Blk.new _ _ _) | ((with_reducible apply Blk.far); (case hp => (first | exact Nat.le_refl _ | (simp; done) | (simp; omega) | (simp only; omega) | omega))) | (with_reducible apply Blk.set_) | ((with_reducible refine Blk.newE ?_); (simp; done)) | (with_reducible apply Blk.alloc) | (with_reducible apply Blk.drew) | (with_reducible apply Blk.drewN))); done))); (try (have za : Blk w1 W.heap.size tA #[] := ?zz; case zz => (refine Blk.grownO (hg := hg1) ?_ (FactsO.ofBlk (base := w.heap.size) blks (by first | omega | (simp; omega))).1 (by decide); (repeat (first | (with_reducible assumption) | (with_reducible exact Blk.new _ _ _) | ((with_reducible apply Blk.far); (case hp => (first | exact Nat.le_refl _ | (simp; done) | (simp; omega) | (simp only; omega) | omega))) | (with_reducible apply Blk.set_) | ((with_reducible refine Blk.newE ?_); (simp; done)) | (with_reducible apply Blk.alloc) | (with_reducible apply Blk.drew) | (with_reducible apply Blk.drewN))); done))))
      | (have _t := tok6; clear _t tok6; refine stepFL (xs := a.facts) rfl _ _ rfl rfl (FactsO.below (w := w1) hO1 bel) rfl (h3.below bel) (by first | omega | (simp; omega)) (by first | omega | (simp; omega)) ?_; intro F2 e2 w2 hO2 hg2 hB2; have hBw2 : Below w.heap.size w w2 := Below.trans bel hB2; have m20 := Blk.grownO (g := w.heap.size) (hg := hg2) blks (FactsO.below (w := w1) hO1 bel).1 (by decide); have m21 := Blk.grownO (g := w.heap.size + 1) (hg := hg2) blks (FactsO.below (w := w1) hO1 bel).1 (by decide); have m22 := Blk.grownO (g := w.heap.size + 1 + 1) (hg := hg2) blks (FactsO.below (w := w1) hO1 bel).1 (by decide); have lt2 := m22.lt; (try (have zb : Blk w2 w1.heap.size tA #[] := ?zz; case zz => (refine Blk.grownO (hg := hg2) ?_ (FactsO.below (w := w1) hO1 bel).1 (by decide); (repeat (first | (with_reducible assumption) | (with_reducible exact Blk.new _ _ _) | ((with_reducible apply Blk.far); (case hp => (first | exact Nat.le_refl _ | (simp; done) | (simp; omega) | (simp only; omega) | omega))) | (with_reducible apply Blk.set_) | ((with_reducible refine Blk.newE ?_); (simp; done)) | (with_reducible apply Blk.alloc) | (with_reducible apply Blk.drew) | (with_reducible apply Blk.drewN))); done))); (try (have zb := Blk.grownO (hg := hg2) (Blk.next za bel) (FactsO.below (w := w1) hO1 bel).1 (by decide))))
      | (have _t := tok10; clear _t tok10; refine stepAL (xs := []) rfl _ _ rfl rfl (AtomsO.ofBlk (base := w.heap.size) blks (by first | omega | (simp; omega))) rfl (h2.below bel) (by first | omega | (simp; omega)) (by first | omega | (simp; omega)) ?_; intro F3 e3 w3 hO3 hg3 hB3; have hBw3 : Below w.heap.size w w3 := Below.trans bel hB3; simp only [List.nil_append] at hO3; have m30 := Blk.grownO (g := w.heap.size) (hg := hg3) blks (AtomsO.ofBlk (base := w.heap.size) blks (by first | omega | (simp; omega))).1 (by decide); have m31 := Blk.grownO (g := w.heap.size + 1) (hg := hg3) blks (AtomsO.ofBlk (base := w.heap.size) blks (by first | omega | (simp; omega))).1 (by decide); have m32 := Blk.grownO (g := w.heap.size + 1 + 1) (hg := hg3) blks (AtomsO.ofBlk (base := w.heap.size) blks (by first | omega | (simp; omega))).1 (by decide); have lt3 := m32.lt; have hP3 := FactsO.grownA (FactsO.below (w := w2) hO2 bel) (AtomsO.ofBlk (base := w.heap.size) blks (by first | omega | (simp; omega))) hg3)
      | (have _t := tok13; clear _t tok13; refine stepAL (xs := a.atoms) rfl _ _ rfl rfl (AtomsO.below (w := w3) hO3 bel) rfl (h4.below bel) (by first | omega | (simp; omega)) (by first | omega | (simp; omega)) ?_; intro F4 e4 w4 hO4 hg4 hB4; have hBw4 : Below w.heap.size w w4 := Below.trans bel hB4; have m40 := Blk.grownO (g := w.heap.size) (hg := hg4) blks (AtomsO.below (w := w3) hO3 bel).1 (by decide); have m41 := Blk.grownO (g := w.heap.size + 1) (hg := hg4) blks (AtomsO.below (w := w3) hO3 bel).1 (by decide); have m42 := Blk.grownO (g := w.heap.size + 1 + 1) (hg := hg4) blks (AtomsO.below (w := w3) hO3 bel).1 (by decide); have lt4 := m42.lt; have hP4 := FactsO.grownA (FactsO.below (w := w3) hP3 bel) (AtomsO.below (w := w3) hO3 bel) hg4; have c42 := m42.cell; have f42 := m42.frozen))
  all_goals
    go_wp2_with fail
    refine bodyPost_ret (v := .agg #[.slice F2 (a.facts ++ b.facts).length e2, .slice F4 (a.atoms ++ b.atoms).length e4]) (by simp [results, Try.results125, go_sem, c42]) rfl ⟨_, rfl, ⟨_, _, rfl, ?_, ?_⟩, bel⟩
    · exact (hP4.setT m42 (by decide) _ _).setT (m42.set_ _ _) (by decide) _ _
    · exact (hO4.setT m42 (by decide) _ _).setT (m42.set_ _ _) (by decide) _ _
end Go.Proofs.Ytmjgcdolnkdfoaa
