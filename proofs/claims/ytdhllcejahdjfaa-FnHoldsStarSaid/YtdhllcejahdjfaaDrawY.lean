/- What the reader draws: the arguments of HoldsPart and Holds. -/
import Derived.Test.YtdhllcejahdjfaaDrawX
set_option linter.unusedSimpArgs false
set_option linter.unusedVariables false
namespace Go.Proofs.Ytdhllcejahdjfaa
open Go Go.RowKit Go.Proofs
attribute [local go_sem ↓] Go.wp_at_zero Go.wp_at_succ

--@ spec.DrawHoldsPart
set_option maxRecDepth 100000 in
set_option maxHeartbeats 6400000 in
theorem c_DrawHoldsPart (A : Option Addr) (n c : Nat) (w : World) (h : BytesR w A n c) :
    Calls Try.prog 21 #[.slice A n c] w fun e w' => ∃ r1 r2 s a, e = .returned (.tuple #[r1, r2]) ∧ StateO w' w.heap.size r1 s ∧ AsnO w' w.heap.size r2 a ∧ Below w.heap.size w w' := by
  have HR0 : Hid (BytesR ((w.alloc (.cells #[.slice none 0 0, .slice none 0 0] tSt)).alloc (.cells #[.slice none 0 0, .slice none 0 0] 26)) A n c) := by
    obtain ⟨bs, h1, h2, h3⟩ := h
    exact ⟨bs, h1, (h2.below (bbox (bbox (Below.refl _ _) _) _)).mono (Nat.le_refl _) (by simp; omega), h3⟩
  clear h
  go_enter Try.func21, Try.ntmps21
  have k0 : Blk ((w.alloc (.cells #[.slice none 0 0, .slice none 0 0] tSt)).alloc (.cells #[.slice none 0 0, .slice none 0 0] 26)) w.heap.size tSt #[.slice none 0 0, .slice none 0 0] := (by repeat (first | (with_reducible assumption) | (with_reducible exact Blk.new _ _ _) | ((with_reducible apply Blk.far); (case hp => (first | exact Nat.le_refl _ | (simp; done) | (simp; omega) | (simp only; omega) | omega))) | (with_reducible apply Blk.set_) | ((with_reducible refine Blk.newE ?_); (simp; done)) | (with_reducible apply Blk.alloc) | (with_reducible apply Blk.drew) | (with_reducible apply Blk.drewN)))
  have k1 : Blk ((w.alloc (.cells #[.slice none 0 0, .slice none 0 0] tSt)).alloc (.cells #[.slice none 0 0, .slice none 0 0] 26)) (w.heap.size + 1) 26 #[.slice none 0 0, .slice none 0 0] := (by repeat (first | (with_reducible assumption) | (with_reducible exact Blk.new _ _ _) | ((with_reducible apply Blk.far); (case hp => (first | exact Nat.le_refl _ | (simp; done) | (simp; omega) | (simp only; omega) | omega))) | (with_reducible apply Blk.set_) | ((with_reducible refine Blk.newE ?_); (simp; done)) | (with_reducible apply Blk.alloc) | (with_reducible apply Blk.drew) | (with_reducible apply Blk.drewN)))
  have hB0 : Below w.heap.size w ((w.alloc (.cells #[.slice none 0 0, .slice none 0 0] tSt)).alloc (.cells #[.slice none 0 0, .slice none 0 0] 26)) := (by repeat (first | (with_reducible exact Below.refl _ _) | (with_reducible assumption) | (with_reducible apply bbox) | ((with_reducible apply Below.setCell); (case hp => (first | exact Nat.le_refl _ | (simp; done) | (simp; omega) | (simp only; omega) | omega))) | (with_reducible apply Below.drew) | (with_reducible apply below_drewN)))
  have hs0 : w.heap.size + 2 ≤ ((w.alloc (.cells #[.slice none 0 0, .slice none 0 0] tSt)).alloc (.cells #[.slice none 0 0, .slice none 0 0] 26)).heap.size := by simp
  go_wp2_with fail
  generalize ((w.alloc (.cells #[.slice none 0 0, .slice none 0 0] tSt)).alloc (.cells #[.slice none 0 0, .slice none 0 0] 26)) = W0 at k0 k1 hB0 hs0 HR0 ⊢
  refine (c_l18Open A n c _ HR0.out).mono ?_
  rintro e w1 ⟨g, rfl, hg, hR, hB1⟩
  replace k0 := k0.next hB1
  replace k1 := k1.next hB1
  have HB1 := Lib.hid (bgo hB0 hB1)
  have HR1 := Lib.hid hR
  have lg := hR.lt
  have hz1 := hB1.size
  clear hR hB1 HR0 hB0
  go_wp2_with fail
  refine (c_l4Args g 0 _ HR1.out (by omega)).mono ?_
  rintro e w7 ⟨r1, r2, s6, a7, rfl, o6, o7, hF⟩
  have k07 := k0.fr hF (by omega)
  have k17 := k1.fr hF (by omega)
  have HB7 : Hid (Below w.heap.size w w7) := by
    refine Below.trans HB1.out ?_
    exact hF.below (by omega) (by omega)
  clear hF
  obtain ⟨fv6, av6, rfl, o61, o62, dj6⟩ := o6
  obtain ⟨V6, c6, rfl, -⟩ := o61.reads
  obtain ⟨B6, d6, rfl, -⟩ := o62.reads
  obtain ⟨fv7, av7, rfl, o71, o72⟩ := o7
  obtain ⟨F7, e7, rfl, -⟩ := o71.reads
  obtain ⟨G7, g7, rfl, -⟩ := o72.reads
  have P1 := Lib.hid (o61.lower (base' := w.heap.size) (by omega))
  have P2 := Lib.hid (o62.lower (base' := w.heap.size) (by omega))
  have P3 := Lib.hid (o71.lower (base' := w.heap.size) (by omega))
  have P4 := Lib.hid (o72.lower (base' := w.heap.size) (by omega))
  have DJ := Lib.hid dj6
  have hne01 : w.heap.size ≠ w.heap.size + 1 := by omega
  clear o61 o62 o71 o72 dj6 HR1 k0 k1
  (replace qk07 := k07.cell; replace rk07 := k07.frozen; replace lk07 := k07.lt; replace qk17 := k17.cell; replace rk17 := k17.frozen; replace lk17 := k17.lt)
  go_wp2_with fail
  have j1 := (k17.far (p := ⟨w.heap.size, 0, none⟩) (by simp only; omega) (.slice V6 s6.values.length c6)).far (p := ⟨w.heap.size, 1, none⟩) (by simp only; omega) (.slice B6 s6.heap.length d6)
  refine bodyPost_ret (v := .tuple #[.agg #[.slice V6 s6.values.length c6, .slice B6 s6.heap.length d6], .agg #[.slice F7 a7.facts.length e7, .slice G7 a7.atoms.length g7]]) (by simp [results, Try.results21, go_sem, qk07, qk17, lk07, lk17]) rfl ⟨_, _, s6, a7, rfl, ⟨_, _, rfl, ?_, ?_, DJ.out⟩, ⟨_, _, rfl, ?_, ?_⟩, ?_⟩
  · exact (((P1.out.setT k07 (by decide) 0 _).setT (k07.set_ 0 _) (by decide) 1 _).setT j1 (by decide) 0 _).setT (j1.set_ 0 _) (by decide) 1 _
  · exact (((P2.out.setT k07 (by decide) 0 _).setT (k07.set_ 0 _) (by decide) 1 _).setT j1 (by decide) 0 _).setT (j1.set_ 0 _) (by decide) 1 _
  · exact (((P3.out.setT k07 (by decide) 0 _).setT (k07.set_ 0 _) (by decide) 1 _).setT j1 (by decide) 0 _).setT (j1.set_ 0 _) (by decide) 1 _
  · exact (((P4.out.setT k07 (by decide) 0 _).setT (k07.set_ 0 _) (by decide) 1 _).setT j1 (by decide) 0 _).setT (j1.set_ 0 _) (by decide) 1 _
  · exact (((HB7.out.setCell (p := ⟨w.heap.size, 0, none⟩) (by simp only; omega) _).setCell (p := ⟨w.heap.size, 1, none⟩) (by simp only; omega) _).setCell (p := ⟨w.heap.size + 1, 0, none⟩) (by simp only; omega) _).setCell (p := ⟨w.heap.size + 1, 1, none⟩) (by simp only; omega) _

--@ spec.DrawHolds
set_option maxRecDepth 100000 in
set_option maxHeartbeats 6400000 in
theorem c_DrawHolds (A : Option Addr) (n c : Nat) (w : World) (h : BytesR w A n c) :
    Calls Try.prog 30 #[.slice A n c] w fun e w' => ∃ r1 r2 s a, e = .returned (.tuple #[r1, r2]) ∧ StateO w' w.heap.size r1 s ∧ AsnO w' w.heap.size r2 a ∧ Below w.heap.size w w' := by
  have HR0 : Hid (BytesR ((w.alloc (.cells #[.slice none 0 0, .slice none 0 0] tSt)).alloc (.cells #[.slice none 0 0, .slice none 0 0] 26)) A n c) := by
    obtain ⟨bs, h1, h2, h3⟩ := h
    exact ⟨bs, h1, (h2.below (bbox (bbox (Below.refl _ _) _) _)).mono (Nat.le_refl _) (by simp; omega), h3⟩
  clear h
  go_enter Try.func30, Try.ntmps30
  have k0 : Blk ((w.alloc (.cells #[.slice none 0 0, .slice none 0 0] tSt)).alloc (.cells #[.slice none 0 0, .slice none 0 0] 26)) w.heap.size tSt #[.slice none 0 0, .slice none 0 0] := (by repeat (first | (with_reducible assumption) | (with_reducible exact Blk.new _ _ _) | ((with_reducible apply Blk.far); (case hp => (first | exact Nat.le_refl _ | (simp; done) | (simp; omega) | (simp only; omega) | omega))) | (with_reducible apply Blk.set_) | ((with_reducible refine Blk.newE ?_); (simp; done)) | (with_reducible apply Blk.alloc) | (with_reducible apply Blk.drew) | (with_reducible apply Blk.drewN)))
  have k1 : Blk ((w.alloc (.cells #[.slice none 0 0, .slice none 0 0] tSt)).alloc (.cells #[.slice none 0 0, .slice none 0 0] 26)) (w.heap.size + 1) 26 #[.slice none 0 0, .slice none 0 0] := (by repeat (first | (with_reducible assumption) | (with_reducible exact Blk.new _ _ _) | ((with_reducible apply Blk.far); (case hp => (first | exact Nat.le_refl _ | (simp; done) | (simp; omega) | (simp only; omega) | omega))) | (with_reducible apply Blk.set_) | ((with_reducible refine Blk.newE ?_); (simp; done)) | (with_reducible apply Blk.alloc) | (with_reducible apply Blk.drew) | (with_reducible apply Blk.drewN)))
  have hB0 : Below w.heap.size w ((w.alloc (.cells #[.slice none 0 0, .slice none 0 0] tSt)).alloc (.cells #[.slice none 0 0, .slice none 0 0] 26)) := (by repeat (first | (with_reducible exact Below.refl _ _) | (with_reducible assumption) | (with_reducible apply bbox) | ((with_reducible apply Below.setCell); (case hp => (first | exact Nat.le_refl _ | (simp; done) | (simp; omega) | (simp only; omega) | omega))) | (with_reducible apply Below.drew) | (with_reducible apply below_drewN)))
  have hs0 : w.heap.size + 2 ≤ ((w.alloc (.cells #[.slice none 0 0, .slice none 0 0] tSt)).alloc (.cells #[.slice none 0 0, .slice none 0 0] 26)).heap.size := by simp
  go_wp2_with fail
  generalize ((w.alloc (.cells #[.slice none 0 0, .slice none 0 0] tSt)).alloc (.cells #[.slice none 0 0, .slice none 0 0] 26)) = W0 at k0 k1 hB0 hs0 HR0 ⊢
  refine (c_l18Open A n c _ HR0.out).mono ?_
  rintro e w1 ⟨g, rfl, hg, hR, hB1⟩
  replace k0 := k0.next hB1
  replace k1 := k1.next hB1
  have HB1 := Lib.hid (bgo hB0 hB1)
  have HR1 := Lib.hid hR
  have lg := hR.lt
  have hz1 := hB1.size
  clear hR hB1 HR0 hB0
  go_wp2_with fail
  refine (c_l4Args g 0 _ HR1.out (by omega)).mono ?_
  rintro e w7 ⟨r1, r2, s6, a7, rfl, o6, o7, hF⟩
  have k07 := k0.fr hF (by omega)
  have k17 := k1.fr hF (by omega)
  have HB7 : Hid (Below w.heap.size w w7) := by
    refine Below.trans HB1.out ?_
    exact hF.below (by omega) (by omega)
  clear hF
  obtain ⟨fv6, av6, rfl, o61, o62, dj6⟩ := o6
  obtain ⟨V6, c6, rfl, -⟩ := o61.reads
  obtain ⟨B6, d6, rfl, -⟩ := o62.reads
  obtain ⟨fv7, av7, rfl, o71, o72⟩ := o7
  obtain ⟨F7, e7, rfl, -⟩ := o71.reads
  obtain ⟨G7, g7, rfl, -⟩ := o72.reads
  have P1 := Lib.hid (o61.lower (base' := w.heap.size) (by omega))
  have P2 := Lib.hid (o62.lower (base' := w.heap.size) (by omega))
  have P3 := Lib.hid (o71.lower (base' := w.heap.size) (by omega))
  have P4 := Lib.hid (o72.lower (base' := w.heap.size) (by omega))
  have DJ := Lib.hid dj6
  have hne01 : w.heap.size ≠ w.heap.size + 1 := by omega
  clear o61 o62 o71 o72 dj6 HR1 k0 k1
  (replace qk07 := k07.cell; replace rk07 := k07.frozen; replace lk07 := k07.lt; replace qk17 := k17.cell; replace rk17 := k17.frozen; replace lk17 := k17.lt)
  go_wp2_with fail
  have j1 := (k17.far (p := ⟨w.heap.size, 0, none⟩) (by simp only; omega) (.slice V6 s6.values.length c6)).far (p := ⟨w.heap.size, 1, none⟩) (by simp only; omega) (.slice B6 s6.heap.length d6)
  refine bodyPost_ret (v := .tuple #[.agg #[.slice V6 s6.values.length c6, .slice B6 s6.heap.length d6], .agg #[.slice F7 a7.facts.length e7, .slice G7 a7.atoms.length g7]]) (by simp [results, Try.results30, go_sem, qk07, qk17, lk07, lk17]) rfl ⟨_, _, s6, a7, rfl, ⟨_, _, rfl, ?_, ?_, DJ.out⟩, ⟨_, _, rfl, ?_, ?_⟩, ?_⟩
  · exact (((P1.out.setT k07 (by decide) 0 _).setT (k07.set_ 0 _) (by decide) 1 _).setT j1 (by decide) 0 _).setT (j1.set_ 0 _) (by decide) 1 _
  · exact (((P2.out.setT k07 (by decide) 0 _).setT (k07.set_ 0 _) (by decide) 1 _).setT j1 (by decide) 0 _).setT (j1.set_ 0 _) (by decide) 1 _
  · exact (((P3.out.setT k07 (by decide) 0 _).setT (k07.set_ 0 _) (by decide) 1 _).setT j1 (by decide) 0 _).setT (j1.set_ 0 _) (by decide) 1 _
  · exact (((P4.out.setT k07 (by decide) 0 _).setT (k07.set_ 0 _) (by decide) 1 _).setT j1 (by decide) 0 _).setT (j1.set_ 0 _) (by decide) 1 _
  · exact (((HB7.out.setCell (p := ⟨w.heap.size, 0, none⟩) (by simp only; omega) _).setCell (p := ⟨w.heap.size, 1, none⟩) (by simp only; omega) _).setCell (p := ⟨w.heap.size + 1, 0, none⟩) (by simp only; omega) _).setCell (p := ⟨w.heap.size + 1, 1, none⟩) (by simp only; omega) _
end Go.Proofs.Ytdhllcejahdjfaa
