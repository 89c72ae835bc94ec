/- 'laws.FnExactFailingCase' returns true for all arguments that can be read. -/
import Derived.Test.YtkiogmimolnkgaaKit
import Derived.Test.YtkiogmimolnkgaaFailH
import Derived.Deep.RegionHeld3
import Derived.Deep.DrawnRows
namespace Go.Proofs.Ytkiogmimolnkgaa
open Go Go.RowKit Go.Proofs
attribute [local go_sem ↓] Go.wp_at_zero Go.wp_at_succ

--@ laws.FnExactFailingCase
set_option maxRecDepth 100000 in
set_option maxHeartbeats 6400000 in
theorem c_FnExactFailingCase (v0 : Value) (a0 : Asn) (v1 : Value) (a1 : Asn) (w : World) (h0 : AsnR w v0 a0) (h1 : AsnR w v1 a1) : Calls Try.prog 3 #[v0, v1] w fun e w' => e = .returned (.bool true) ∧ Below w.heap.size w w' := by
  obtain ⟨A0, c0, B0, d0, rfl, r0a, r0b⟩ := h0
  obtain ⟨A1, c1, B1, d1, rfl, r1a, r1b⟩ := h1
  by_cases hs0 : szA a0 1048576 < 0
  · go_enter Try.func3, Try.ntmps3
    go_wp2_with fail
    refine (c_szAssertion _ _ _ _ a0 1048576 _ r0a.2 r0b.2 (by omega) (by omega)).mono ?_; rintro e ws0 ⟨rfl, hB0⟩
    have hB := bgo (w := w) (by repeat (first | (with_reducible exact Below.refl _ _) | (with_reducible assumption) | (with_reducible apply bbox) | ((with_reducible apply Below.setCell); (case hp => (first | exact Nat.le_refl _ | (simp; done) | (simp; omega) | (simp only; omega) | omega))) | (with_reducible apply Below.drew) | (with_reducible apply below_drewN))) hB0
    have p0 := Blk.next (g := w.heap.size) (t := 25) (cs := #[.slice A0 a0.facts.length c0, .slice B0 a0.atoms.length d0]) (by repeat (first | (with_reducible assumption) | (with_reducible exact Blk.new _ _ _) | ((with_reducible apply Blk.far); (case hp => (first | exact Nat.le_refl _ | (simp; done) | (simp; omega) | (simp only; omega) | omega))) | (with_reducible apply Blk.set_) | ((with_reducible refine Blk.newE ?_); (simp; done)) | (with_reducible apply Blk.alloc) | (with_reducible apply Blk.drew) | (with_reducible apply Blk.drewN))) hB0
    have p1 := Blk.next (g := w.heap.size + 1) (t := 25) (cs := #[.slice A1 a1.facts.length c1, .slice B1 a1.atoms.length d1]) (by repeat (first | (with_reducible assumption) | (with_reducible exact Blk.new _ _ _) | ((with_reducible apply Blk.far); (case hp => (first | exact Nat.le_refl _ | (simp; done) | (simp; omega) | (simp only; omega) | omega))) | (with_reducible apply Blk.set_) | ((with_reducible refine Blk.newE ?_); (simp; done)) | (with_reducible apply Blk.alloc) | (with_reducible apply Blk.drew) | (with_reducible apply Blk.drewN))) hB0
    (replace qp0 := p0.cell; replace rp0 := p0.frozen; replace lp0 := p0.lt)
    (replace qp1 := p1.cell; replace rp1 := p1.frozen; replace lp1 := p1.lt)
    go_wp2_with fail
    go_ret
    exact ⟨rfl, (by repeat (first | (with_reducible exact Below.refl _ _) | (with_reducible assumption) | (with_reducible apply bbox) | ((with_reducible apply Below.setCell); (case hp => (first | exact Nat.le_refl _ | (simp; done) | (simp; omega) | (simp only; omega) | omega))) | (with_reducible apply Below.drew) | (with_reducible apply below_drewN)))⟩
  have hz0 := szA_le hs0
  by_cases hs1 : szA a1 (szA a0 1048576) < 0
  · have HZ0 := Lib.hid hz0; clear hz0
    go_enter Try.func3, Try.ntmps3
    go_wp2_with fail
    refine (c_szAssertion _ _ _ _ a0 1048576 _ r0a.2 r0b.2 (by have := HZ0.out; omega) (by have := HZ0.out; omega)).mono ?_; rintro e ws0 ⟨rfl, hB0⟩
    have hB := bgo (w := w) (by repeat (first | (with_reducible exact Below.refl _ _) | (with_reducible assumption) | (with_reducible apply bbox) | ((with_reducible apply Below.setCell); (case hp => (first | exact Nat.le_refl _ | (simp; done) | (simp; omega) | (simp only; omega) | omega))) | (with_reducible apply Below.drew) | (with_reducible apply below_drewN))) hB0
    have p0 := Blk.next (g := w.heap.size) (t := 25) (cs := #[.slice A0 a0.facts.length c0, .slice B0 a0.atoms.length d0]) (by repeat (first | (with_reducible assumption) | (with_reducible exact Blk.new _ _ _) | ((with_reducible apply Blk.far); (case hp => (first | exact Nat.le_refl _ | (simp; done) | (simp; omega) | (simp only; omega) | omega))) | (with_reducible apply Blk.set_) | ((with_reducible refine Blk.newE ?_); (simp; done)) | (with_reducible apply Blk.alloc) | (with_reducible apply Blk.drew) | (with_reducible apply Blk.drewN))) hB0
    have p1 := Blk.next (g := w.heap.size + 1) (t := 25) (cs := #[.slice A1 a1.facts.length c1, .slice B1 a1.atoms.length d1]) (by repeat (first | (with_reducible assumption) | (with_reducible exact Blk.new _ _ _) | ((with_reducible apply Blk.far); (case hp => (first | exact Nat.le_refl _ | (simp; done) | (simp; omega) | (simp only; omega) | omega))) | (with_reducible apply Blk.set_) | ((with_reducible refine Blk.newE ?_); (simp; done)) | (with_reducible apply Blk.alloc) | (with_reducible apply Blk.drew) | (with_reducible apply Blk.drewN))) hB0
    (replace qp0 := p0.cell; replace rp0 := p0.frozen; replace lp0 := p0.lt)
    (replace qp1 := p1.cell; replace rp1 := p1.frozen; replace lp1 := p1.lt)
    go_wp2_with fail
    refine (c_szAssertion _ _ _ _ a1 (szA a0 1048576) _ r1a.2 r1b.2 (by have := HZ0.out; omega) (by have := HZ0.out; omega)).mono ?_; rintro e ws1 ⟨rfl, hB1⟩
    replace hB := bgo hB hB1
    replace p0 := p0.next hB1
    replace p1 := p1.next hB1
    (replace qp0 := p0.cell; replace rp0 := p0.frozen; replace lp0 := p0.lt)
    (replace qp1 := p1.cell; replace rp1 := p1.frozen; replace lp1 := p1.lt)
    go_wp2_with fail
    go_ret
    exact ⟨rfl, (by repeat (first | (with_reducible exact Below.refl _ _) | (with_reducible assumption) | (with_reducible apply bbox) | ((with_reducible apply Below.setCell); (case hp => (first | exact Nat.le_refl _ | (simp; done) | (simp; omega) | (simp only; omega) | omega))) | (with_reducible apply Below.drew) | (with_reducible apply below_drewN)))⟩
  have hz1 := szA_le hs1
  have hlen : a0.facts.length ≤ 1048576 ∧ a0.atoms.length ≤ 1048576 ∧ a1.facts.length ≤ 1048576 ∧ a1.atoms.length ≤ 1048576 := by omega
  have HZ0 : Hid (0 ≤ (szA a0 1048576) ∧ (szA a0 1048576) ≤ 1048576) := ⟨by omega, by omega⟩
  clear hz0
  clear hz1
  obtain ⟨hL0, hL1, hL2, hL3⟩ := hlen
  have hV0 : Hid (AsnV w 0 w.heap.size (.agg #[.slice A0 a0.facts.length c0, .slice B0 a0.atoms.length d0]) a0) := ⟨_, _, _, _, rfl, r0a.toV (by omega), r0b.toV (by omega)⟩
  have hV1 : Hid (AsnV w 0 w.heap.size (.agg #[.slice A1 a1.facts.length c1, .slice B1 a1.atoms.length d1]) a1) := ⟨_, _, _, _, rfl, r1a.toV (by omega), r1b.toV (by omega)⟩
  go_enter Try.func3, Try.ntmps3
  go_wp2_with fail
  refine (c_szAssertion _ _ _ _ a0 1048576 _ r0a.2 r0b.2 (by have := HZ0.out; omega) (by have := HZ0.out; omega)).mono ?_; rintro e ws0 ⟨rfl, hB0⟩
  have hB := bgo (w := w) (by repeat (first | (with_reducible exact Below.refl _ _) | (with_reducible assumption) | (with_reducible apply bbox) | ((with_reducible apply Below.setCell); (case hp => (first | exact Nat.le_refl _ | (simp; done) | (simp; omega) | (simp only; omega) | omega))) | (with_reducible apply Below.drew) | (with_reducible apply below_drewN))) hB0
  have p0 := Blk.next (g := w.heap.size) (t := 25) (cs := #[.slice A0 a0.facts.length c0, .slice B0 a0.atoms.length d0]) (by repeat (first | (with_reducible assumption) | (with_reducible exact Blk.new _ _ _) | ((with_reducible apply Blk.far); (case hp => (first | exact Nat.le_refl _ | (simp; done) | (simp; omega) | (simp only; omega) | omega))) | (with_reducible apply Blk.set_) | ((with_reducible refine Blk.newE ?_); (simp; done)) | (with_reducible apply Blk.alloc) | (with_reducible apply Blk.drew) | (with_reducible apply Blk.drewN))) hB0
  have p1 := Blk.next (g := w.heap.size + 1) (t := 25) (cs := #[.slice A1 a1.facts.length c1, .slice B1 a1.atoms.length d1]) (by repeat (first | (with_reducible assumption) | (with_reducible exact Blk.new _ _ _) | ((with_reducible apply Blk.far); (case hp => (first | exact Nat.le_refl _ | (simp; done) | (simp; omega) | (simp only; omega) | omega))) | (with_reducible apply Blk.set_) | ((with_reducible refine Blk.newE ?_); (simp; done)) | (with_reducible apply Blk.alloc) | (with_reducible apply Blk.drew) | (with_reducible apply Blk.drewN))) hB0
  (replace qp0 := p0.cell; replace rp0 := p0.frozen; replace lp0 := p0.lt)
  (replace qp1 := p1.cell; replace rp1 := p1.frozen; replace lp1 := p1.lt)
  go_wp2_with fail
  refine (c_szAssertion _ _ _ _ a1 (szA a0 1048576) _ r1a.2 r1b.2 (by have := HZ0.out; omega) (by have := HZ0.out; omega)).mono ?_; rintro e ws1 ⟨rfl, hB1⟩
  replace hB := bgo hB hB1
  replace p0 := p0.next hB1
  replace p1 := p1.next hB1
  (replace qp0 := p0.cell; replace rp0 := p0.frozen; replace lp0 := p0.lt)
  (replace qp1 := p1.cell; replace rp1 := p1.frozen; replace lp1 := p1.lt)
  have zs := hB.size
  have zb0 := p0.lt
  have zb1 := p1.lt
  clear hB0 hB1
  clear r0a r0b
  clear r1a r1b
  go_wp2_with fail
  have tok0 : True := trivial
  have tok1 : True := trivial
  go_region_held3 (fun w' => (∀ i, w'.cell? ⟨w.heap.size, i, none⟩ = #[.slice A0 a0.facts.length c0, .slice B0 a0.atoms.length d0][i]?) ∧ (∀ i, w'.cell? ⟨w.heap.size + 1, i, none⟩ = #[.slice A1 a1.facts.length c1, .slice B1 a1.atoms.length d1][i]?))
    (first | exact ⟨p0.cell, p1.cell⟩ | exact ⟨p0.drew.cell, p1.drew.cell⟩)
    (first
      | (have _t := tok0; go_at_call 17; refine (to_asn _ a0 _ (hV0.out.below (by repeat (first | (with_reducible exact Below.refl _ _) | (with_reducible assumption) | (with_reducible apply bbox) | ((with_reducible apply Below.setCell); (case hp => (first | exact Nat.le_refl _ | (simp; done) | (simp; omega) | (simp only; omega) | omega))) | (with_reducible apply Below.drew) | (with_reducible apply below_drewN))))).mono ?_; clear tok0; rintro e w1 ⟨ys0, rfl, os0, hBx⟩; have hS : Below ws1.heap.size ws1 w1 := bgo (Below.refl ws1.heap.size ws1).drew hBx; replace hB := bgo hB hS; replace p0 := p0.drew.next hBx; replace p1 := p1.drew.next hBx)
      | (have _t := tok1; go_at_call 17; refine (to_asn _ a1 _ (hV1.out.below (by repeat (first | (with_reducible exact Below.refl _ _) | (with_reducible assumption) | (with_reducible apply bbox) | ((with_reducible apply Below.setCell); (case hp => (first | exact Nat.le_refl _ | (simp; done) | (simp; omega) | (simp only; omega) | omega))) | (with_reducible apply Below.drew) | (with_reducible apply below_drewN))))).mono ?_; clear tok1; rintro e w2 ⟨ys1, rfl, os1, hBx⟩; replace hS := bgo hS hBx; replace hB := bgo hB hBx; replace p0 := p0.next hBx; replace p1 := p1.next hBx; replace os0 := os0.below hBx)
      | (go_at_call 16; refine (c_spec_FailingCase _ _ a0 a1 _ os0.reads os1.reads).mono ?_; rintro e w3 ⟨rw0, rfl, orw0, hBx⟩; replace hS := bgo hS hBx; replace hB := bgo hB hBx; replace p0 := p0.next hBx; replace p1 := p1.next hBx))
  have zw3 := hS.size
  clear hS os0 os1
  (replace qp0 := p0.cell; replace rp0 := p0.frozen; replace lp0 := p0.lt)
  (replace qp1 := p1.cell; replace rp1 := p1.frozen; replace lp1 := p1.lt)
  obtain ⟨D, hD⟩ : ∃ D, (failL a0 a1) = D := ⟨_, rfl⟩
  have HD := Lib.hid hD
  rw [hD] at orw0
  clear hD
  obtain ⟨sb, hsb⟩ : ∃ b, (failB a0 a1) = b := ⟨_, rfl⟩
  have HSB := Lib.hid hsb
  rw [hsb]
  clear hsb
  have Xw := orw0.I
  clear orw0
  obtain ⟨Aw, cw, rfl⟩ := Xw.form
  go_wp2_with fail
  refine (to_asn _ a0 _ (hV0.out.below (by repeat (first | (with_reducible exact Below.refl _ _) | (with_reducible assumption) | (with_reducible apply bbox) | ((with_reducible apply Below.setCell); (case hp => (first | exact Nat.le_refl _ | (simp; done) | (simp; omega) | (simp only; omega) | omega))) | (with_reducible apply Below.drew) | (with_reducible apply below_drewN))))).mono ?_
  rintro e w4 ⟨y, rfl, X0, hBx⟩
  have hS := bgo (w := w3) (by repeat (first | (with_reducible exact Below.refl _ _) | (with_reducible assumption) | (with_reducible apply bbox) | ((with_reducible apply Below.setCell); (case hp => (first | exact Nat.le_refl _ | (simp; done) | (simp; omega) | (simp only; omega) | omega))) | (with_reducible apply Below.drew) | (with_reducible apply below_drewN))) hBx
  have zw4 := hBx.size
  replace hB := bgo hB hS
  replace p0 := p0.next hS
  replace p1 := p1.next hS
  replace Xw := Xw.below hS
  clear hS hBx
  (replace qp0 := p0.cell; replace rp0 := p0.frozen; replace lp0 := p0.lt)
  (replace qp1 := p1.cell; replace rp1 := p1.frozen; replace lp1 := p1.lt)
  obtain ⟨Ax0, cx0, Bx0, dx0, rfl⟩ := X0.form
  go_wp2_with fail
  refine (to_asn _ a1 _ (hV1.out.below (by repeat (first | (with_reducible exact Below.refl _ _) | (with_reducible assumption) | (with_reducible apply bbox) | ((with_reducible apply Below.setCell); (case hp => (first | exact Nat.le_refl _ | (simp; done) | (simp; omega) | (simp only; omega) | omega))) | (with_reducible apply Below.drew) | (with_reducible apply below_drewN))))).mono ?_
  rintro e w5 ⟨y, rfl, X1, hBx⟩
  rw [World.size_alloc] at X1
  have hS := bgo (w := w4) (by repeat (first | (with_reducible exact Below.refl _ _) | (with_reducible assumption) | (with_reducible apply bbox) | ((with_reducible apply Below.setCell); (case hp => (first | exact Nat.le_refl _ | (simp; done) | (simp; omega) | (simp only; omega) | omega))) | (with_reducible apply Below.drew) | (with_reducible apply below_drewN))) hBx
  have zw5 := hBx.size
  simp only [World.size_alloc] at zw5
  replace hB := bgo hB hS
  replace p0 := p0.next hS
  replace p1 := p1.next hS
  replace Xw := Xw.below hS
  replace X0 := X0.below hS
  have px0 := Blk.next (g := w4.heap.size) (t := 33) (cs := #[.slice Ax0 a0.facts.length cx0, .slice Bx0 a0.atoms.length dx0]) (by repeat (first | (with_reducible assumption) | (with_reducible exact Blk.new _ _ _) | ((with_reducible apply Blk.far); (case hp => (first | exact Nat.le_refl _ | (simp; done) | (simp; omega) | (simp only; omega) | omega))) | (with_reducible apply Blk.set_) | ((with_reducible refine Blk.newE ?_); (simp; done)) | (with_reducible apply Blk.alloc) | (with_reducible apply Blk.drew) | (with_reducible apply Blk.drewN))) hBx
  clear hS hBx
  (replace qp0 := p0.cell; replace rp0 := p0.frozen; replace lp0 := p0.lt)
  (replace qp1 := p1.cell; replace rp1 := p1.frozen; replace lp1 := p1.lt)
  (replace qpx0 := px0.cell; replace rpx0 := px0.frozen; replace lpx0 := px0.lt)
  obtain ⟨Ax1, cx1, Bx1, dx1, rfl⟩ := X1.form
  go_wp2_with fail
  refine (c_impl_FailingCase _ _ a0 a1 _ (X0.below (by repeat (first | (with_reducible exact Below.refl _ _) | (with_reducible assumption) | (with_reducible apply bbox) | ((with_reducible apply Below.setCell); (case hp => (first | exact Nat.le_refl _ | (simp; done) | (simp; omega) | (simp only; omega) | omega))) | (with_reducible apply Below.drew) | (with_reducible apply below_drewN)))).reads (X1.below (by repeat (first | (with_reducible exact Below.refl _ _) | (with_reducible assumption) | (with_reducible apply bbox) | ((with_reducible apply Below.setCell); (case hp => (first | exact Nat.le_refl _ | (simp; done) | (simp; omega) | (simp only; omega) | omega))) | (with_reducible apply Below.drew) | (with_reducible apply below_drewN)))).reads (by first | omega | (simp; omega)) (by first | omega | (simp; omega))).mono ?_
  rintro e w6 ⟨rg0, rfl, org0, hBx⟩
  rw [World.size_alloc] at org0
  rw [HD.out] at org0
  have Xg := org0.I
  clear org0
  rw [HSB.out]
  have hS := bgo (w := w5) (by repeat (first | (with_reducible exact Below.refl _ _) | (with_reducible assumption) | (with_reducible apply bbox) | ((with_reducible apply Below.setCell); (case hp => (first | exact Nat.le_refl _ | (simp; done) | (simp; omega) | (simp only; omega) | omega))) | (with_reducible apply Below.drew) | (with_reducible apply below_drewN))) hBx
  have zw6 := hBx.size
  simp only [World.size_alloc] at zw6
  replace hB := bgo hB hS
  replace p0 := p0.next hS
  replace p1 := p1.next hS
  replace px0 := px0.next hS
  replace Xw := Xw.below hS
  replace X0 := X0.below hS
  replace X1 := X1.below hS
  have px1 := Blk.next (g := w5.heap.size) (t := 33) (cs := #[.slice Ax1 a1.facts.length cx1, .slice Bx1 a1.atoms.length dx1]) (by repeat (first | (with_reducible assumption) | (with_reducible exact Blk.new _ _ _) | ((with_reducible apply Blk.far); (case hp => (first | exact Nat.le_refl _ | (simp; done) | (simp; omega) | (simp only; omega) | omega))) | (with_reducible apply Blk.set_) | ((with_reducible refine Blk.newE ?_); (simp; done)) | (with_reducible apply Blk.alloc) | (with_reducible apply Blk.drew) | (with_reducible apply Blk.drewN))) hBx
  clear hS hBx
  (replace qp0 := p0.cell; replace rp0 := p0.frozen; replace lp0 := p0.lt)
  (replace qp1 := p1.cell; replace rp1 := p1.frozen; replace lp1 := p1.lt)
  (replace qpx0 := px0.cell; replace rpx0 := px0.frozen; replace lpx0 := px0.lt)
  (replace qpx1 := px1.cell; replace rpx1 := px1.frozen; replace lpx1 := px1.lt)
  obtain ⟨Ag, cg, rfl⟩ := Xg.form
  have hLD := Xg.len
  go_wp2_with fail
  refine (t_ints _ _ _ _ D _ (Xg.below (by repeat (first | (with_reducible exact Below.refl _ _) | (with_reducible assumption) | (with_reducible apply bbox) | ((with_reducible apply Below.setCell); (case hp => (first | exact Nat.le_refl _ | (simp; done) | (simp; omega) | (simp only; omega) | omega))) | (with_reducible apply Below.drew) | (with_reducible apply below_drewN)))).reads (Xw.below (by repeat (first | (with_reducible exact Below.refl _ _) | (with_reducible assumption) | (with_reducible apply bbox) | ((with_reducible apply Below.setCell); (case hp => (first | exact Nat.le_refl _ | (simp; done) | (simp; omega) | (simp only; omega) | omega))) | (with_reducible apply Below.drew) | (with_reducible apply below_drewN)))).reads).mono ?_
  rintro e w7 ⟨rfl, hBx⟩
  have hS := bgo (w := w6) (by repeat (first | (with_reducible exact Below.refl _ _) | (with_reducible assumption) | (with_reducible apply bbox) | ((with_reducible apply Below.setCell); (case hp => (first | exact Nat.le_refl _ | (simp; done) | (simp; omega) | (simp only; omega) | omega))) | (with_reducible apply Below.drew) | (with_reducible apply below_drewN))) hBx
  have zw7 := hBx.size
  replace hB := bgo hB hS
  replace p0 := p0.next hS
  replace p1 := p1.next hS
  replace px0 := px0.next hS
  replace px1 := px1.next hS
  replace Xw := Xw.below hS
  replace X0 := X0.below hS
  replace X1 := X1.below hS
  replace Xg := Xg.below hS
  clear hS hBx
  (replace qp0 := p0.cell; replace rp0 := p0.frozen; replace lp0 := p0.lt)
  (replace qp1 := p1.cell; replace rp1 := p1.frozen; replace lp1 := p1.lt)
  (replace qpx0 := px0.cell; replace rpx0 := px0.frozen; replace lpx0 := px0.lt)
  (replace qpx1 := px1.cell; replace rpx1 := px1.frozen; replace lpx1 := px1.lt)
  go_wp2_with fail
  go_region_held3 (fun w' => (∀ i, w'.cell? ⟨w.heap.size, i, none⟩ = #[.slice A0 a0.facts.length c0, .slice B0 a0.atoms.length d0][i]?) ∧ (∀ i, w'.cell? ⟨w4.heap.size, i, none⟩ = #[.slice Ax0 a0.facts.length cx0, .slice Bx0 a0.atoms.length dx0][i]?))
    (first | exact ⟨p0.cell, px0.cell⟩ | exact ⟨p0.drew.cell, px0.drew.cell⟩)
    (first
      | (go_at_call 17; refine (to_asn _ a0 _ (hV0.out.below (by repeat (first | (with_reducible exact Below.refl _ _) | (with_reducible assumption) | (with_reducible apply bbox) | ((with_reducible apply Below.setCell); (case hp => (first | exact Nat.le_refl _ | (simp; done) | (simp; omega) | (simp only; omega) | omega))) | (with_reducible apply Below.drew) | (with_reducible apply below_drewN))))).mono ?_; rintro e w8 ⟨y, rfl, oz, hBx⟩; have hS : Below w7.heap.size w7 w8 := bgo (Below.refl w7.heap.size w7).drew hBx; replace hB := bgo hB hS; replace p0 := p0.drew.next hBx; replace p1 := p1.drew.next hBx; replace px0 := px0.drew.next hBx; replace px1 := px1.drew.next hBx)
      | (go_at_call 20; refine (t_asn _ _ a0 _ (X0.below hS).reads oz.reads).mono ?_; rintro e w9 ⟨rfl, hBx⟩; replace hS := bgo hS hBx; replace hB := bgo hB hBx; replace p0 := p0.next hBx; replace p1 := p1.next hBx; replace px0 := px0.next hBx; replace px1 := px1.next hBx))
  have zw9 := hS.size
  replace Xw := Xw.below hS
  replace X0 := X0.below hS
  replace X1 := X1.below hS
  replace Xg := Xg.below hS
  clear hS oz
  (replace qp0 := p0.cell; replace rp0 := p0.frozen; replace lp0 := p0.lt)
  (replace qp1 := p1.cell; replace rp1 := p1.frozen; replace lp1 := p1.lt)
  (replace qpx0 := px0.cell; replace rpx0 := px0.frozen; replace lpx0 := px0.lt)
  (replace qpx1 := px1.cell; replace rpx1 := px1.frozen; replace lpx1 := px1.lt)
  go_wp2_with fail
  go_region_held3 (fun w' => (∀ i, w'.cell? ⟨w.heap.size + 1, i, none⟩ = #[.slice A1 a1.facts.length c1, .slice B1 a1.atoms.length d1][i]?) ∧ (∀ i, w'.cell? ⟨w5.heap.size, i, none⟩ = #[.slice Ax1 a1.facts.length cx1, .slice Bx1 a1.atoms.length dx1][i]?))
    (first | exact ⟨p1.cell, px1.cell⟩ | exact ⟨p1.drew.cell, px1.drew.cell⟩)
    (first
      | (go_at_call 17; refine (to_asn _ a1 _ (hV1.out.below (by repeat (first | (with_reducible exact Below.refl _ _) | (with_reducible assumption) | (with_reducible apply bbox) | ((with_reducible apply Below.setCell); (case hp => (first | exact Nat.le_refl _ | (simp; done) | (simp; omega) | (simp only; omega) | omega))) | (with_reducible apply Below.drew) | (with_reducible apply below_drewN))))).mono ?_; rintro e w10 ⟨y, rfl, oz, hBx⟩; have hS : Below w9.heap.size w9 w10 := bgo (Below.refl w9.heap.size w9).drew hBx; replace hB := bgo hB hS; replace p0 := p0.drew.next hBx; replace p1 := p1.drew.next hBx; replace px0 := px0.drew.next hBx; replace px1 := px1.drew.next hBx)
      | (go_at_call 20; refine (t_asn _ _ a1 _ (X1.below hS).reads oz.reads).mono ?_; rintro e w11 ⟨rfl, hBx⟩; replace hS := bgo hS hBx; replace hB := bgo hB hBx; replace p0 := p0.next hBx; replace p1 := p1.next hBx; replace px0 := px0.next hBx; replace px1 := px1.next hBx))
  have zw11 := hS.size
  replace Xw := Xw.below hS
  replace X0 := X0.below hS
  replace X1 := X1.below hS
  replace Xg := Xg.below hS
  clear hS oz
  (replace qp0 := p0.cell; replace rp0 := p0.frozen; replace lp0 := p0.lt)
  (replace qp1 := p1.cell; replace rp1 := p1.frozen; replace lp1 := p1.lt)
  (replace qpx0 := px0.cell; replace rpx0 := px0.frozen; replace lpx0 := px0.lt)
  (replace qpx1 := px1.cell; replace rpx1 := px1.frozen; replace lpx1 := px1.lt)
  go_wp2_with fail
  refine (m_asn _ a0 _ _ _ _ X0 (by omega) (by omega)).mono ?_
  rintro e w12 ⟨rfl, X0m, hM⟩
  have hsz := hM.size
  replace hB := Mk.keepB hB hM (by omega) (by have := hB.size; omega)
  replace p0 := hM.blk p0 (by omega)
  replace p1 := hM.blk p1 (by omega)
  replace px0 := hM.blk px0 (by omega)
  replace px1 := hM.blk px1 (by omega)
  replace Xw := Xw.mk hM (by omega)
  replace X1 := X1.mk hM (by omega)
  replace Xg := Xg.mk hM (by omega)
  clear X0 hM
  have zw12 := hsz
  clear hsz
  (replace qp0 := p0.cell; replace rp0 := p0.frozen; replace lp0 := p0.lt)
  (replace qp1 := p1.cell; replace rp1 := p1.frozen; replace lp1 := p1.lt)
  (replace qpx0 := px0.cell; replace rpx0 := px0.frozen; replace lpx0 := px0.lt)
  (replace qpx1 := px1.cell; replace rpx1 := px1.frozen; replace lpx1 := px1.lt)
  clear X0m
  go_wp2_with fail
  refine (m_asn _ a1 _ _ _ _ X1 (by omega) (by omega)).mono ?_
  rintro e w13 ⟨rfl, X1m, hM⟩
  have hsz := hM.size
  replace hB := Mk.keepB hB hM (by omega) (by have := hB.size; omega)
  replace p0 := hM.blk p0 (by omega)
  replace p1 := hM.blk p1 (by omega)
  replace px0 := hM.blk px0 (by omega)
  replace px1 := hM.blk px1 (by omega)
  replace Xw := Xw.mk hM (by omega)
  replace Xg := Xg.mk hM (by omega)
  clear X1 hM
  have zw13 := hsz
  clear hsz
  (replace qp0 := p0.cell; replace rp0 := p0.frozen; replace lp0 := p0.lt)
  (replace qp1 := p1.cell; replace rp1 := p1.frozen; replace lp1 := p1.lt)
  (replace qpx0 := px0.cell; replace rpx0 := px0.frozen; replace lpx0 := px0.lt)
  (replace qpx1 := px1.cell; replace rpx1 := px1.frozen; replace lpx1 := px1.lt)
  clear X1m
  go_wp2_with fail
  refine (t_ints _ _ _ _ D _ (Xg.below (by repeat (first | (with_reducible exact Below.refl _ _) | (with_reducible assumption) | (with_reducible apply bbox) | ((with_reducible apply Below.setCell); (case hp => (first | exact Nat.le_refl _ | (simp; done) | (simp; omega) | (simp only; omega) | omega))) | (with_reducible apply Below.drew) | (with_reducible apply below_drewN)))).reads (Xw.below (by repeat (first | (with_reducible exact Below.refl _ _) | (with_reducible assumption) | (with_reducible apply bbox) | ((with_reducible apply Below.setCell); (case hp => (first | exact Nat.le_refl _ | (simp; done) | (simp; omega) | (simp only; omega) | omega))) | (with_reducible apply Below.drew) | (with_reducible apply below_drewN)))).reads).mono ?_
  rintro e w14 ⟨rfl, hBx⟩
  have hS := bgo (w := w13) (by repeat (first | (with_reducible exact Below.refl _ _) | (with_reducible assumption) | (with_reducible apply bbox) | ((with_reducible apply Below.setCell); (case hp => (first | exact Nat.le_refl _ | (simp; done) | (simp; omega) | (simp only; omega) | omega))) | (with_reducible apply Below.drew) | (with_reducible apply below_drewN))) hBx
  have zw14 := hBx.size
  replace hB := bgo hB hS
  replace p0 := p0.next hS
  replace p1 := p1.next hS
  replace px0 := px0.next hS
  replace px1 := px1.next hS
  replace Xw := Xw.below hS
  replace Xg := Xg.below hS
  clear hS hBx
  (replace qp0 := p0.cell; replace rp0 := p0.frozen; replace lp0 := p0.lt)
  (replace qp1 := p1.cell; replace rp1 := p1.frozen; replace lp1 := p1.lt)
  (replace qpx0 := px0.cell; replace rpx0 := px0.frozen; replace lpx0 := px0.lt)
  (replace qpx1 := px1.cell; replace rpx1 := px1.frozen; replace lpx1 := px1.lt)
  go_wp2_with fail
  refine (m_ints _ D _ _ _ _ Xg (by omega) (by omega)).mono ?_
  rintro e w15 ⟨rfl, Xgm, hM⟩
  have hsz := hM.size
  replace hB := Mk.keepB hB hM (by omega) (by have := hB.size; omega)
  replace p0 := hM.blk p0 (by omega)
  replace p1 := hM.blk p1 (by omega)
  replace px0 := hM.blk px0 (by omega)
  replace px1 := hM.blk px1 (by omega)
  replace Xw := Xw.mk hM (by omega)
  clear Xg hM
  have zw15 := hsz
  clear hsz
  (replace qp0 := p0.cell; replace rp0 := p0.frozen; replace lp0 := p0.lt)
  (replace qp1 := p1.cell; replace rp1 := p1.frozen; replace lp1 := p1.lt)
  (replace qpx0 := px0.cell; replace rpx0 := px0.frozen; replace lpx0 := px0.lt)
  (replace qpx1 := px1.cell; replace rpx1 := px1.frozen; replace lpx1 := px1.lt)
  go_wp2_with fail
  refine (h_ints _ D _ 1 _ (Xgm.below (by repeat (first | (with_reducible exact Below.refl _ _) | (with_reducible assumption) | (with_reducible apply bbox) | ((with_reducible apply Below.setCell); (case hp => (first | exact Nat.le_refl _ | (simp; done) | (simp; omega) | (simp only; omega) | omega))) | (with_reducible apply Below.drew) | (with_reducible apply below_drewN)))) (by omega) (by omega)).mono ?_
  rintro e w16 ⟨rfl, hBx⟩
  have hS := bgo (w := w15) (by repeat (first | (with_reducible exact Below.refl _ _) | (with_reducible assumption) | (with_reducible apply bbox) | ((with_reducible apply Below.setCell); (case hp => (first | exact Nat.le_refl _ | (simp; done) | (simp; omega) | (simp only; omega) | omega))) | (with_reducible apply Below.drew) | (with_reducible apply below_drewN))) hBx
  have zw16 := hBx.size
  replace hB := bgo hB hS
  replace p0 := p0.next hS
  replace p1 := p1.next hS
  replace px0 := px0.next hS
  replace px1 := px1.next hS
  replace Xw := Xw.below hS
  replace Xgm := Xgm.below hS
  clear hS hBx
  (replace qp0 := p0.cell; replace rp0 := p0.frozen; replace lp0 := p0.lt)
  (replace qp1 := p1.cell; replace rp1 := p1.frozen; replace lp1 := p1.lt)
  (replace qpx0 := px0.cell; replace rpx0 := px0.frozen; replace lpx0 := px0.lt)
  (replace qpx1 := px1.cell; replace rpx1 := px1.frozen; replace lpx1 := px1.lt)
  go_wp2_with fail
  have tok0 : True := trivial
  have tok1 : True := trivial
  go_region_held3 (fun w' => (∀ i, w'.cell? ⟨w.heap.size, i, none⟩ = #[.slice A0 a0.facts.length c0, .slice B0 a0.atoms.length d0][i]?) ∧ (∀ i, w'.cell? ⟨w.heap.size + 1, i, none⟩ = #[.slice A1 a1.facts.length c1, .slice B1 a1.atoms.length d1][i]?))
    (first | exact ⟨p0.cell, p1.cell⟩ | exact ⟨p0.drew.cell, p1.drew.cell⟩)
    (first
      | (have _t := tok0; go_at_call 17; refine (to_asn _ a0 _ (hV0.out.below (by repeat (first | (with_reducible exact Below.refl _ _) | (with_reducible assumption) | (with_reducible apply bbox) | ((with_reducible apply Below.setCell); (case hp => (first | exact Nat.le_refl _ | (simp; done) | (simp; omega) | (simp only; omega) | omega))) | (with_reducible apply Below.drew) | (with_reducible apply below_drewN))))).mono ?_; clear tok0; rintro e w17 ⟨yh0, rfl, oh0, hBx⟩; have hS : Below w16.heap.size w16 w17 := bgo (Below.refl w16.heap.size w16).drew hBx; replace hB := bgo hB hS; replace p0 := p0.drew.next hBx; replace p1 := p1.drew.next hBx; replace px0 := px0.drew.next hBx; replace px1 := px1.drew.next hBx)
      | (have _t := tok1; go_at_call 17; refine (to_asn _ a1 _ (hV1.out.below (by repeat (first | (with_reducible exact Below.refl _ _) | (with_reducible assumption) | (with_reducible apply bbox) | ((with_reducible apply Below.setCell); (case hp => (first | exact Nat.le_refl _ | (simp; done) | (simp; omega) | (simp only; omega) | omega))) | (with_reducible apply Below.drew) | (with_reducible apply below_drewN))))).mono ?_; clear tok1; rintro e w18 ⟨yh1, rfl, oh1, hBx⟩; replace hS := bgo hS hBx; replace hB := bgo hB hBx; replace p0 := p0.next hBx; replace p1 := p1.next hBx; replace px0 := px0.next hBx; replace px1 := px1.next hBx; replace oh0 := oh0.below hBx)
      | (go_at_call 18; refine (c_impl_FailingCase _ _ a0 a1 _ oh0.reads oh1.reads (by first | omega | (simp; omega)) (by first | omega | (simp; omega))).mono ?_; rintro e w19 ⟨rh0, rfl, orh0, hBx⟩; replace hS := bgo hS hBx; replace hB := bgo hB hBx; replace p0 := p0.next hBx; replace p1 := p1.next hBx; replace px0 := px0.next hBx; replace px1 := px1.next hBx))
  have zw19 := hS.size
  replace Xw := Xw.below hS
  replace Xgm := Xgm.below hS
  clear hS oh0 oh1
  (replace qp0 := p0.cell; replace rp0 := p0.frozen; replace lp0 := p0.lt)
  (replace qp1 := p1.cell; replace rp1 := p1.frozen; replace lp1 := p1.lt)
  (replace qpx0 := px0.cell; replace rpx0 := px0.frozen; replace lpx0 := px0.lt)
  (replace qpx1 := px1.cell; replace rpx1 := px1.frozen; replace lpx1 := px1.lt)
  rw [HD.out] at orh0
  rw [HSB.out]
  have Xh := orh0.I
  clear orh0
  obtain ⟨Ah, ch, rfl⟩ := Xh.form
  go_wp2_with fail
  refine (t_ints _ _ _ _ D _ (Xh.below (by repeat (first | (with_reducible exact Below.refl _ _) | (with_reducible assumption) | (with_reducible apply bbox) | ((with_reducible apply Below.setCell); (case hp => (first | exact Nat.le_refl _ | (simp; done) | (simp; omega) | (simp only; omega) | omega))) | (with_reducible apply Below.drew) | (with_reducible apply below_drewN)))).reads (Xw.below (by repeat (first | (with_reducible exact Below.refl _ _) | (with_reducible assumption) | (with_reducible apply bbox) | ((with_reducible apply Below.setCell); (case hp => (first | exact Nat.le_refl _ | (simp; done) | (simp; omega) | (simp only; omega) | omega))) | (with_reducible apply Below.drew) | (with_reducible apply below_drewN)))).reads).mono ?_
  rintro e w20 ⟨rfl, hBx⟩
  have hS := bgo (w := w19) (by repeat (first | (with_reducible exact Below.refl _ _) | (with_reducible assumption) | (with_reducible apply bbox) | ((with_reducible apply Below.setCell); (case hp => (first | exact Nat.le_refl _ | (simp; done) | (simp; omega) | (simp only; omega) | omega))) | (with_reducible apply Below.drew) | (with_reducible apply below_drewN))) hBx
  have zw20 := hBx.size
  replace hB := bgo hB hS
  replace p0 := p0.next hS
  replace p1 := p1.next hS
  replace px0 := px0.next hS
  replace px1 := px1.next hS
  replace Xw := Xw.below hS
  replace Xgm := Xgm.below hS
  replace Xh := Xh.below hS
  clear hS hBx
  (replace qp0 := p0.cell; replace rp0 := p0.frozen; replace lp0 := p0.lt)
  (replace qp1 := p1.cell; replace rp1 := p1.frozen; replace lp1 := p1.lt)
  (replace qpx0 := px0.cell; replace rpx0 := px0.frozen; replace lpx0 := px0.lt)
  (replace qpx1 := px1.cell; replace rpx1 := px1.frozen; replace lpx1 := px1.lt)
  go_wp2_with fail
  refine (h_ints _ D _ 1 _ (Xgm.below (by repeat (first | (with_reducible exact Below.refl _ _) | (with_reducible assumption) | (with_reducible apply bbox) | ((with_reducible apply Below.setCell); (case hp => (first | exact Nat.le_refl _ | (simp; done) | (simp; omega) | (simp only; omega) | omega))) | (with_reducible apply Below.drew) | (with_reducible apply below_drewN)))) (by omega) (by omega)).mono ?_
  rintro e w21 ⟨rfl, hBx⟩
  have hS := bgo (w := w20) (by repeat (first | (with_reducible exact Below.refl _ _) | (with_reducible assumption) | (with_reducible apply bbox) | ((with_reducible apply Below.setCell); (case hp => (first | exact Nat.le_refl _ | (simp; done) | (simp; omega) | (simp only; omega) | omega))) | (with_reducible apply Below.drew) | (with_reducible apply below_drewN))) hBx
  have zw21 := hBx.size
  replace hB := bgo hB hS
  replace p0 := p0.next hS
  replace p1 := p1.next hS
  replace px0 := px0.next hS
  replace px1 := px1.next hS
  replace Xw := Xw.below hS
  replace Xgm := Xgm.below hS
  replace Xh := Xh.below hS
  clear hS hBx
  (replace qp0 := p0.cell; replace rp0 := p0.frozen; replace lp0 := p0.lt)
  (replace qp1 := p1.cell; replace rp1 := p1.frozen; replace lp1 := p1.lt)
  (replace qpx0 := px0.cell; replace rpx0 := px0.frozen; replace lpx0 := px0.lt)
  (replace qpx1 := px1.cell; replace rpx1 := px1.frozen; replace lpx1 := px1.lt)
  go_wp2_with fail
  go_ret
  exact ⟨rfl, hB⟩
end Go.Proofs.Ytkiogmimolnkgaa
