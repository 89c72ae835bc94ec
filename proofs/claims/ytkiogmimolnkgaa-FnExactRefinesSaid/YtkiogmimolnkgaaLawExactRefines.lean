/- 'laws.FnExactRefines' returns true for all arguments that can be read. -/
import Derived.Test.YtkiogmimolnkgaaKit
import Derived.Test.YtkiogmimolnkgaaRef
import Derived.Deep.RegionHeld3
import Derived.Deep.DrawnRows
namespace Go.Proofs.Ytkiogmimolnkgaa
open Go Go.RowKit Go.Proofs
attribute [local go_sem ↓] Go.wp_at_zero Go.wp_at_succ

--@ laws.FnExactRefines
set_option maxRecDepth 100000 in
set_option maxHeartbeats 6400000 in
theorem c_FnExactRefines (v0 : Value) (a0 : Ctr) (v1 : Value) (a1 : Ctr) (w : World) (h0 : CtrR w v0 a0) (h1 : CtrR w v1 a1) : Calls Try.prog 5 #[v0, v1] w fun e w' => e = .returned (.bool true) ∧ Below w.heap.size w w' := by
  obtain ⟨A0, c0, B0, d0, E0, e0, F0, f0, G0, g0, rfl, r0a, r0b, r0c, r0d, r0e⟩ := h0
  obtain ⟨A1, c1, B1, d1, E1, e1, F1, f1, G1, g1, rfl, r1a, r1b, r1c, r1d, r1e⟩ := h1
  by_cases hs0 : szC a0 1048576 < 0
  · go_enter Try.func5, Try.ntmps5
    go_wp2_with fail
    refine (c_szContract _ a0 1048576 _ ⟨A0, c0, B0, d0, E0, e0, F0, f0, G0, g0, rfl, r0a, r0b, r0c, r0d, r0e⟩ (by omega) (by omega)).mono ?_; rintro e ws0 ⟨rfl, hB0⟩
    have hB := bgo (w := w) (by repeat (first | (with_reducible exact Below.refl _ _) | (with_reducible assumption) | (with_reducible apply bbox) | ((with_reducible apply Below.setCell); (case hp => (first | exact Nat.le_refl _ | (simp; done) | (simp; omega) | (simp only; omega) | omega))) | (with_reducible apply Below.drew) | (with_reducible apply below_drewN))) hB0
    have p0 := Blk.next (g := w.heap.size) (t := 41) (cs := #[.slice A0 a0.pre.facts.length c0, .slice B0 a0.pre.atoms.length d0, .slice E0 a0.post.facts.length e0, .slice F0 a0.post.atoms.length f0, .slice G0 a0.changes.length g0]) (by repeat (first | (with_reducible assumption) | (with_reducible exact Blk.new _ _ _) | ((with_reducible apply Blk.far); (case hp => (first | exact Nat.le_refl _ | (simp; done) | (simp; omega) | (simp only; omega) | omega))) | (with_reducible apply Blk.set_) | ((with_reducible refine Blk.newE ?_); (simp; done)) | (with_reducible apply Blk.alloc) | (with_reducible apply Blk.drew) | (with_reducible apply Blk.drewN))) hB0
    have p1 := Blk.next (g := w.heap.size + 1) (t := 41) (cs := #[.slice A1 a1.pre.facts.length c1, .slice B1 a1.pre.atoms.length d1, .slice E1 a1.post.facts.length e1, .slice F1 a1.post.atoms.length f1, .slice G1 a1.changes.length g1]) (by repeat (first | (with_reducible assumption) | (with_reducible exact Blk.new _ _ _) | ((with_reducible apply Blk.far); (case hp => (first | exact Nat.le_refl _ | (simp; done) | (simp; omega) | (simp only; omega) | omega))) | (with_reducible apply Blk.set_) | ((with_reducible refine Blk.newE ?_); (simp; done)) | (with_reducible apply Blk.alloc) | (with_reducible apply Blk.drew) | (with_reducible apply Blk.drewN))) hB0
    (replace qp0 := p0.cell; replace rp0 := p0.frozen; replace lp0 := p0.lt)
    (replace qp1 := p1.cell; replace rp1 := p1.frozen; replace lp1 := p1.lt)
    go_wp2_with fail
    go_ret
    exact ⟨rfl, (by repeat (first | (with_reducible exact Below.refl _ _) | (with_reducible assumption) | (with_reducible apply bbox) | ((with_reducible apply Below.setCell); (case hp => (first | exact Nat.le_refl _ | (simp; done) | (simp; omega) | (simp only; omega) | omega))) | (with_reducible apply Below.drew) | (with_reducible apply below_drewN)))⟩
  have hz0 := szC_le hs0
  by_cases hs1 : szC a1 (szC a0 1048576) < 0
  · have HZ0 := Lib.hid hz0; clear hz0
    go_enter Try.func5, Try.ntmps5
    go_wp2_with fail
    refine (c_szContract _ a0 1048576 _ ⟨A0, c0, B0, d0, E0, e0, F0, f0, G0, g0, rfl, r0a, r0b, r0c, r0d, r0e⟩ (by have := HZ0.out; omega) (by have := HZ0.out; omega)).mono ?_; rintro e ws0 ⟨rfl, hB0⟩
    have hB := bgo (w := w) (by repeat (first | (with_reducible exact Below.refl _ _) | (with_reducible assumption) | (with_reducible apply bbox) | ((with_reducible apply Below.setCell); (case hp => (first | exact Nat.le_refl _ | (simp; done) | (simp; omega) | (simp only; omega) | omega))) | (with_reducible apply Below.drew) | (with_reducible apply below_drewN))) hB0
    have p0 := Blk.next (g := w.heap.size) (t := 41) (cs := #[.slice A0 a0.pre.facts.length c0, .slice B0 a0.pre.atoms.length d0, .slice E0 a0.post.facts.length e0, .slice F0 a0.post.atoms.length f0, .slice G0 a0.changes.length g0]) (by repeat (first | (with_reducible assumption) | (with_reducible exact Blk.new _ _ _) | ((with_reducible apply Blk.far); (case hp => (first | exact Nat.le_refl _ | (simp; done) | (simp; omega) | (simp only; omega) | omega))) | (with_reducible apply Blk.set_) | ((with_reducible refine Blk.newE ?_); (simp; done)) | (with_reducible apply Blk.alloc) | (with_reducible apply Blk.drew) | (with_reducible apply Blk.drewN))) hB0
    have p1 := Blk.next (g := w.heap.size + 1) (t := 41) (cs := #[.slice A1 a1.pre.facts.length c1, .slice B1 a1.pre.atoms.length d1, .slice E1 a1.post.facts.length e1, .slice F1 a1.post.atoms.length f1, .slice G1 a1.changes.length g1]) (by repeat (first | (with_reducible assumption) | (with_reducible exact Blk.new _ _ _) | ((with_reducible apply Blk.far); (case hp => (first | exact Nat.le_refl _ | (simp; done) | (simp; omega) | (simp only; omega) | omega))) | (with_reducible apply Blk.set_) | ((with_reducible refine Blk.newE ?_); (simp; done)) | (with_reducible apply Blk.alloc) | (with_reducible apply Blk.drew) | (with_reducible apply Blk.drewN))) hB0
    (replace qp0 := p0.cell; replace rp0 := p0.frozen; replace lp0 := p0.lt)
    (replace qp1 := p1.cell; replace rp1 := p1.frozen; replace lp1 := p1.lt)
    go_wp2_with fail
    refine (c_szContract _ a1 (szC a0 1048576) _ ⟨A1, c1, B1, d1, E1, e1, F1, f1, G1, g1, rfl, r1a, r1b, r1c, r1d, r1e⟩ (by have := HZ0.out; omega) (by have := HZ0.out; omega)).mono ?_; rintro e ws1 ⟨rfl, hB1⟩
    replace hB := bgo hB hB1
    replace p0 := p0.next hB1
    replace p1 := p1.next hB1
    (replace qp0 := p0.cell; replace rp0 := p0.frozen; replace lp0 := p0.lt)
    (replace qp1 := p1.cell; replace rp1 := p1.frozen; replace lp1 := p1.lt)
    go_wp2_with fail
    go_ret
    exact ⟨rfl, (by repeat (first | (with_reducible exact Below.refl _ _) | (with_reducible assumption) | (with_reducible apply bbox) | ((with_reducible apply Below.setCell); (case hp => (first | exact Nat.le_refl _ | (simp; done) | (simp; omega) | (simp only; omega) | omega))) | (with_reducible apply Below.drew) | (with_reducible apply below_drewN)))⟩
  have hz1 := szC_le hs1
  have hlen : a0.pre.facts.length ≤ 1048576 ∧ a0.pre.atoms.length ≤ 1048576 ∧ a0.post.facts.length ≤ 1048576 ∧ a0.post.atoms.length ≤ 1048576 ∧ a0.changes.length ≤ 1048576 ∧ a1.pre.facts.length ≤ 1048576 ∧ a1.pre.atoms.length ≤ 1048576 ∧ a1.post.facts.length ≤ 1048576 ∧ a1.post.atoms.length ≤ 1048576 ∧ a1.changes.length ≤ 1048576 := by omega
  have HZ0 : Hid (0 ≤ (szC a0 1048576) ∧ (szC a0 1048576) ≤ 1048576) := ⟨by omega, by omega⟩
  clear hz0
  clear hz1
  obtain ⟨hL0, hL1, hL2, hL3, hL4, hL5, hL6, hL7, hL8, hL9⟩ := hlen
  have hV0 : Hid (CtrV w 0 w.heap.size (.agg #[.slice A0 a0.pre.facts.length c0, .slice B0 a0.pre.atoms.length d0, .slice E0 a0.post.facts.length e0, .slice F0 a0.post.atoms.length f0, .slice G0 a0.changes.length g0]) a0) := ⟨_, _, _, _, _, _, rfl, ⟨_, _, _, _, rfl, r0a.toV (by omega), r0b.toV (by omega)⟩, ⟨_, _, _, _, rfl, r0c.toV (by omega), r0d.toV (by omega)⟩, r0e.toV (by omega)⟩
  have hV1 : Hid (CtrV w 0 w.heap.size (.agg #[.slice A1 a1.pre.facts.length c1, .slice B1 a1.pre.atoms.length d1, .slice E1 a1.post.facts.length e1, .slice F1 a1.post.atoms.length f1, .slice G1 a1.changes.length g1]) a1) := ⟨_, _, _, _, _, _, rfl, ⟨_, _, _, _, rfl, r1a.toV (by omega), r1b.toV (by omega)⟩, ⟨_, _, _, _, rfl, r1c.toV (by omega), r1d.toV (by omega)⟩, r1e.toV (by omega)⟩
  go_enter Try.func5, Try.ntmps5
  go_wp2_with fail
  refine (c_szContract _ a0 1048576 _ ⟨A0, c0, B0, d0, E0, e0, F0, f0, G0, g0, rfl, r0a, r0b, r0c, r0d, r0e⟩ (by have := HZ0.out; omega) (by have := HZ0.out; omega)).mono ?_; rintro e ws0 ⟨rfl, hB0⟩
  have hB := bgo (w := w) (by repeat (first | (with_reducible exact Below.refl _ _) | (with_reducible assumption) | (with_reducible apply bbox) | ((with_reducible apply Below.setCell); (case hp => (first | exact Nat.le_refl _ | (simp; done) | (simp; omega) | (simp only; omega) | omega))) | (with_reducible apply Below.drew) | (with_reducible apply below_drewN))) hB0
  have p0 := Blk.next (g := w.heap.size) (t := 41) (cs := #[.slice A0 a0.pre.facts.length c0, .slice B0 a0.pre.atoms.length d0, .slice E0 a0.post.facts.length e0, .slice F0 a0.post.atoms.length f0, .slice G0 a0.changes.length g0]) (by repeat (first | (with_reducible assumption) | (with_reducible exact Blk.new _ _ _) | ((with_reducible apply Blk.far); (case hp => (first | exact Nat.le_refl _ | (simp; done) | (simp; omega) | (simp only; omega) | omega))) | (with_reducible apply Blk.set_) | ((with_reducible refine Blk.newE ?_); (simp; done)) | (with_reducible apply Blk.alloc) | (with_reducible apply Blk.drew) | (with_reducible apply Blk.drewN))) hB0
  have p1 := Blk.next (g := w.heap.size + 1) (t := 41) (cs := #[.slice A1 a1.pre.facts.length c1, .slice B1 a1.pre.atoms.length d1, .slice E1 a1.post.facts.length e1, .slice F1 a1.post.atoms.length f1, .slice G1 a1.changes.length g1]) (by repeat (first | (with_reducible assumption) | (with_reducible exact Blk.new _ _ _) | ((with_reducible apply Blk.far); (case hp => (first | exact Nat.le_refl _ | (simp; done) | (simp; omega) | (simp only; omega) | omega))) | (with_reducible apply Blk.set_) | ((with_reducible refine Blk.newE ?_); (simp; done)) | (with_reducible apply Blk.alloc) | (with_reducible apply Blk.drew) | (with_reducible apply Blk.drewN))) hB0
  (replace qp0 := p0.cell; replace rp0 := p0.frozen; replace lp0 := p0.lt)
  (replace qp1 := p1.cell; replace rp1 := p1.frozen; replace lp1 := p1.lt)
  go_wp2_with fail
  refine (c_szContract _ a1 (szC a0 1048576) _ ⟨A1, c1, B1, d1, E1, e1, F1, f1, G1, g1, rfl, r1a, r1b, r1c, r1d, r1e⟩ (by have := HZ0.out; omega) (by have := HZ0.out; omega)).mono ?_; rintro e ws1 ⟨rfl, hB1⟩
  replace hB := bgo hB hB1
  replace p0 := p0.next hB1
  replace p1 := p1.next hB1
  (replace qp0 := p0.cell; replace rp0 := p0.frozen; replace lp0 := p0.lt)
  (replace qp1 := p1.cell; replace rp1 := p1.frozen; replace lp1 := p1.lt)
  have zs := hB.size
  have zb0 := p0.lt
  have zb1 := p1.lt
  clear hB0 hB1
  clear r0a r0b r0c r0d r0e
  clear r1a r1b r1c r1d r1e
  go_wp2_with fail
  have tok0 : True := trivial
  have tok1 : True := trivial
  go_region_held3 (fun w' => (∀ i, w'.cell? ⟨w.heap.size, i, none⟩ = #[.slice A0 a0.pre.facts.length c0, .slice B0 a0.pre.atoms.length d0, .slice E0 a0.post.facts.length e0, .slice F0 a0.post.atoms.length f0, .slice G0 a0.changes.length g0][i]?) ∧ (∀ i, w'.cell? ⟨w.heap.size + 1, i, none⟩ = #[.slice A1 a1.pre.facts.length c1, .slice B1 a1.pre.atoms.length d1, .slice E1 a1.post.facts.length e1, .slice F1 a1.post.atoms.length f1, .slice G1 a1.changes.length g1][i]?))
    (first | exact ⟨p0.cell, p1.cell⟩ | exact ⟨p0.drew.cell, p1.drew.cell⟩)
    (first
      | (have _t := tok0; go_at_call 26; refine (to_ctr _ a0 _ (hV0.out.below (by repeat (first | (with_reducible exact Below.refl _ _) | (with_reducible assumption) | (with_reducible apply bbox) | ((with_reducible apply Below.setCell); (case hp => (first | exact Nat.le_refl _ | (simp; done) | (simp; omega) | (simp only; omega) | omega))) | (with_reducible apply Below.drew) | (with_reducible apply below_drewN))))).mono ?_; clear tok0; rintro e w1 ⟨ys0, rfl, os0, hBx⟩; have hS : Below ws1.heap.size ws1 w1 := bgo (Below.refl ws1.heap.size ws1).drew hBx; replace hB := bgo hB hS; replace p0 := p0.drew.next hBx; replace p1 := p1.drew.next hBx)
      | (have _t := tok1; go_at_call 26; refine (to_ctr _ a1 _ (hV1.out.below (by repeat (first | (with_reducible exact Below.refl _ _) | (with_reducible assumption) | (with_reducible apply bbox) | ((with_reducible apply Below.setCell); (case hp => (first | exact Nat.le_refl _ | (simp; done) | (simp; omega) | (simp only; omega) | omega))) | (with_reducible apply Below.drew) | (with_reducible apply below_drewN))))).mono ?_; clear tok1; rintro e w2 ⟨ys1, rfl, os1, hBx⟩; replace hS := bgo hS hBx; replace hB := bgo hB hBx; replace p0 := p0.next hBx; replace p1 := p1.next hBx; replace os0 := os0.below hBx)
      | (go_at_call 31; refine (c_spec_Refines _ _ a0 a1 _ os0.reads os1.reads).mono ?_; rintro e w3 ⟨rfl, hBx⟩; replace hS := bgo hS hBx; replace hB := bgo hB hBx; replace p0 := p0.next hBx; replace p1 := p1.next hBx))
  have zw3 := hS.size
  clear hS os0 os1
  (replace qp0 := p0.cell; replace rp0 := p0.frozen; replace lp0 := p0.lt)
  (replace qp1 := p1.cell; replace rp1 := p1.frozen; replace lp1 := p1.lt)
  obtain ⟨sb, hsb⟩ : ∃ b, (refF a0 a1) = b := ⟨_, rfl⟩
  have HSB := Lib.hid hsb
  rw [hsb]
  clear hsb
  go_wp2_with fail
  refine (to_ctr _ a0 _ (hV0.out.below (by repeat (first | (with_reducible exact Below.refl _ _) | (with_reducible assumption) | (with_reducible apply bbox) | ((with_reducible apply Below.setCell); (case hp => (first | exact Nat.le_refl _ | (simp; done) | (simp; omega) | (simp only; omega) | omega))) | (with_reducible apply Below.drew) | (with_reducible apply below_drewN))))).mono ?_
  rintro e w4 ⟨y, rfl, X0, hBx⟩
  have hS := bgo (w := w3) (by repeat (first | (with_reducible exact Below.refl _ _) | (with_reducible assumption) | (with_reducible apply bbox) | ((with_reducible apply Below.setCell); (case hp => (first | exact Nat.le_refl _ | (simp; done) | (simp; omega) | (simp only; omega) | omega))) | (with_reducible apply Below.drew) | (with_reducible apply below_drewN))) hBx
  have zw4 := hBx.size
  replace hB := bgo hB hS
  replace p0 := p0.next hS
  replace p1 := p1.next hS
  clear hS hBx
  (replace qp0 := p0.cell; replace rp0 := p0.frozen; replace lp0 := p0.lt)
  (replace qp1 := p1.cell; replace rp1 := p1.frozen; replace lp1 := p1.lt)
  obtain ⟨Ax0, cx0, Bx0, dx0, Ex0, ex0, Fx0, fx0, Gx0, gx0, rfl⟩ := X0.form
  go_wp2_with fail
  refine (to_ctr _ a1 _ (hV1.out.below (by repeat (first | (with_reducible exact Below.refl _ _) | (with_reducible assumption) | (with_reducible apply bbox) | ((with_reducible apply Below.setCell); (case hp => (first | exact Nat.le_refl _ | (simp; done) | (simp; omega) | (simp only; omega) | omega))) | (with_reducible apply Below.drew) | (with_reducible apply below_drewN))))).mono ?_
  rintro e w5 ⟨y, rfl, X1, hBx⟩
  rw [World.size_alloc] at X1
  have hS := bgo (w := w4) (by repeat (first | (with_reducible exact Below.refl _ _) | (with_reducible assumption) | (with_reducible apply bbox) | ((with_reducible apply Below.setCell); (case hp => (first | exact Nat.le_refl _ | (simp; done) | (simp; omega) | (simp only; omega) | omega))) | (with_reducible apply Below.drew) | (with_reducible apply below_drewN))) hBx
  have zw5 := hBx.size
  simp only [World.size_alloc] at zw5
  replace hB := bgo hB hS
  replace p0 := p0.next hS
  replace p1 := p1.next hS
  replace X0 := X0.below hS
  have px0 := Blk.next (g := w4.heap.size) (t := 44) (cs := #[.slice Ax0 a0.pre.facts.length cx0, .slice Bx0 a0.pre.atoms.length dx0, .slice Ex0 a0.post.facts.length ex0, .slice Fx0 a0.post.atoms.length fx0, .slice Gx0 a0.changes.length gx0]) (by repeat (first | (with_reducible assumption) | (with_reducible exact Blk.new _ _ _) | ((with_reducible apply Blk.far); (case hp => (first | exact Nat.le_refl _ | (simp; done) | (simp; omega) | (simp only; omega) | omega))) | (with_reducible apply Blk.set_) | ((with_reducible refine Blk.newE ?_); (simp; done)) | (with_reducible apply Blk.alloc) | (with_reducible apply Blk.drew) | (with_reducible apply Blk.drewN))) hBx
  clear hS hBx
  (replace qp0 := p0.cell; replace rp0 := p0.frozen; replace lp0 := p0.lt)
  (replace qp1 := p1.cell; replace rp1 := p1.frozen; replace lp1 := p1.lt)
  (replace qpx0 := px0.cell; replace rpx0 := px0.frozen; replace lpx0 := px0.lt)
  obtain ⟨Ax1, cx1, Bx1, dx1, Ex1, ex1, Fx1, fx1, Gx1, gx1, rfl⟩ := X1.form
  go_wp2_with fail
  refine (c_impl_Refines _ _ a0 a1 _ (X0.below (by repeat (first | (with_reducible exact Below.refl _ _) | (with_reducible assumption) | (with_reducible apply bbox) | ((with_reducible apply Below.setCell); (case hp => (first | exact Nat.le_refl _ | (simp; done) | (simp; omega) | (simp only; omega) | omega))) | (with_reducible apply Below.drew) | (with_reducible apply below_drewN)))).reads (X1.below (by repeat (first | (with_reducible exact Below.refl _ _) | (with_reducible assumption) | (with_reducible apply bbox) | ((with_reducible apply Below.setCell); (case hp => (first | exact Nat.le_refl _ | (simp; done) | (simp; omega) | (simp only; omega) | omega))) | (with_reducible apply Below.drew) | (with_reducible apply below_drewN)))).reads (by first | omega | (simp; omega)) (by first | omega | (simp; omega))).mono ?_
  rintro e w6 ⟨rfl, hBx⟩
  rw [HSB.out]
  have hS := bgo (w := w5) (by repeat (first | (with_reducible exact Below.refl _ _) | (with_reducible assumption) | (with_reducible apply bbox) | ((with_reducible apply Below.setCell); (case hp => (first | exact Nat.le_refl _ | (simp; done) | (simp; omega) | (simp only; omega) | omega))) | (with_reducible apply Below.drew) | (with_reducible apply below_drewN))) hBx
  have zw6 := hBx.size
  simp only [World.size_alloc] at zw6
  replace hB := bgo hB hS
  replace p0 := p0.next hS
  replace p1 := p1.next hS
  replace px0 := px0.next hS
  replace X0 := X0.below hS
  replace X1 := X1.below hS
  have px1 := Blk.next (g := w5.heap.size) (t := 44) (cs := #[.slice Ax1 a1.pre.facts.length cx1, .slice Bx1 a1.pre.atoms.length dx1, .slice Ex1 a1.post.facts.length ex1, .slice Fx1 a1.post.atoms.length fx1, .slice Gx1 a1.changes.length gx1]) (by repeat (first | (with_reducible assumption) | (with_reducible exact Blk.new _ _ _) | ((with_reducible apply Blk.far); (case hp => (first | exact Nat.le_refl _ | (simp; done) | (simp; omega) | (simp only; omega) | omega))) | (with_reducible apply Blk.set_) | ((with_reducible refine Blk.newE ?_); (simp; done)) | (with_reducible apply Blk.alloc) | (with_reducible apply Blk.drew) | (with_reducible apply Blk.drewN))) hBx
  clear hS hBx
  (replace qp0 := p0.cell; replace rp0 := p0.frozen; replace lp0 := p0.lt)
  (replace qp1 := p1.cell; replace rp1 := p1.frozen; replace lp1 := p1.lt)
  (replace qpx0 := px0.cell; replace rpx0 := px0.frozen; replace lpx0 := px0.lt)
  (replace qpx1 := px1.cell; replace rpx1 := px1.frozen; replace lpx1 := px1.lt)
  go_wp2_with fail
  go_region_held3 (fun w' => (∀ i, w'.cell? ⟨w.heap.size, i, none⟩ = #[.slice A0 a0.pre.facts.length c0, .slice B0 a0.pre.atoms.length d0, .slice E0 a0.post.facts.length e0, .slice F0 a0.post.atoms.length f0, .slice G0 a0.changes.length g0][i]?) ∧ (∀ i, w'.cell? ⟨w4.heap.size, i, none⟩ = #[.slice Ax0 a0.pre.facts.length cx0, .slice Bx0 a0.pre.atoms.length dx0, .slice Ex0 a0.post.facts.length ex0, .slice Fx0 a0.post.atoms.length fx0, .slice Gx0 a0.changes.length gx0][i]?))
    (first | exact ⟨p0.cell, px0.cell⟩ | exact ⟨p0.drew.cell, px0.drew.cell⟩)
    (first
      | (go_at_call 26; refine (to_ctr _ a0 _ (hV0.out.below (by repeat (first | (with_reducible exact Below.refl _ _) | (with_reducible assumption) | (with_reducible apply bbox) | ((with_reducible apply Below.setCell); (case hp => (first | exact Nat.le_refl _ | (simp; done) | (simp; omega) | (simp only; omega) | omega))) | (with_reducible apply Below.drew) | (with_reducible apply below_drewN))))).mono ?_; rintro e w7 ⟨y, rfl, oz, hBx⟩; have hS : Below w6.heap.size w6 w7 := bgo (Below.refl w6.heap.size w6).drew hBx; replace hB := bgo hB hS; replace p0 := p0.drew.next hBx; replace p1 := p1.drew.next hBx; replace px0 := px0.drew.next hBx; replace px1 := px1.drew.next hBx)
      | (go_at_call 28; refine (t_ctr _ _ a0 _ (X0.below hS).reads oz.reads).mono ?_; rintro e w8 ⟨rfl, hBx⟩; replace hS := bgo hS hBx; replace hB := bgo hB hBx; replace p0 := p0.next hBx; replace p1 := p1.next hBx; replace px0 := px0.next hBx; replace px1 := px1.next hBx))
  have zw8 := hS.size
  replace X0 := X0.below hS
  replace X1 := X1.below hS
  clear hS oz
  (replace qp0 := p0.cell; replace rp0 := p0.frozen; replace lp0 := p0.lt)
  (replace qp1 := p1.cell; replace rp1 := p1.frozen; replace lp1 := p1.lt)
  (replace qpx0 := px0.cell; replace rpx0 := px0.frozen; replace lpx0 := px0.lt)
  (replace qpx1 := px1.cell; replace rpx1 := px1.frozen; replace lpx1 := px1.lt)
  go_wp2_with fail
  go_region_held3 (fun w' => (∀ i, w'.cell? ⟨w.heap.size + 1, i, none⟩ = #[.slice A1 a1.pre.facts.length c1, .slice B1 a1.pre.atoms.length d1, .slice E1 a1.post.facts.length e1, .slice F1 a1.post.atoms.length f1, .slice G1 a1.changes.length g1][i]?) ∧ (∀ i, w'.cell? ⟨w5.heap.size, i, none⟩ = #[.slice Ax1 a1.pre.facts.length cx1, .slice Bx1 a1.pre.atoms.length dx1, .slice Ex1 a1.post.facts.length ex1, .slice Fx1 a1.post.atoms.length fx1, .slice Gx1 a1.changes.length gx1][i]?))
    (first | exact ⟨p1.cell, px1.cell⟩ | exact ⟨p1.drew.cell, px1.drew.cell⟩)
    (first
      | (go_at_call 26; refine (to_ctr _ a1 _ (hV1.out.below (by repeat (first | (with_reducible exact Below.refl _ _) | (with_reducible assumption) | (with_reducible apply bbox) | ((with_reducible apply Below.setCell); (case hp => (first | exact Nat.le_refl _ | (simp; done) | (simp; omega) | (simp only; omega) | omega))) | (with_reducible apply Below.drew) | (with_reducible apply below_drewN))))).mono ?_; rintro e w9 ⟨y, rfl, oz, hBx⟩; have hS : Below w8.heap.size w8 w9 := bgo (Below.refl w8.heap.size w8).drew hBx; replace hB := bgo hB hS; replace p0 := p0.drew.next hBx; replace p1 := p1.drew.next hBx; replace px0 := px0.drew.next hBx; replace px1 := px1.drew.next hBx)
      | (go_at_call 28; refine (t_ctr _ _ a1 _ (X1.below hS).reads oz.reads).mono ?_; rintro e w10 ⟨rfl, hBx⟩; replace hS := bgo hS hBx; replace hB := bgo hB hBx; replace p0 := p0.next hBx; replace p1 := p1.next hBx; replace px0 := px0.next hBx; replace px1 := px1.next hBx))
  have zw10 := hS.size
  replace X0 := X0.below hS
  replace X1 := X1.below hS
  clear hS oz
  (replace qp0 := p0.cell; replace rp0 := p0.frozen; replace lp0 := p0.lt)
  (replace qp1 := p1.cell; replace rp1 := p1.frozen; replace lp1 := p1.lt)
  (replace qpx0 := px0.cell; replace rpx0 := px0.frozen; replace lpx0 := px0.lt)
  (replace qpx1 := px1.cell; replace rpx1 := px1.frozen; replace lpx1 := px1.lt)
  go_wp2_with fail
  go_ret
  exact ⟨rfl, hB⟩
end Go.Proofs.Ytkiogmimolnkgaa
