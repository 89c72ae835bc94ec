/- 'laws.FnExactTidyAssertion' returns true for all arguments that can be read. -/
import Derived.Test.YtcabejniphlobaaKit
import Derived.Test.YtcabejniphlobaaTidyJ
import Derived.Test.YtcabejniphlobaaTidyT
import Derived.Deep.RegionHeld3
import Derived.Deep.DrawnRows
namespace Go.Proofs.Ytcabejniphlobaa
open Go Go.RowKit Go.Proofs
attribute [local go_sem ↓] Go.wp_at_zero Go.wp_at_succ

--@ laws.FnExactTidyAssertion
theorem tidyB_eq : tidyB = tidyA := rfl
set_option maxHeartbeats 6400000 in
theorem c_FnExactTidyAssertion (v0 : Value) (a0 : Asn) (v1 : Value) (a1 : List Int) (w : World) (h0 : AsnR w v0 a0) (h1 : ∃ A c, v1 = .slice A a1.length c ∧ IntsR w A a1) : Calls Try.prog 5 #[v0, v1] w fun e w' => e = .returned (.bool true) ∧ Below w.heap.size w w' := by
  obtain ⟨A0, c0, B0, d0, rfl, r0a, r0b⟩ := h0
  obtain ⟨A1, c1, rfl, r1a⟩ := h1
  by_cases hn1 : 1048576 < a1.length
  · have hnl1 := r1a.2
    go_enter Try.func5, Try.ntmps5
    go_wp2_with fail
    go_ret
    exact ⟨rfl, (by repeat (first | (with_reducible exact Below.refl _ _) | (with_reducible assumption) | (with_reducible apply bbox) | ((with_reducible apply Below.setCell); (case hp => (first | exact Nat.le_refl _ | (simp; done) | (simp; omega) | (simp only; omega) | omega))) | (with_reducible apply Below.drew) | (with_reducible apply below_drewN)))⟩
  have hnl1 : a1.length ≤ 1048576 := by omega
  clear hn1
  by_cases hs0 : szA a0 1048576 < 0
  · go_enter Try.func5, Try.ntmps5
    go_wp2_with fail
    refine (c_szAssertion _ _ _ _ a0 1048576 _ r0a.2 r0b.2 (by omega) (by omega)).mono ?_; rintro e ws0 ⟨rfl, hB0⟩
    have hB := bgo (w := w) (by repeat (first | (with_reducible exact Below.refl _ _) | (with_reducible assumption) | (with_reducible apply bbox) | ((with_reducible apply Below.setCell); (case hp => (first | exact Nat.le_refl _ | (simp; done) | (simp; omega) | (simp only; omega) | omega))) | (with_reducible apply Below.drew) | (with_reducible apply below_drewN))) hB0
    have p0 := Blk.next (g := w.heap.size) (t := 28) (cs := #[.slice A0 a0.facts.length c0, .slice B0 a0.atoms.length d0]) (by repeat (first | (with_reducible assumption) | (with_reducible exact Blk.new _ _ _) | ((with_reducible apply Blk.far); (case hp => (first | exact Nat.le_refl _ | (simp; done) | (simp; omega) | (simp only; omega) | omega))) | (with_reducible apply Blk.set_) | ((with_reducible refine Blk.newE ?_); (simp; done)) | (with_reducible apply Blk.alloc) | (with_reducible apply Blk.drew) | (with_reducible apply Blk.drewN))) hB0
    (replace qp0 := p0.cell; replace rp0 := p0.frozen; replace lp0 := p0.lt)
    go_wp2_with fail
    go_ret
    exact ⟨rfl, (by repeat (first | (with_reducible exact Below.refl _ _) | (with_reducible assumption) | (with_reducible apply bbox) | ((with_reducible apply Below.setCell); (case hp => (first | exact Nat.le_refl _ | (simp; done) | (simp; omega) | (simp only; omega) | omega))) | (with_reducible apply Below.drew) | (with_reducible apply below_drewN)))⟩
  have hz0 := szA_le hs0
  have hlen : a0.facts.length ≤ 1048576 ∧ a0.atoms.length ≤ 1048576 := by omega
  clear hz0
  obtain ⟨hL0, hL1⟩ := hlen
  have hV0 : Hid (AsnV w 0 w.heap.size (.agg #[.slice A0 a0.facts.length c0, .slice B0 a0.atoms.length d0]) a0) := ⟨_, _, _, _, rfl, r0a.toV (by omega), r0b.toV (by omega)⟩
  have hV1 : Hid (IntsV w 0 w.heap.size A1 a1) := r1a.toV (by omega)
  go_enter Try.func5, Try.ntmps5
  go_wp2_with fail
  refine (c_szAssertion _ _ _ _ a0 1048576 _ r0a.2 r0b.2 (by omega) (by omega)).mono ?_; rintro e ws0 ⟨rfl, hB0⟩
  have hB := bgo (w := w) (by repeat (first | (with_reducible exact Below.refl _ _) | (with_reducible assumption) | (with_reducible apply bbox) | ((with_reducible apply Below.setCell); (case hp => (first | exact Nat.le_refl _ | (simp; done) | (simp; omega) | (simp only; omega) | omega))) | (with_reducible apply Below.drew) | (with_reducible apply below_drewN))) hB0
  have p0 := Blk.next (g := w.heap.size) (t := 28) (cs := #[.slice A0 a0.facts.length c0, .slice B0 a0.atoms.length d0]) (by repeat (first | (with_reducible assumption) | (with_reducible exact Blk.new _ _ _) | ((with_reducible apply Blk.far); (case hp => (first | exact Nat.le_refl _ | (simp; done) | (simp; omega) | (simp only; omega) | omega))) | (with_reducible apply Blk.set_) | ((with_reducible refine Blk.newE ?_); (simp; done)) | (with_reducible apply Blk.alloc) | (with_reducible apply Blk.drew) | (with_reducible apply Blk.drewN))) hB0
  (replace qp0 := p0.cell; replace rp0 := p0.frozen; replace lp0 := p0.lt)
  have zs := hB.size
  have zb0 := p0.lt
  clear hB0
  clear r0a r0b
  clear r1a
  go_wp2_with fail
  refine (to_asn _ a0 _ (hV0.out.below (by repeat (first | (with_reducible exact Below.refl _ _) | (with_reducible assumption) | (with_reducible apply bbox) | ((with_reducible apply Below.setCell); (case hp => (first | exact Nat.le_refl _ | (simp; done) | (simp; omega) | (simp only; omega) | omega))) | (with_reducible apply Below.drew) | (with_reducible apply below_drewN))))).mono ?_
  rintro e w1 ⟨ys0, rfl, os0, hBx⟩
  have hS := bgo (w := ws0) (by repeat (first | (with_reducible exact Below.refl _ _) | (with_reducible assumption) | (with_reducible apply bbox) | ((with_reducible apply Below.setCell); (case hp => (first | exact Nat.le_refl _ | (simp; done) | (simp; omega) | (simp only; omega) | omega))) | (with_reducible apply Below.drew) | (with_reducible apply below_drewN))) hBx
  have zw1 := hBx.size
  replace hB := bgo hB hS
  replace p0 := p0.next hS
  clear hS hBx
  (replace qp0 := p0.cell; replace rp0 := p0.frozen; replace lp0 := p0.lt)
  go_wp2_with fail
  refine (to_ints _ _ a1 _ (hV1.out.below (by repeat (first | (with_reducible exact Below.refl _ _) | (with_reducible assumption) | (with_reducible apply bbox) | ((with_reducible apply Below.setCell); (case hp => (first | exact Nat.le_refl _ | (simp; done) | (simp; omega) | (simp only; omega) | omega))) | (with_reducible apply Below.drew) | (with_reducible apply below_drewN))))).mono ?_
  rintro e w2 ⟨ys1, rfl, os1, hBx⟩
  obtain ⟨Ks1, es1, rfl⟩ := os1.form
  have hS := bgo (w := w1) (by repeat (first | (with_reducible exact Below.refl _ _) | (with_reducible assumption) | (with_reducible apply bbox) | ((with_reducible apply Below.setCell); (case hp => (first | exact Nat.le_refl _ | (simp; done) | (simp; omega) | (simp only; omega) | omega))) | (with_reducible apply Below.drew) | (with_reducible apply below_drewN))) hBx
  have zw2 := hBx.size
  replace hB := bgo hB hS
  replace p0 := p0.next hS
  replace os0 := os0.below hS
  clear hS hBx
  (replace qp0 := p0.cell; replace rp0 := p0.frozen; replace lp0 := p0.lt)
  go_wp2_with fail
  refine (c_spec_TidyAssertion _ a0 _ _ a1 _ (os0.below (by repeat (first | (with_reducible exact Below.refl _ _) | (with_reducible assumption) | (with_reducible apply bbox) | ((with_reducible apply Below.setCell); (case hp => (first | exact Nat.le_refl _ | (simp; done) | (simp; omega) | (simp only; omega) | omega))) | (with_reducible apply Below.drew) | (with_reducible apply below_drewN)))).reads (os1.below (by repeat (first | (with_reducible exact Below.refl _ _) | (with_reducible assumption) | (with_reducible apply bbox) | ((with_reducible apply Below.setCell); (case hp => (first | exact Nat.le_refl _ | (simp; done) | (simp; omega) | (simp only; omega) | omega))) | (with_reducible apply Below.drew) | (with_reducible apply below_drewN)))).reads).mono ?_
  rintro e w3 ⟨rw0, rfl, orw0, hBx⟩
  have hS := bgo (w := w2) (by repeat (first | (with_reducible exact Below.refl _ _) | (with_reducible assumption) | (with_reducible apply bbox) | ((with_reducible apply Below.setCell); (case hp => (first | exact Nat.le_refl _ | (simp; done) | (simp; omega) | (simp only; omega) | omega))) | (with_reducible apply Below.drew) | (with_reducible apply below_drewN))) hBx
  have zw3 := hBx.size
  replace hB := bgo hB hS
  replace p0 := p0.next hS
  replace os0 := os0.below hS
  replace os1 := os1.below hS
  clear hS hBx
  (replace qp0 := p0.cell; replace rp0 := p0.frozen; replace lp0 := p0.lt)
  clear os0 os1
  rw [tidyB_eq] at orw0 ⊢
  obtain ⟨D, hD⟩ : ∃ D, ((tidyA (tset a1) a0).getD ⟨[], []⟩) = D := ⟨_, rfl⟩
  have HD := Lib.hid hD
  rw [hD] at orw0
  clear hD
  obtain ⟨sb, hsb⟩ : ∃ b, (tidyA (tset a1) a0).isSome = b := ⟨_, rfl⟩
  have HSB := Lib.hid hsb
  rw [hsb]
  clear hsb
  have Xw := orw0.I
  clear orw0
  obtain ⟨Aw, cw, Bw, dw, rfl⟩ := Xw.form
  go_wp2_with fail
  refine (to_asn _ a0 _ (hV0.out.below (by repeat (first | (with_reducible exact Below.refl _ _) | (with_reducible assumption) | (with_reducible apply bbox) | ((with_reducible apply Below.setCell); (case hp => (first | exact Nat.le_refl _ | (simp; done) | (simp; omega) | (simp only; omega) | omega))) | (with_reducible apply Below.drew) | (with_reducible apply below_drewN))))).mono ?_
  rintro e w4 ⟨y, rfl, X0, hBx⟩
  rw [World.size_alloc] at X0
  have hS := bgo (w := w3) (by repeat (first | (with_reducible exact Below.refl _ _) | (with_reducible assumption) | (with_reducible apply bbox) | ((with_reducible apply Below.setCell); (case hp => (first | exact Nat.le_refl _ | (simp; done) | (simp; omega) | (simp only; omega) | omega))) | (with_reducible apply Below.drew) | (with_reducible apply below_drewN))) hBx
  have zw4 := hBx.size
  simp only [World.size_alloc] at zw4
  replace hB := bgo hB hS
  replace p0 := p0.next hS
  replace Xw := Xw.below hS
  have pw := Blk.next (g := w3.heap.size) (t := 38) (cs := #[.slice Aw D.facts.length cw, .slice Bw D.atoms.length dw]) (by repeat (first | (with_reducible assumption) | (with_reducible exact Blk.new _ _ _) | ((with_reducible apply Blk.far); (case hp => (first | exact Nat.le_refl _ | (simp; done) | (simp; omega) | (simp only; omega) | omega))) | (with_reducible apply Blk.set_) | ((with_reducible refine Blk.newE ?_); (simp; done)) | (with_reducible apply Blk.alloc) | (with_reducible apply Blk.drew) | (with_reducible apply Blk.drewN))) hBx
  clear hS hBx
  (replace qp0 := p0.cell; replace rp0 := p0.frozen; replace lp0 := p0.lt)
  (replace qpw := pw.cell; replace rpw := pw.frozen; replace lpw := pw.lt)
  obtain ⟨Ax0, cx0, Bx0, dx0, rfl⟩ := X0.form
  go_wp2_with fail
  refine (to_ints _ _ a1 _ (hV1.out.below (by repeat (first | (with_reducible exact Below.refl _ _) | (with_reducible assumption) | (with_reducible apply bbox) | ((with_reducible apply Below.setCell); (case hp => (first | exact Nat.le_refl _ | (simp; done) | (simp; omega) | (simp only; omega) | omega))) | (with_reducible apply Below.drew) | (with_reducible apply below_drewN))))).mono ?_
  rintro e w5 ⟨y, rfl, X1, hBx⟩
  rw [World.size_alloc] at X1
  have hS := bgo (w := w4) (by repeat (first | (with_reducible exact Below.refl _ _) | (with_reducible assumption) | (with_reducible apply bbox) | ((with_reducible apply Below.setCell); (case hp => (first | exact Nat.le_refl _ | (simp; done) | (simp; omega) | (simp only; omega) | omega))) | (with_reducible apply Below.drew) | (with_reducible apply below_drewN))) hBx
  have zw5 := hBx.size
  simp only [World.size_alloc] at zw5
  replace hB := bgo hB hS
  replace p0 := p0.next hS
  replace pw := pw.next hS
  replace Xw := Xw.below hS
  replace X0 := X0.below hS
  have px0 := Blk.next (g := w4.heap.size) (t := 38) (cs := #[.slice Ax0 a0.facts.length cx0, .slice Bx0 a0.atoms.length dx0]) (by repeat (first | (with_reducible assumption) | (with_reducible exact Blk.new _ _ _) | ((with_reducible apply Blk.far); (case hp => (first | exact Nat.le_refl _ | (simp; done) | (simp; omega) | (simp only; omega) | omega))) | (with_reducible apply Blk.set_) | ((with_reducible refine Blk.newE ?_); (simp; done)) | (with_reducible apply Blk.alloc) | (with_reducible apply Blk.drew) | (with_reducible apply Blk.drewN))) hBx
  clear hS hBx
  (replace qp0 := p0.cell; replace rp0 := p0.frozen; replace lp0 := p0.lt)
  (replace qpw := pw.cell; replace rpw := pw.frozen; replace lpw := pw.lt)
  (replace qpx0 := px0.cell; replace rpx0 := px0.frozen; replace lpx0 := px0.lt)
  obtain ⟨Ax1, cx1, rfl⟩ := X1.form
  go_wp2_with fail
  refine (c_impl_TidyAssertion _ a0 _ _ a1 _ (X0.below (by repeat (first | (with_reducible exact Below.refl _ _) | (with_reducible assumption) | (with_reducible apply bbox) | ((with_reducible apply Below.setCell); (case hp => (first | exact Nat.le_refl _ | (simp; done) | (simp; omega) | (simp only; omega) | omega))) | (with_reducible apply Below.drew) | (with_reducible apply below_drewN)))).reads (X1.below (by repeat (first | (with_reducible exact Below.refl _ _) | (with_reducible assumption) | (with_reducible apply bbox) | ((with_reducible apply Below.setCell); (case hp => (first | exact Nat.le_refl _ | (simp; done) | (simp; omega) | (simp only; omega) | omega))) | (with_reducible apply Below.drew) | (with_reducible apply below_drewN)))).reads).mono ?_
  rintro e w6 ⟨rg0, rfl, org0, hBx⟩
  rw [HD.out] at org0
  have Xg := org0.I
  clear org0
  rw [HSB.out]
  have hS := bgo (w := w5) (by repeat (first | (with_reducible exact Below.refl _ _) | (with_reducible assumption) | (with_reducible apply bbox) | ((with_reducible apply Below.setCell); (case hp => (first | exact Nat.le_refl _ | (simp; done) | (simp; omega) | (simp only; omega) | omega))) | (with_reducible apply Below.drew) | (with_reducible apply below_drewN))) hBx
  have zw6 := hBx.size
  replace hB := bgo hB hS
  replace p0 := p0.next hS
  replace pw := pw.next hS
  replace px0 := px0.next hS
  replace Xw := Xw.below hS
  replace X0 := X0.below hS
  replace X1 := X1.below hS
  clear hS hBx
  (replace qp0 := p0.cell; replace rp0 := p0.frozen; replace lp0 := p0.lt)
  (replace qpw := pw.cell; replace rpw := pw.frozen; replace lpw := pw.lt)
  (replace qpx0 := px0.cell; replace rpx0 := px0.frozen; replace lpx0 := px0.lt)
  obtain ⟨Ag, cg, Bg, dg, rfl⟩ := Xg.form
  have hLD := Xg.len
  go_wp2_with fail
  refine (t_asn _ _ D _ (Xg.below (by repeat (first | (with_reducible exact Below.refl _ _) | (with_reducible assumption) | (with_reducible apply bbox) | ((with_reducible apply Below.setCell); (case hp => (first | exact Nat.le_refl _ | (simp; done) | (simp; omega) | (simp only; omega) | omega))) | (with_reducible apply Below.drew) | (with_reducible apply below_drewN)))).reads (Xw.below (by repeat (first | (with_reducible exact Below.refl _ _) | (with_reducible assumption) | (with_reducible apply bbox) | ((with_reducible apply Below.setCell); (case hp => (first | exact Nat.le_refl _ | (simp; done) | (simp; omega) | (simp only; omega) | omega))) | (with_reducible apply Below.drew) | (with_reducible apply below_drewN)))).reads).mono ?_
  rintro e w7 ⟨rfl, hBx⟩
  have hS := bgo (w := w6) (by repeat (first | (with_reducible exact Below.refl _ _) | (with_reducible assumption) | (with_reducible apply bbox) | ((with_reducible apply Below.setCell); (case hp => (first | exact Nat.le_refl _ | (simp; done) | (simp; omega) | (simp only; omega) | omega))) | (with_reducible apply Below.drew) | (with_reducible apply below_drewN))) hBx
  have zw7 := hBx.size
  simp only [World.size_alloc] at zw7
  replace hB := bgo hB hS
  replace p0 := p0.next hS
  replace pw := pw.next hS
  replace px0 := px0.next hS
  replace Xw := Xw.below hS
  replace X0 := X0.below hS
  replace X1 := X1.below hS
  replace Xg := Xg.below hS
  have pg := Blk.next (g := w6.heap.size) (t := 38) (cs := #[.slice Ag D.facts.length cg, .slice Bg D.atoms.length dg]) (by repeat (first | (with_reducible assumption) | (with_reducible exact Blk.new _ _ _) | ((with_reducible apply Blk.far); (case hp => (first | exact Nat.le_refl _ | (simp; done) | (simp; omega) | (simp only; omega) | omega))) | (with_reducible apply Blk.set_) | ((with_reducible refine Blk.newE ?_); (simp; done)) | (with_reducible apply Blk.alloc) | (with_reducible apply Blk.drew) | (with_reducible apply Blk.drewN))) hBx
  clear hS hBx
  (replace qp0 := p0.cell; replace rp0 := p0.frozen; replace lp0 := p0.lt)
  (replace qpw := pw.cell; replace rpw := pw.frozen; replace lpw := pw.lt)
  (replace qpx0 := px0.cell; replace rpx0 := px0.frozen; replace lpx0 := px0.lt)
  (replace qpg := pg.cell; replace rpg := pg.frozen; replace lpg := pg.lt)
  go_wp2_with fail
  go_region_held3 (fun w' => (∀ i, w'.cell? ⟨w.heap.size, i, none⟩ = #[.slice A0 a0.facts.length c0, .slice B0 a0.atoms.length d0][i]?) ∧ (∀ i, w'.cell? ⟨w4.heap.size, i, none⟩ = #[.slice Ax0 a0.facts.length cx0, .slice Bx0 a0.atoms.length dx0][i]?))
    (first | exact ⟨p0.cell, px0.cell⟩ | exact ⟨p0.drew.cell, px0.drew.cell⟩)
    (first
      | (go_at_call 19; refine (to_asn _ a0 _ (hV0.out.below (by repeat (first | (with_reducible exact Below.refl _ _) | (with_reducible assumption) | (with_reducible apply bbox) | ((with_reducible apply Below.setCell); (case hp => (first | exact Nat.le_refl _ | (simp; done) | (simp; omega) | (simp only; omega) | omega))) | (with_reducible apply Below.drew) | (with_reducible apply below_drewN))))).mono ?_; rintro e w8 ⟨y, rfl, oz, hBx⟩; have hS : Below w7.heap.size w7 w8 := bgo (Below.refl w7.heap.size w7).drew hBx; replace hB := bgo hB hS; replace p0 := p0.drew.next hBx; replace pw := pw.drew.next hBx; replace px0 := px0.drew.next hBx; replace pg := pg.drew.next hBx)
      | (go_at_call 23; refine (t_asn _ _ a0 _ (X0.below hS).reads oz.reads).mono ?_; rintro e w9 ⟨rfl, hBx⟩; replace hS := bgo hS hBx; replace hB := bgo hB hBx; replace p0 := p0.next hBx; replace pw := pw.next hBx; replace px0 := px0.next hBx; replace pg := pg.next hBx))
  have zw9 := hS.size
  replace Xw := Xw.below hS
  replace X0 := X0.below hS
  replace X1 := X1.below hS
  replace Xg := Xg.below hS
  clear hS oz
  (replace qp0 := p0.cell; replace rp0 := p0.frozen; replace lp0 := p0.lt)
  (replace qpw := pw.cell; replace rpw := pw.frozen; replace lpw := pw.lt)
  (replace qpx0 := px0.cell; replace rpx0 := px0.frozen; replace lpx0 := px0.lt)
  (replace qpg := pg.cell; replace rpg := pg.frozen; replace lpg := pg.lt)
  go_wp2_with fail
  refine (to_ints _ _ a1 _ (hV1.out.below (by repeat (first | (with_reducible exact Below.refl _ _) | (with_reducible assumption) | (with_reducible apply bbox) | ((with_reducible apply Below.setCell); (case hp => (first | exact Nat.le_refl _ | (simp; done) | (simp; omega) | (simp only; omega) | omega))) | (with_reducible apply Below.drew) | (with_reducible apply below_drewN))))).mono ?_
  rintro e w10 ⟨y, rfl, oz, hBx⟩
  have hS := bgo (w := w9) (by repeat (first | (with_reducible exact Below.refl _ _) | (with_reducible assumption) | (with_reducible apply bbox) | ((with_reducible apply Below.setCell); (case hp => (first | exact Nat.le_refl _ | (simp; done) | (simp; omega) | (simp only; omega) | omega))) | (with_reducible apply Below.drew) | (with_reducible apply below_drewN))) hBx
  have zw10 := hBx.size
  replace hB := bgo hB hS
  replace p0 := p0.next hS
  replace pw := pw.next hS
  replace px0 := px0.next hS
  replace pg := pg.next hS
  replace Xw := Xw.below hS
  replace X0 := X0.below hS
  replace X1 := X1.below hS
  replace Xg := Xg.below hS
  clear hS hBx
  (replace qp0 := p0.cell; replace rp0 := p0.frozen; replace lp0 := p0.lt)
  (replace qpw := pw.cell; replace rpw := pw.frozen; replace lpw := pw.lt)
  (replace qpx0 := px0.cell; replace rpx0 := px0.frozen; replace lpx0 := px0.lt)
  (replace qpg := pg.cell; replace rpg := pg.frozen; replace lpg := pg.lt)
  obtain ⟨Az1, cz1, rfl⟩ := oz.form
  go_wp2_with fail
  refine (t_ints _ _ _ _ a1 _ (X1.below (by repeat (first | (with_reducible exact Below.refl _ _) | (with_reducible assumption) | (with_reducible apply bbox) | ((with_reducible apply Below.setCell); (case hp => (first | exact Nat.le_refl _ | (simp; done) | (simp; omega) | (simp only; omega) | omega))) | (with_reducible apply Below.drew) | (with_reducible apply below_drewN)))).reads (oz.below (by repeat (first | (with_reducible exact Below.refl _ _) | (with_reducible assumption) | (with_reducible apply bbox) | ((with_reducible apply Below.setCell); (case hp => (first | exact Nat.le_refl _ | (simp; done) | (simp; omega) | (simp only; omega) | omega))) | (with_reducible apply Below.drew) | (with_reducible apply below_drewN)))).reads).mono ?_
  rintro e w11 ⟨rfl, hBx⟩
  have hS := bgo (w := w10) (by repeat (first | (with_reducible exact Below.refl _ _) | (with_reducible assumption) | (with_reducible apply bbox) | ((with_reducible apply Below.setCell); (case hp => (first | exact Nat.le_refl _ | (simp; done) | (simp; omega) | (simp only; omega) | omega))) | (with_reducible apply Below.drew) | (with_reducible apply below_drewN))) hBx
  have zw11 := hBx.size
  replace hB := bgo hB hS
  replace p0 := p0.next hS
  replace pw := pw.next hS
  replace px0 := px0.next hS
  replace pg := pg.next hS
  replace Xw := Xw.below hS
  replace X0 := X0.below hS
  replace X1 := X1.below hS
  replace Xg := Xg.below hS
  replace oz := oz.below hS
  clear hS hBx
  (replace qp0 := p0.cell; replace rp0 := p0.frozen; replace lp0 := p0.lt)
  (replace qpw := pw.cell; replace rpw := pw.frozen; replace lpw := pw.lt)
  (replace qpx0 := px0.cell; replace rpx0 := px0.frozen; replace lpx0 := px0.lt)
  (replace qpg := pg.cell; replace rpg := pg.frozen; replace lpg := pg.lt)
  clear oz
  go_wp2_with fail
  refine (m_asn _ a0 _ _ _ _ X0 (by omega) (by omega)).mono ?_
  rintro e w12 ⟨rfl, X0m, hM⟩
  have hsz := hM.size
  replace hB := Mk.keepB hB hM (by omega) (by have := hB.size; omega)
  replace p0 := hM.blk p0 (by omega)
  replace pw := hM.blk pw (by omega)
  replace px0 := hM.blk px0 (by omega)
  replace pg := hM.blk pg (by omega)
  replace Xw := Xw.mk hM (by omega)
  replace X1 := X1.mk hM (by omega)
  replace Xg := Xg.mk hM (by omega)
  clear X0 hM
  have zw12 := hsz
  clear hsz
  (replace qp0 := p0.cell; replace rp0 := p0.frozen; replace lp0 := p0.lt)
  (replace qpw := pw.cell; replace rpw := pw.frozen; replace lpw := pw.lt)
  (replace qpx0 := px0.cell; replace rpx0 := px0.frozen; replace lpx0 := px0.lt)
  (replace qpg := pg.cell; replace rpg := pg.frozen; replace lpg := pg.lt)
  clear X0m
  go_wp2_with fail
  refine (m_ints _ a1 _ _ _ _ X1 (by omega) (by omega)).mono ?_
  rintro e w13 ⟨rfl, X1m, hM⟩
  have hsz := hM.size
  replace hB := Mk.keepB hB hM (by omega) (by have := hB.size; omega)
  replace p0 := hM.blk p0 (by omega)
  replace pw := hM.blk pw (by omega)
  replace px0 := hM.blk px0 (by omega)
  replace pg := hM.blk pg (by omega)
  replace Xw := Xw.mk hM (by omega)
  replace Xg := Xg.mk hM (by omega)
  clear X1 hM
  have zw13 := hsz
  clear hsz
  (replace qp0 := p0.cell; replace rp0 := p0.frozen; replace lp0 := p0.lt)
  (replace qpw := pw.cell; replace rpw := pw.frozen; replace lpw := pw.lt)
  (replace qpx0 := px0.cell; replace rpx0 := px0.frozen; replace lpx0 := px0.lt)
  (replace qpg := pg.cell; replace rpg := pg.frozen; replace lpg := pg.lt)
  clear X1m
  go_wp2_with fail
  refine (t_asn _ _ D _ (Xg.below (by repeat (first | (with_reducible exact Below.refl _ _) | (with_reducible assumption) | (with_reducible apply bbox) | ((with_reducible apply Below.setCell); (case hp => (first | exact Nat.le_refl _ | (simp; done) | (simp; omega) | (simp only; omega) | omega))) | (with_reducible apply Below.drew) | (with_reducible apply below_drewN)))).reads (Xw.below (by repeat (first | (with_reducible exact Below.refl _ _) | (with_reducible assumption) | (with_reducible apply bbox) | ((with_reducible apply Below.setCell); (case hp => (first | exact Nat.le_refl _ | (simp; done) | (simp; omega) | (simp only; omega) | omega))) | (with_reducible apply Below.drew) | (with_reducible apply below_drewN)))).reads).mono ?_
  rintro e w14 ⟨rfl, hBx⟩
  have hS := bgo (w := w13) (by repeat (first | (with_reducible exact Below.refl _ _) | (with_reducible assumption) | (with_reducible apply bbox) | ((with_reducible apply Below.setCell); (case hp => (first | exact Nat.le_refl _ | (simp; done) | (simp; omega) | (simp only; omega) | omega))) | (with_reducible apply Below.drew) | (with_reducible apply below_drewN))) hBx
  have zw14 := hBx.size
  replace hB := bgo hB hS
  replace p0 := p0.next hS
  replace pw := pw.next hS
  replace px0 := px0.next hS
  replace pg := pg.next hS
  replace Xw := Xw.below hS
  replace Xg := Xg.below hS
  clear hS hBx
  (replace qp0 := p0.cell; replace rp0 := p0.frozen; replace lp0 := p0.lt)
  (replace qpw := pw.cell; replace rpw := pw.frozen; replace lpw := pw.lt)
  (replace qpx0 := px0.cell; replace rpx0 := px0.frozen; replace lpx0 := px0.lt)
  (replace qpg := pg.cell; replace rpg := pg.frozen; replace lpg := pg.lt)
  go_wp2_with fail
  refine (m_asn _ D _ _ _ _ Xg (by omega) (by omega)).mono ?_
  rintro e w15 ⟨rfl, Xgm, hM⟩
  have hsz := hM.size
  replace hB := Mk.keepB hB hM (by omega) (by have := hB.size; omega)
  replace p0 := hM.blk p0 (by omega)
  replace pw := hM.blk pw (by omega)
  replace px0 := hM.blk px0 (by omega)
  replace pg := hM.blk pg (by omega)
  replace Xw := Xw.mk hM (by omega)
  clear Xg hM
  have zw15 := hsz
  clear hsz
  (replace qp0 := p0.cell; replace rp0 := p0.frozen; replace lp0 := p0.lt)
  (replace qpw := pw.cell; replace rpw := pw.frozen; replace lpw := pw.lt)
  (replace qpx0 := px0.cell; replace rpx0 := px0.frozen; replace lpx0 := px0.lt)
  (replace qpg := pg.cell; replace rpg := pg.frozen; replace lpg := pg.lt)
  go_wp2_with fail
  refine (h_asn _ _ D _ _ 1 _ (Xgm.below (by repeat (first | (with_reducible exact Below.refl _ _) | (with_reducible assumption) | (with_reducible apply bbox) | ((with_reducible apply Below.setCell); (case hp => (first | exact Nat.le_refl _ | (simp; done) | (simp; omega) | (simp only; omega) | omega))) | (with_reducible apply Below.drew) | (with_reducible apply below_drewN)))) (by omega) (by omega)).mono ?_
  rintro e w16 ⟨rfl, hBx⟩
  have hS := bgo (w := w15) (by repeat (first | (with_reducible exact Below.refl _ _) | (with_reducible assumption) | (with_reducible apply bbox) | ((with_reducible apply Below.setCell); (case hp => (first | exact Nat.le_refl _ | (simp; done) | (simp; omega) | (simp only; omega) | omega))) | (with_reducible apply Below.drew) | (with_reducible apply below_drewN))) hBx
  have zw16 := hBx.size
  replace hB := bgo hB hS
  replace p0 := p0.next hS
  replace pw := pw.next hS
  replace px0 := px0.next hS
  replace pg := pg.next hS
  replace Xw := Xw.below hS
  replace Xgm := Xgm.below hS
  clear hS hBx
  (replace qp0 := p0.cell; replace rp0 := p0.frozen; replace lp0 := p0.lt)
  (replace qpw := pw.cell; replace rpw := pw.frozen; replace lpw := pw.lt)
  (replace qpx0 := px0.cell; replace rpx0 := px0.frozen; replace lpx0 := px0.lt)
  (replace qpg := pg.cell; replace rpg := pg.frozen; replace lpg := pg.lt)
  go_wp2_with fail
  go_wp2_with fail
  refine (to_asn _ a0 _ (hV0.out.below (by repeat (first | (with_reducible exact Below.refl _ _) | (with_reducible assumption) | (with_reducible apply bbox) | ((with_reducible apply Below.setCell); (case hp => (first | exact Nat.le_refl _ | (simp; done) | (simp; omega) | (simp only; omega) | omega))) | (with_reducible apply Below.drew) | (with_reducible apply below_drewN))))).mono ?_
  rintro e w17 ⟨yh0, rfl, oh0, hBx⟩
  have hS := bgo (w := w16) (by repeat (first | (with_reducible exact Below.refl _ _) | (with_reducible assumption) | (with_reducible apply bbox) | ((with_reducible apply Below.setCell); (case hp => (first | exact Nat.le_refl _ | (simp; done) | (simp; omega) | (simp only; omega) | omega))) | (with_reducible apply Below.drew) | (with_reducible apply below_drewN))) hBx
  have zw17 := hBx.size
  replace hB := bgo hB hS
  replace p0 := p0.next hS
  replace pw := pw.next hS
  replace px0 := px0.next hS
  replace pg := pg.next hS
  replace Xw := Xw.below hS
  replace Xgm := Xgm.below hS
  clear hS hBx
  (replace qp0 := p0.cell; replace rp0 := p0.frozen; replace lp0 := p0.lt)
  (replace qpw := pw.cell; replace rpw := pw.frozen; replace lpw := pw.lt)
  (replace qpx0 := px0.cell; replace rpx0 := px0.frozen; replace lpx0 := px0.lt)
  (replace qpg := pg.cell; replace rpg := pg.frozen; replace lpg := pg.lt)
  go_wp2_with fail
  refine (to_ints _ _ a1 _ (hV1.out.below (by repeat (first | (with_reducible exact Below.refl _ _) | (with_reducible assumption) | (with_reducible apply bbox) | ((with_reducible apply Below.setCell); (case hp => (first | exact Nat.le_refl _ | (simp; done) | (simp; omega) | (simp only; omega) | omega))) | (with_reducible apply Below.drew) | (with_reducible apply below_drewN))))).mono ?_
  rintro e w18 ⟨yh1, rfl, oh1, hBx⟩
  obtain ⟨Kh1, eh1, rfl⟩ := oh1.form
  have hS := bgo (w := w17) (by repeat (first | (with_reducible exact Below.refl _ _) | (with_reducible assumption) | (with_reducible apply bbox) | ((with_reducible apply Below.setCell); (case hp => (first | exact Nat.le_refl _ | (simp; done) | (simp; omega) | (simp only; omega) | omega))) | (with_reducible apply Below.drew) | (with_reducible apply below_drewN))) hBx
  have zw18 := hBx.size
  replace hB := bgo hB hS
  replace p0 := p0.next hS
  replace pw := pw.next hS
  replace px0 := px0.next hS
  replace pg := pg.next hS
  replace Xw := Xw.below hS
  replace Xgm := Xgm.below hS
  replace oh0 := oh0.below hS
  clear hS hBx
  (replace qp0 := p0.cell; replace rp0 := p0.frozen; replace lp0 := p0.lt)
  (replace qpw := pw.cell; replace rpw := pw.frozen; replace lpw := pw.lt)
  (replace qpx0 := px0.cell; replace rpx0 := px0.frozen; replace lpx0 := px0.lt)
  (replace qpg := pg.cell; replace rpg := pg.frozen; replace lpg := pg.lt)
  go_wp2_with fail
  refine (c_impl_TidyAssertion _ a0 _ _ a1 _ (oh0.below (by repeat (first | (with_reducible exact Below.refl _ _) | (with_reducible assumption) | (with_reducible apply bbox) | ((with_reducible apply Below.setCell); (case hp => (first | exact Nat.le_refl _ | (simp; done) | (simp; omega) | (simp only; omega) | omega))) | (with_reducible apply Below.drew) | (with_reducible apply below_drewN)))).reads (oh1.below (by repeat (first | (with_reducible exact Below.refl _ _) | (with_reducible assumption) | (with_reducible apply bbox) | ((with_reducible apply Below.setCell); (case hp => (first | exact Nat.le_refl _ | (simp; done) | (simp; omega) | (simp only; omega) | omega))) | (with_reducible apply Below.drew) | (with_reducible apply below_drewN)))).reads).mono ?_
  rintro e w19 ⟨rh0, rfl, orh0, hBx⟩
  have hS := bgo (w := w18) (by repeat (first | (with_reducible exact Below.refl _ _) | (with_reducible assumption) | (with_reducible apply bbox) | ((with_reducible apply Below.setCell); (case hp => (first | exact Nat.le_refl _ | (simp; done) | (simp; omega) | (simp only; omega) | omega))) | (with_reducible apply Below.drew) | (with_reducible apply below_drewN))) hBx
  have zw19 := hBx.size
  replace hB := bgo hB hS
  replace p0 := p0.next hS
  replace pw := pw.next hS
  replace px0 := px0.next hS
  replace pg := pg.next hS
  replace Xw := Xw.below hS
  replace Xgm := Xgm.below hS
  replace oh0 := oh0.below hS
  replace oh1 := oh1.below hS
  clear hS hBx
  (replace qp0 := p0.cell; replace rp0 := p0.frozen; replace lp0 := p0.lt)
  (replace qpw := pw.cell; replace rpw := pw.frozen; replace lpw := pw.lt)
  (replace qpx0 := px0.cell; replace rpx0 := px0.frozen; replace lpx0 := px0.lt)
  (replace qpg := pg.cell; replace rpg := pg.frozen; replace lpg := pg.lt)
  clear oh0 oh1
  rw [HD.out] at orh0
  rw [HSB.out]
  have Xh := orh0.I
  clear orh0
  obtain ⟨Ah, ch, Bh, dh, rfl⟩ := Xh.form
  go_wp2_with fail
  refine (t_asn _ _ D _ (Xh.below (by repeat (first | (with_reducible exact Below.refl _ _) | (with_reducible assumption) | (with_reducible apply bbox) | ((with_reducible apply Below.setCell); (case hp => (first | exact Nat.le_refl _ | (simp; done) | (simp; omega) | (simp only; omega) | omega))) | (with_reducible apply Below.drew) | (with_reducible apply below_drewN)))).reads (Xw.below (by repeat (first | (with_reducible exact Below.refl _ _) | (with_reducible assumption) | (with_reducible apply bbox) | ((with_reducible apply Below.setCell); (case hp => (first | exact Nat.le_refl _ | (simp; done) | (simp; omega) | (simp only; omega) | omega))) | (with_reducible apply Below.drew) | (with_reducible apply below_drewN)))).reads).mono ?_
  rintro e w20 ⟨rfl, hBx⟩
  have hS := bgo (w := w19) (by repeat (first | (with_reducible exact Below.refl _ _) | (with_reducible assumption) | (with_reducible apply bbox) | ((with_reducible apply Below.setCell); (case hp => (first | exact Nat.le_refl _ | (simp; done) | (simp; omega) | (simp only; omega) | omega))) | (with_reducible apply Below.drew) | (with_reducible apply below_drewN))) hBx
  have zw20 := hBx.size
  simp only [World.size_alloc] at zw20
  replace hB := bgo hB hS
  replace p0 := p0.next hS
  replace pw := pw.next hS
  replace px0 := px0.next hS
  replace pg := pg.next hS
  replace Xw := Xw.below hS
  replace Xgm := Xgm.below hS
  replace Xh := Xh.below hS
  have ph := Blk.next (g := w19.heap.size) (t := 38) (cs := #[.slice Ah D.facts.length ch, .slice Bh D.atoms.length dh]) (by repeat (first | (with_reducible assumption) | (with_reducible exact Blk.new _ _ _) | ((with_reducible apply Blk.far); (case hp => (first | exact Nat.le_refl _ | (simp; done) | (simp; omega) | (simp only; omega) | omega))) | (with_reducible apply Blk.set_) | ((with_reducible refine Blk.newE ?_); (simp; done)) | (with_reducible apply Blk.alloc) | (with_reducible apply Blk.drew) | (with_reducible apply Blk.drewN))) hBx
  clear hS hBx
  (replace qp0 := p0.cell; replace rp0 := p0.frozen; replace lp0 := p0.lt)
  (replace qpw := pw.cell; replace rpw := pw.frozen; replace lpw := pw.lt)
  (replace qpx0 := px0.cell; replace rpx0 := px0.frozen; replace lpx0 := px0.lt)
  (replace qpg := pg.cell; replace rpg := pg.frozen; replace lpg := pg.lt)
  (replace qph := ph.cell; replace rph := ph.frozen; replace lph := ph.lt)
  go_wp2_with fail
  refine (h_asn _ _ D _ _ 1 _ (Xgm.below (by repeat (first | (with_reducible exact Below.refl _ _) | (with_reducible assumption) | (with_reducible apply bbox) | ((with_reducible apply Below.setCell); (case hp => (first | exact Nat.le_refl _ | (simp; done) | (simp; omega) | (simp only; omega) | omega))) | (with_reducible apply Below.drew) | (with_reducible apply below_drewN)))) (by omega) (by omega)).mono ?_
  rintro e w21 ⟨rfl, hBx⟩
  have hS := bgo (w := w20) (by repeat (first | (with_reducible exact Below.refl _ _) | (with_reducible assumption) | (with_reducible apply bbox) | ((with_reducible apply Below.setCell); (case hp => (first | exact Nat.le_refl _ | (simp; done) | (simp; omega) | (simp only; omega) | omega))) | (with_reducible apply Below.drew) | (with_reducible apply below_drewN))) hBx
  have zw21 := hBx.size
  replace hB := bgo hB hS
  replace p0 := p0.next hS
  replace pw := pw.next hS
  replace px0 := px0.next hS
  replace pg := pg.next hS
  replace ph := ph.next hS
  replace Xw := Xw.below hS
  replace Xgm := Xgm.below hS
  replace Xh := Xh.below hS
  clear hS hBx
  (replace qp0 := p0.cell; replace rp0 := p0.frozen; replace lp0 := p0.lt)
  (replace qpw := pw.cell; replace rpw := pw.frozen; replace lpw := pw.lt)
  (replace qpx0 := px0.cell; replace rpx0 := px0.frozen; replace lpx0 := px0.lt)
  (replace qpg := pg.cell; replace rpg := pg.frozen; replace lpg := pg.lt)
  (replace qph := ph.cell; replace rph := ph.frozen; replace lph := ph.lt)
  go_wp2_with fail
  go_ret
  exact ⟨rfl, hB⟩
end Go.Proofs.Ytcabejniphlobaa
