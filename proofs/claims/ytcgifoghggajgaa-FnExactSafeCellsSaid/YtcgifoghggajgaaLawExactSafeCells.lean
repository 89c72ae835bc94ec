/- 'laws.FnExactSafeCells' returns true for all arguments that can be read. -/
import Derived.Test.YtcgifoghggajgaaMCmdC
import Derived.Test.YtcgifoghggajgaaSafeK
import Derived.Deep.RegionHeld3
import Derived.Deep.DrawnRows
set_option linter.unusedSimpArgs false
set_option linter.unusedVariables false
namespace Go.Proofs.Ytcgifoghggajgaa
open Go Go.RowKit Go.Proofs
attribute [local go_sem ↓] Go.wp_at_zero Go.wp_at_succ

--@ laws.FnExactSafeCells
set_option maxRecDepth 100000 in
set_option maxHeartbeats 6400000 in
theorem c_FnExactSafeCells (v0 : Value) (a0 : Ste) (v1 : Value) (a1 : Cms) (w : World) (h0 : StateR w v0 a0) (h1 : ∃ A c, v1 = .slice A a1.len c ∧ CmsR w A a1) : Calls Try.prog 13 #[v0, v1] w fun e w' => e = .returned (.bool true) ∧ Below w.heap.size w w' := by
  obtain ⟨A0, c0, B0, d0, rfl, r0a, r0b⟩ := h0
  obtain ⟨A1, c1, rfl, r1a⟩ := h1
  by_cases hs0 : szSt a0 1048576 < 0
  · go_enter Try.func13, Try.ntmps13
    go_wp2_with fail
    refine (c_szState _ _ _ _ a0 1048576 _ r0a.2 r0b.2 (by omega) (by omega)).mono ?_; rintro e ws0 ⟨rfl, hB0⟩
    have hB := bgo (w := w) bel hB0
    have p0 := Blk.next (g := w.heap.size) (t := 61) (cs := #[.slice A0 a0.values.length c0, .slice B0 a0.heap.length d0]) blks hB0
    (replace qp0 := p0.cell; replace rp0 := p0.frozen; replace lp0 := p0.lt)
    go_wp2_with fail
    go_ret
    exact ⟨rfl, bel⟩
  have hz0 := szSt_le hs0
  by_cases hs1 : szP a1 (szSt a0 1048576) < 0
  · have HZ0 := Lib.hid hz0; clear hz0
    go_enter Try.func13, Try.ntmps13
    go_wp2_with fail
    refine (c_szState _ _ _ _ a0 1048576 _ r0a.2 r0b.2 (by have := HZ0.out; omega) (by have := HZ0.out; omega)).mono ?_; rintro e ws0 ⟨rfl, hB0⟩
    have hB := bgo (w := w) bel hB0
    have p0 := Blk.next (g := w.heap.size) (t := 61) (cs := #[.slice A0 a0.values.length c0, .slice B0 a0.heap.length d0]) blks hB0
    (replace qp0 := p0.cell; replace rp0 := p0.frozen; replace lp0 := p0.lt)
    go_wp2_with fail
    refine (c_szP _ _ a1 (szSt a0 1048576) _ r1a bel (by have := HZ0.out; omega) (by have := HZ0.out; omega)).mono ?_; rintro e ws1 ⟨rfl, hB1⟩
    replace hB := bgo hB hB1
    replace p0 := p0.next hB1
    (replace qp0 := p0.cell; replace rp0 := p0.frozen; replace lp0 := p0.lt)
    go_wp2_with fail
    go_ret
    exact ⟨rfl, bel⟩
  have hz1 := szP_le hs1
  have hmk1 := Cms.marks_le a1
  have hlen : a0.values.length ≤ 1048576 ∧ a0.heap.length ≤ 1048576 ∧ a1.len + a1.cost ≤ 1048576 ∧ a1.marks ≤ 6291456 := by omega
  have HZ0 : Hid (0 ≤ (szSt a0 1048576) ∧ (szSt a0 1048576) ≤ 1048576) := ⟨by omega, by omega⟩
  clear hz0
  clear hz1
  obtain ⟨hL0, hL1, hL2, hL3⟩ := hlen
  have hV0 : Hid (StateV w 0 w.heap.size (.agg #[.slice A0 a0.values.length c0, .slice B0 a0.heap.length d0]) a0) := ⟨_, _, _, _, rfl, r0a.toV (by omega), r0b.toV (by omega)⟩
  have hV1 : Hid (CmsW w 0 w.heap.size A1 a1) := r1a.toW (by omega)
  clear hmk1
  go_enter Try.func13, Try.ntmps13
  go_wp2_with fail
  refine (c_szState _ _ _ _ a0 1048576 _ r0a.2 r0b.2 (by have := HZ0.out; omega) (by have := HZ0.out; omega)).mono ?_; rintro e ws0 ⟨rfl, hB0⟩
  have hB := bgo (w := w) bel hB0
  have p0 := Blk.next (g := w.heap.size) (t := 61) (cs := #[.slice A0 a0.values.length c0, .slice B0 a0.heap.length d0]) blks hB0
  (replace qp0 := p0.cell; replace rp0 := p0.frozen; replace lp0 := p0.lt)
  go_wp2_with fail
  refine (c_szP _ _ a1 (szSt a0 1048576) _ r1a bel (by have := HZ0.out; omega) (by have := HZ0.out; omega)).mono ?_; rintro e ws1 ⟨rfl, hB1⟩
  replace hB := bgo hB hB1
  replace p0 := p0.next hB1
  (replace qp0 := p0.cell; replace rp0 := p0.frozen; replace lp0 := p0.lt)
  have zs := hB.size
  have zb0 := p0.lt
  clear hB0 hB1
  clear r0a r0b
  clear r1a
  go_wp2_with fail
  refine (to_ste _ a0 _ (hV0.out.below bel)).mono ?_
  rintro e w1 ⟨ys0, rfl, os0, hBx⟩
  have hS := bgo (w := ws1) bel hBx
  have zw1 := hBx.size
  replace hB := bgo hB hS
  replace p0 := p0.next hS
  clear hS hBx
  (replace qp0 := p0.cell; replace rp0 := p0.frozen; replace lp0 := p0.lt)
  go_wp2_with fail
  refine (to_cmds _ _ a1 _ (hV1.out.below bel)).mono ?_
  rintro e w2 ⟨ys1, rfl, os1, hBx⟩
  obtain ⟨Ks1, es1, rfl⟩ := os1.form
  have hS := bgo (w := w1) bel hBx
  have zw2 := hBx.size
  replace hB := bgo hB hS
  replace p0 := p0.next hS
  replace os0 := os0.below hS
  clear hS hBx
  (replace qp0 := p0.cell; replace rp0 := p0.frozen; replace lp0 := p0.lt)
  go_wp2_with fail
  refine (k_spec_SafeCells _ a0 _ _ a1 _ (os0.below bel).reads (os1.below bel).reads).mono ?_
  rintro e w3 ⟨rw0, rfl, orw0, hBx⟩
  have hS := bgo (w := w2) bel hBx
  have zw3 := hBx.size
  replace hB := bgo hB hS
  replace p0 := p0.next hS
  replace os0 := os0.below hS
  replace os1 := os1.below hS
  clear hS hBx
  (replace qp0 := p0.cell; replace rp0 := p0.frozen; replace lp0 := p0.lt)
  clear os0 os1
  obtain ⟨D, hD⟩ : ∃ D, (safeL a0 a1) = D := ⟨_, rfl⟩
  have HD := Lib.hid hD
  rw [hD] at orw0
  clear hD
  obtain ⟨sb, hsb⟩ : ∃ b, (safeB a0 a1) = b := ⟨_, rfl⟩
  have HSB := Lib.hid hsb
  rw [hsb]
  clear hsb
  have Xw := orw0.I
  clear orw0
  obtain ⟨Aw, cw, rfl⟩ := Xw.form
  go_wp2_with fail
  refine (to_ste _ a0 _ (hV0.out.below bel)).mono ?_
  rintro e w4 ⟨y, rfl, X0, hBx⟩
  have hS := bgo (w := w3) bel hBx
  have zw4 := hBx.size
  replace hB := bgo hB hS
  replace p0 := p0.next hS
  replace Xw := Xw.below hS
  clear hS hBx
  (replace qp0 := p0.cell; replace rp0 := p0.frozen; replace lp0 := p0.lt)
  obtain ⟨Ax0, cx0, Bx0, dx0, rfl⟩ := X0.form
  go_wp2_with fail
  refine (to_cmds _ _ a1 _ (hV1.out.below bel)).mono ?_
  rintro e w5 ⟨y, rfl, X1, hBx⟩
  rw [World.size_alloc] at X1
  have hS := bgo (w := w4) bel hBx
  have zw5 := hBx.size
  simp only [World.size_alloc] at zw5
  replace hB := bgo hB hS
  replace p0 := p0.next hS
  replace Xw := Xw.below hS
  replace X0 := X0.below hS
  have px0 := Blk.next (g := w4.heap.size) (t := 58) (cs := #[.slice Ax0 a0.values.length cx0, .slice Bx0 a0.heap.length dx0]) blks hBx
  clear hS hBx
  (replace qp0 := p0.cell; replace rp0 := p0.frozen; replace lp0 := p0.lt)
  (replace qpx0 := px0.cell; replace rpx0 := px0.frozen; replace lpx0 := px0.lt)
  obtain ⟨Ax1, cx1, rfl⟩ := X1.form
  go_wp2_with fail
  refine (k_impl_SafeCells _ a0 _ _ a1 _ (X0.below bel).reads (X1.below bel).reads).mono ?_
  rintro e w6 ⟨rg0, rfl, org0, hBx⟩
  rw [HD.out] at org0
  have Xg := org0.I
  clear org0
  rw [HSB.out]
  have hS := bgo (w := w5) bel hBx
  have zw6 := hBx.size
  replace hB := bgo hB hS
  replace p0 := p0.next hS
  replace px0 := px0.next hS
  replace Xw := Xw.below hS
  replace X0 := X0.below hS
  replace X1 := X1.below hS
  clear hS hBx
  (replace qp0 := p0.cell; replace rp0 := p0.frozen; replace lp0 := p0.lt)
  (replace qpx0 := px0.cell; replace rpx0 := px0.frozen; replace lpx0 := px0.lt)
  obtain ⟨Ag, cg, rfl⟩ := Xg.form
  have hLD := Xg.len
  go_wp2_with fail
  refine (t_ints _ _ _ _ D _ (Xg.below bel).reads (Xw.below bel).reads).mono ?_
  rintro e w7 ⟨rfl, hBx⟩
  have hS := bgo (w := w6) bel hBx
  have zw7 := hBx.size
  replace hB := bgo hB hS
  replace p0 := p0.next hS
  replace px0 := px0.next hS
  replace Xw := Xw.below hS
  replace X0 := X0.below hS
  replace X1 := X1.below hS
  replace Xg := Xg.below hS
  clear hS hBx
  (replace qp0 := p0.cell; replace rp0 := p0.frozen; replace lp0 := p0.lt)
  (replace qpx0 := px0.cell; replace rpx0 := px0.frozen; replace lpx0 := px0.lt)
  go_wp2_with fail
  go_region_held3 (fun w' => (∀ i, w'.cell? ⟨w.heap.size, i, none⟩ = #[.slice A0 a0.values.length c0, .slice B0 a0.heap.length d0][i]?) ∧ (∀ i, w'.cell? ⟨w4.heap.size, i, none⟩ = #[.slice Ax0 a0.values.length cx0, .slice Bx0 a0.heap.length dx0][i]?))
    (first | exact ⟨p0.cell, px0.cell⟩ | exact ⟨p0.drew.cell, px0.drew.cell⟩)
    (first
      | (go_at_call 45; refine (to_ste _ a0 _ (hV0.out.below bel)).mono ?_; rintro e w8 ⟨y, rfl, oz, hBx⟩; have hS : Below w7.heap.size w7 w8 := bgo (Below.refl w7.heap.size w7).drew hBx; replace hB := bgo hB hS; replace p0 := p0.drew.next hBx; replace px0 := px0.drew.next hBx)
      | (go_at_call 47; refine (t_ste _ _ a0 _ (X0.below hS).reads oz.reads).mono ?_; rintro e w9 ⟨rfl, hBx⟩; replace hS := bgo hS hBx; replace hB := bgo hB hBx; replace p0 := p0.next hBx; replace px0 := px0.next hBx))
  have zw9 := hS.size
  replace Xw := Xw.below hS
  replace X0 := X0.below hS
  replace X1 := X1.below hS
  replace Xg := Xg.below hS
  clear hS oz
  (replace qp0 := p0.cell; replace rp0 := p0.frozen; replace lp0 := p0.lt)
  (replace qpx0 := px0.cell; replace rpx0 := px0.frozen; replace lpx0 := px0.lt)
  go_wp2_with fail
  refine (to_cmds _ _ a1 _ (hV1.out.below bel)).mono ?_
  rintro e w10 ⟨y, rfl, oz, hBx⟩
  have hS := bgo (w := w9) bel hBx
  have zw10 := hBx.size
  replace hB := bgo hB hS
  replace p0 := p0.next hS
  replace px0 := px0.next hS
  replace Xw := Xw.below hS
  replace X0 := X0.below hS
  replace X1 := X1.below hS
  replace Xg := Xg.below hS
  clear hS hBx
  (replace qp0 := p0.cell; replace rp0 := p0.frozen; replace lp0 := p0.lt)
  (replace qpx0 := px0.cell; replace rpx0 := px0.frozen; replace lpx0 := px0.lt)
  obtain ⟨Az1, cz1, rfl⟩ := oz.form
  go_wp2_with fail
  refine (t_cmds _ _ _ _ a1 _ (X1.below bel).reads (oz.below bel).reads).mono ?_
  rintro e w11 ⟨rfl, hBx⟩
  have hS := bgo (w := w10) bel hBx
  have zw11 := hBx.size
  replace hB := bgo hB hS
  replace p0 := p0.next hS
  replace px0 := px0.next hS
  replace Xw := Xw.below hS
  replace X0 := X0.below hS
  replace X1 := X1.below hS
  replace Xg := Xg.below hS
  replace oz := oz.below hS
  clear hS hBx
  (replace qp0 := p0.cell; replace rp0 := p0.frozen; replace lp0 := p0.lt)
  (replace qpx0 := px0.cell; replace rpx0 := px0.frozen; replace lpx0 := px0.lt)
  clear oz
  go_wp2_with fail
  refine (m_ste _ a0 _ _ _ _ X0 (by omega) (by omega)).mono ?_
  rintro e w12 ⟨rfl, X0m, hM⟩
  have hsz := hM.size
  replace hB := Mk.keepB hB hM (by omega) (by have := hB.size; omega)
  replace p0 := hM.blk p0 (by omega)
  replace px0 := hM.blk px0 (by omega)
  replace Xw := Xw.mk hM (by omega)
  replace X1 := X1.mk hM (by omega)
  replace Xg := Xg.mk hM (by omega)
  clear X0 hM
  have zw12 := hsz
  clear hsz
  (replace qp0 := p0.cell; replace rp0 := p0.frozen; replace lp0 := p0.lt)
  (replace qpx0 := px0.cell; replace rpx0 := px0.frozen; replace lpx0 := px0.lt)
  clear X0m
  go_wp2_with fail
  refine (m_cmds _ a1 _ _ _ _ X1 (by omega) (by omega)).mono ?_
  rintro e w13 ⟨rfl, X1m, hM⟩
  have hsz := hM.size
  replace hB := Mk.keepB hB hM (by omega) (by have := hB.size; omega)
  replace p0 := hM.blk p0 (by omega)
  replace px0 := hM.blk px0 (by omega)
  replace Xw := Xw.mk hM (by omega)
  replace Xg := Xg.mk hM (by omega)
  clear X1 hM
  have zw13 := hsz
  clear hsz
  (replace qp0 := p0.cell; replace rp0 := p0.frozen; replace lp0 := p0.lt)
  (replace qpx0 := px0.cell; replace rpx0 := px0.frozen; replace lpx0 := px0.lt)
  clear X1m
  go_wp2_with fail
  refine (t_ints _ _ _ _ D _ (Xg.below bel).reads (Xw.below bel).reads).mono ?_
  rintro e w14 ⟨rfl, hBx⟩
  have hS := bgo (w := w13) bel hBx
  have zw14 := hBx.size
  replace hB := bgo hB hS
  replace p0 := p0.next hS
  replace px0 := px0.next hS
  replace Xw := Xw.below hS
  replace Xg := Xg.below hS
  clear hS hBx
  (replace qp0 := p0.cell; replace rp0 := p0.frozen; replace lp0 := p0.lt)
  (replace qpx0 := px0.cell; replace rpx0 := px0.frozen; replace lpx0 := px0.lt)
  go_wp2_with fail
  refine (m_ints _ D _ _ _ _ Xg (by omega) (by omega)).mono ?_
  rintro e w15 ⟨rfl, Xgm, hM⟩
  have hsz := hM.size
  replace hB := Mk.keepB hB hM (by omega) (by have := hB.size; omega)
  replace p0 := hM.blk p0 (by omega)
  replace px0 := hM.blk px0 (by omega)
  replace Xw := Xw.mk hM (by omega)
  clear Xg hM
  have zw15 := hsz
  clear hsz
  (replace qp0 := p0.cell; replace rp0 := p0.frozen; replace lp0 := p0.lt)
  (replace qpx0 := px0.cell; replace rpx0 := px0.frozen; replace lpx0 := px0.lt)
  go_wp2_with fail
  refine (h_ints _ D _ 1 _ (Xgm.below bel) (by omega) (by omega)).mono ?_
  rintro e w16 ⟨rfl, hBx⟩
  have hS := bgo (w := w15) bel hBx
  have zw16 := hBx.size
  replace hB := bgo hB hS
  replace p0 := p0.next hS
  replace px0 := px0.next hS
  replace Xw := Xw.below hS
  replace Xgm := Xgm.below hS
  clear hS hBx
  (replace qp0 := p0.cell; replace rp0 := p0.frozen; replace lp0 := p0.lt)
  (replace qpx0 := px0.cell; replace rpx0 := px0.frozen; replace lpx0 := px0.lt)
  go_wp2_with fail
  go_wp2_with fail
  refine (to_ste _ a0 _ (hV0.out.below bel)).mono ?_
  rintro e w17 ⟨yh0, rfl, oh0, hBx⟩
  have hS := bgo (w := w16) bel hBx
  have zw17 := hBx.size
  replace hB := bgo hB hS
  replace p0 := p0.next hS
  replace px0 := px0.next hS
  replace Xw := Xw.below hS
  replace Xgm := Xgm.below hS
  clear hS hBx
  (replace qp0 := p0.cell; replace rp0 := p0.frozen; replace lp0 := p0.lt)
  (replace qpx0 := px0.cell; replace rpx0 := px0.frozen; replace lpx0 := px0.lt)
  go_wp2_with fail
  refine (to_cmds _ _ a1 _ (hV1.out.below bel)).mono ?_
  rintro e w18 ⟨yh1, rfl, oh1, hBx⟩
  obtain ⟨Kh1, eh1, rfl⟩ := oh1.form
  have hS := bgo (w := w17) bel hBx
  have zw18 := hBx.size
  replace hB := bgo hB hS
  replace p0 := p0.next hS
  replace px0 := px0.next hS
  replace Xw := Xw.below hS
  replace Xgm := Xgm.below hS
  replace oh0 := oh0.below hS
  clear hS hBx
  (replace qp0 := p0.cell; replace rp0 := p0.frozen; replace lp0 := p0.lt)
  (replace qpx0 := px0.cell; replace rpx0 := px0.frozen; replace lpx0 := px0.lt)
  go_wp2_with fail
  refine (k_impl_SafeCells _ a0 _ _ a1 _ (oh0.below bel).reads (oh1.below bel).reads).mono ?_
  rintro e w19 ⟨rh0, rfl, orh0, hBx⟩
  have hS := bgo (w := w18) bel hBx
  have zw19 := hBx.size
  replace hB := bgo hB hS
  replace p0 := p0.next hS
  replace px0 := px0.next hS
  replace Xw := Xw.below hS
  replace Xgm := Xgm.below hS
  replace oh0 := oh0.below hS
  replace oh1 := oh1.below hS
  clear hS hBx
  (replace qp0 := p0.cell; replace rp0 := p0.frozen; replace lp0 := p0.lt)
  (replace qpx0 := px0.cell; replace rpx0 := px0.frozen; replace lpx0 := px0.lt)
  clear oh0 oh1
  rw [HD.out] at orh0
  rw [HSB.out]
  have Xh := orh0.I
  clear orh0
  obtain ⟨Ah, ch, rfl⟩ := Xh.form
  go_wp2_with fail
  refine (t_ints _ _ _ _ D _ (Xh.below bel).reads (Xw.below bel).reads).mono ?_
  rintro e w20 ⟨rfl, hBx⟩
  have hS := bgo (w := w19) bel hBx
  have zw20 := hBx.size
  replace hB := bgo hB hS
  replace p0 := p0.next hS
  replace px0 := px0.next hS
  replace Xw := Xw.below hS
  replace Xgm := Xgm.below hS
  replace Xh := Xh.below hS
  clear hS hBx
  (replace qp0 := p0.cell; replace rp0 := p0.frozen; replace lp0 := p0.lt)
  (replace qpx0 := px0.cell; replace rpx0 := px0.frozen; replace lpx0 := px0.lt)
  go_wp2_with fail
  refine (h_ints _ D _ 1 _ (Xgm.below bel) (by omega) (by omega)).mono ?_
  rintro e w21 ⟨rfl, hBx⟩
  have hS := bgo (w := w20) bel hBx
  have zw21 := hBx.size
  replace hB := bgo hB hS
  replace p0 := p0.next hS
  replace px0 := px0.next hS
  replace Xw := Xw.below hS
  replace Xgm := Xgm.below hS
  replace Xh := Xh.below hS
  clear hS hBx
  (replace qp0 := p0.cell; replace rp0 := p0.frozen; replace lp0 := p0.lt)
  (replace qpx0 := px0.cell; replace rpx0 := px0.frozen; replace lpx0 := px0.lt)
  go_wp2_with fail
  go_ret
  exact ⟨rfl, hB⟩
end Go.Proofs.Ytcgifoghggajgaa
