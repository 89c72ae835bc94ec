/- 'laws.FnExactModelsOf' returns true for all arguments that can be read. -/
import Derived.Test.YteogcababfenfaaMCmdG
import Derived.Test.YteogcababfenfaaModelsI
import Derived.Test.YteogcababfenfaaModelsS
import Derived.Deep.RegionHeld3
import Derived.Deep.DrawnRows
set_option linter.unusedSimpArgs false
set_option linter.unusedVariables false
namespace Go.Proofs.Yteogcababfenfaa
open Go Go.RowKit Go.Proofs
attribute [local go_sem ↓] Go.wp_at_zero Go.wp_at_succ

--@ laws.FnExactModelsOf
set_option maxRecDepth 100000 in
set_option maxHeartbeats 6400000 in
theorem c_FnExactModelsOf (v0 : Value) (a0 : Asn) (w : World) (h0 : AsnR w v0 a0) : Calls Try.prog 3 #[v0] w fun e w' => e = .returned (.bool true) ∧ Below w.heap.size w w' := by
  obtain ⟨A0, c0, B0, d0, rfl, r0a, r0b⟩ := h0
  by_cases hs0 : szA a0 1048576 < 0
  · go_enter Try.func3, Try.ntmps3
    go_wp2_with fail
    refine (c_szAssertion _ _ _ _ a0 1048576 _ r0a.2 r0b.2 (by omega) (by omega)).mono ?_; rintro e ws0 ⟨rfl, hB0⟩
    have hB := bgo (w := w) bel hB0
    have p0 := Blk.next (g := w.heap.size) (t := 25) (cs := #[.slice A0 a0.facts.length c0, .slice B0 a0.atoms.length d0]) blks hB0
    (replace qp0 := p0.cell; replace rp0 := p0.frozen; replace lp0 := p0.lt)
    go_wp2_with fail
    go_ret
    exact ⟨rfl, bel⟩
  have hz0 := szA_le hs0
  have hlen : a0.facts.length ≤ 1048576 ∧ a0.atoms.length ≤ 1048576 := by omega
  clear hz0
  obtain ⟨hL0, hL1⟩ := hlen
  have hV0 : Hid (AsnV w 0 w.heap.size (.agg #[.slice A0 a0.facts.length c0, .slice B0 a0.atoms.length d0]) a0) := ⟨_, _, _, _, rfl, r0a.toV (by omega), r0b.toV (by omega)⟩
  go_enter Try.func3, Try.ntmps3
  go_wp2_with fail
  refine (c_szAssertion _ _ _ _ a0 1048576 _ r0a.2 r0b.2 (by omega) (by omega)).mono ?_; rintro e ws0 ⟨rfl, hB0⟩
  have hB := bgo (w := w) bel hB0
  have p0 := Blk.next (g := w.heap.size) (t := 25) (cs := #[.slice A0 a0.facts.length c0, .slice B0 a0.atoms.length d0]) blks hB0
  (replace qp0 := p0.cell; replace rp0 := p0.frozen; replace lp0 := p0.lt)
  have zs := hB.size
  have zb0 := p0.lt
  clear hB0
  clear r0a r0b
  go_wp2_with fail
  refine (to_asn _ a0 _ (hV0.out.below bel)).mono ?_
  rintro e w1 ⟨ys0, rfl, os0, hBx⟩
  have hS := bgo (w := ws0) bel hBx
  have zw1 := hBx.size
  replace hB := bgo hB hS
  replace p0 := p0.next hS
  clear hS hBx
  (replace qp0 := p0.cell; replace rp0 := p0.frozen; replace lp0 := p0.lt)
  go_wp2_with fail
  refine (c_spec_ModelsOf _ a0 _ (os0.below bel).reads (Nat.le_refl _)).mono ?_
  rintro e w2 ⟨rw0, rfl, orw0, hBx⟩
  have hS := bgo (w := w1) bel hBx
  have zw2 := hBx.size
  replace hB := bgo hB hS
  replace p0 := p0.next hS
  replace os0 := os0.below hS
  clear hS hBx
  (replace qp0 := p0.cell; replace rp0 := p0.frozen; replace lp0 := p0.lt)
  clear os0
  obtain ⟨D, hD⟩ : ∃ D, (modelsV a0) = D := ⟨_, rfl⟩
  have HD := Lib.hid hD
  rw [hD] at orw0
  clear hD
  have Xw := orw0.I
  clear orw0
  obtain ⟨Aw, cw, rfl⟩ := Xw.form
  go_wp2_with fail
  refine (to_asn _ a0 _ (hV0.out.below bel)).mono ?_
  rintro e w3 ⟨y, rfl, X0, hBx⟩
  have hS := bgo (w := w2) bel hBx
  have zw3 := hBx.size
  replace hB := bgo hB hS
  replace p0 := p0.next hS
  replace Xw := Xw.below hS
  clear hS hBx
  (replace qp0 := p0.cell; replace rp0 := p0.frozen; replace lp0 := p0.lt)
  obtain ⟨Ax0, cx0, Bx0, dx0, rfl⟩ := X0.form
  go_wp2_with fail
  refine (c_impl_ModelsOf _ a0 _ (X0.below bel).reads (Nat.le_refl _)).mono ?_
  rintro e w4 ⟨rg0, rfl, org0, hBx⟩
  rw [World.size_alloc] at org0
  rw [HD.out] at org0
  have Xg := org0.I
  clear org0
  have hS := bgo (w := w3) bel hBx
  have zw4 := hBx.size
  simp only [World.size_alloc] at zw4
  replace hB := bgo hB hS
  replace p0 := p0.next hS
  replace Xw := Xw.below hS
  replace X0 := X0.below hS
  have px0 := Blk.next (g := w3.heap.size) (t := 32) (cs := #[.slice Ax0 a0.facts.length cx0, .slice Bx0 a0.atoms.length dx0]) blks hBx
  clear hS hBx
  (replace qp0 := p0.cell; replace rp0 := p0.frozen; replace lp0 := p0.lt)
  (replace qpx0 := px0.cell; replace rpx0 := px0.frozen; replace lpx0 := px0.lt)
  obtain ⟨Ag, cg, rfl⟩ := Xg.form
  have hLD := Xg.len
  go_wp2_with fail
  refine (t_stes _ _ _ _ D _ (Xg.below bel).reads (Xw.below bel).reads).mono ?_
  rintro e w5 ⟨rfl, hBx⟩
  have hS := bgo (w := w4) bel hBx
  have zw5 := hBx.size
  replace hB := bgo hB hS
  replace p0 := p0.next hS
  replace px0 := px0.next hS
  replace Xw := Xw.below hS
  replace X0 := X0.below hS
  replace Xg := Xg.below hS
  clear hS hBx
  (replace qp0 := p0.cell; replace rp0 := p0.frozen; replace lp0 := p0.lt)
  (replace qpx0 := px0.cell; replace rpx0 := px0.frozen; replace lpx0 := px0.lt)
  go_wp2_with fail
  go_region_held3 (fun w' => (∀ i, w'.cell? ⟨w.heap.size, i, none⟩ = #[.slice A0 a0.facts.length c0, .slice B0 a0.atoms.length d0][i]?) ∧ (∀ i, w'.cell? ⟨w3.heap.size, i, none⟩ = #[.slice Ax0 a0.facts.length cx0, .slice Bx0 a0.atoms.length dx0][i]?))
    (first | exact ⟨p0.cell, px0.cell⟩ | exact ⟨p0.drew.cell, px0.drew.cell⟩)
    (first
      | (go_at_call 10; refine (to_asn _ a0 _ (hV0.out.below bel)).mono ?_; rintro e w6 ⟨y, rfl, oz, hBx⟩; have hS : Below w5.heap.size w5 w6 := bgo (Below.refl w5.heap.size w5).drew hBx; replace hB := bgo hB hS; replace p0 := p0.drew.next hBx; replace px0 := px0.drew.next hBx)
      | (go_at_call 13; refine (t_asn _ _ a0 _ (X0.below hS).reads oz.reads).mono ?_; rintro e w7 ⟨rfl, hBx⟩; replace hS := bgo hS hBx; replace hB := bgo hB hBx; replace p0 := p0.next hBx; replace px0 := px0.next hBx))
  have zw7 := hS.size
  replace Xw := Xw.below hS
  replace X0 := X0.below hS
  replace Xg := Xg.below hS
  clear hS oz
  (replace qp0 := p0.cell; replace rp0 := p0.frozen; replace lp0 := p0.lt)
  (replace qpx0 := px0.cell; replace rpx0 := px0.frozen; replace lpx0 := px0.lt)
  go_wp2_with fail
  refine (m_asn _ a0 _ _ _ _ X0 (by omega) (by omega)).mono ?_
  rintro e w8 ⟨rfl, X0m, hM⟩
  have hsz := hM.size
  replace hB := Mk.keepB hB hM (by omega) (by have := hB.size; omega)
  replace p0 := hM.blk p0 (by omega)
  replace px0 := hM.blk px0 (by omega)
  replace Xw := Xw.mk hM (by omega)
  replace Xg := Xg.mk hM (by omega)
  clear X0 hM
  have zw8 := hsz
  clear hsz
  (replace qp0 := p0.cell; replace rp0 := p0.frozen; replace lp0 := p0.lt)
  (replace qpx0 := px0.cell; replace rpx0 := px0.frozen; replace lpx0 := px0.lt)
  clear X0m
  go_wp2_with fail
  refine (t_stes _ _ _ _ D _ (Xg.below bel).reads (Xw.below bel).reads).mono ?_
  rintro e w9 ⟨rfl, hBx⟩
  have hS := bgo (w := w8) bel hBx
  have zw9 := hBx.size
  replace hB := bgo hB hS
  replace p0 := p0.next hS
  replace px0 := px0.next hS
  replace Xw := Xw.below hS
  replace Xg := Xg.below hS
  clear hS hBx
  (replace qp0 := p0.cell; replace rp0 := p0.frozen; replace lp0 := p0.lt)
  (replace qpx0 := px0.cell; replace rpx0 := px0.frozen; replace lpx0 := px0.lt)
  go_wp2_with fail
  refine (m_stes _ D _ _ _ _ Xg (by omega) (by omega)).mono ?_
  rintro e w10 ⟨rfl, Xgm, hM⟩
  have hsz := hM.size
  replace hB := Mk.keepB hB hM (by omega) (by have := hB.size; omega)
  replace p0 := hM.blk p0 (by omega)
  replace px0 := hM.blk px0 (by omega)
  replace Xw := Xw.mk hM (by omega)
  clear Xg hM
  have zw10 := hsz
  clear hsz
  (replace qp0 := p0.cell; replace rp0 := p0.frozen; replace lp0 := p0.lt)
  (replace qpx0 := px0.cell; replace rpx0 := px0.frozen; replace lpx0 := px0.lt)
  go_wp2_with fail
  refine (h_stes _ D _ 1 _ (Xgm.below bel) (by omega) (by omega)).mono ?_
  rintro e w11 ⟨rfl, hBx⟩
  have hS := bgo (w := w10) bel hBx
  have zw11 := hBx.size
  replace hB := bgo hB hS
  replace p0 := p0.next hS
  replace px0 := px0.next hS
  replace Xw := Xw.below hS
  replace Xgm := Xgm.below hS
  clear hS hBx
  (replace qp0 := p0.cell; replace rp0 := p0.frozen; replace lp0 := p0.lt)
  (replace qpx0 := px0.cell; replace rpx0 := px0.frozen; replace lpx0 := px0.lt)
  go_wp2_with fail
  go_wp2_with fail
  refine (to_asn _ a0 _ (hV0.out.below bel)).mono ?_
  rintro e w12 ⟨yh0, rfl, oh0, hBx⟩
  have hS := bgo (w := w11) bel hBx
  have zw12 := hBx.size
  replace hB := bgo hB hS
  replace p0 := p0.next hS
  replace px0 := px0.next hS
  replace Xw := Xw.below hS
  replace Xgm := Xgm.below hS
  clear hS hBx
  (replace qp0 := p0.cell; replace rp0 := p0.frozen; replace lp0 := p0.lt)
  (replace qpx0 := px0.cell; replace rpx0 := px0.frozen; replace lpx0 := px0.lt)
  go_wp2_with fail
  refine (c_impl_ModelsOf _ a0 _ (oh0.below bel).reads (Nat.le_refl _)).mono ?_
  rintro e w13 ⟨rh0, rfl, orh0, hBx⟩
  have hS := bgo (w := w12) bel hBx
  have zw13 := hBx.size
  replace hB := bgo hB hS
  replace p0 := p0.next hS
  replace px0 := px0.next hS
  replace Xw := Xw.below hS
  replace Xgm := Xgm.below hS
  replace oh0 := oh0.below hS
  clear hS hBx
  (replace qp0 := p0.cell; replace rp0 := p0.frozen; replace lp0 := p0.lt)
  (replace qpx0 := px0.cell; replace rpx0 := px0.frozen; replace lpx0 := px0.lt)
  clear oh0
  rw [HD.out] at orh0
  have Xh := orh0.I
  clear orh0
  obtain ⟨Ah, ch, rfl⟩ := Xh.form
  go_wp2_with fail
  refine (t_stes _ _ _ _ D _ (Xh.below bel).reads (Xw.below bel).reads).mono ?_
  rintro e w14 ⟨rfl, hBx⟩
  have hS := bgo (w := w13) bel hBx
  have zw14 := hBx.size
  replace hB := bgo hB hS
  replace p0 := p0.next hS
  replace px0 := px0.next hS
  replace Xw := Xw.below hS
  replace Xgm := Xgm.below hS
  replace Xh := Xh.below hS
  clear hS hBx
  (replace qp0 := p0.cell; replace rp0 := p0.frozen; replace lp0 := p0.lt)
  (replace qpx0 := px0.cell; replace rpx0 := px0.frozen; replace lpx0 := px0.lt)
  go_wp2_with fail
  refine (h_stes _ D _ 1 _ (Xgm.below bel) (by omega) (by omega)).mono ?_
  rintro e w15 ⟨rfl, hBx⟩
  have hS := bgo (w := w14) bel hBx
  have zw15 := hBx.size
  replace hB := bgo hB hS
  replace p0 := p0.next hS
  replace px0 := px0.next hS
  replace Xw := Xw.below hS
  replace Xgm := Xgm.below hS
  replace Xh := Xh.below hS
  clear hS hBx
  (replace qp0 := p0.cell; replace rp0 := p0.frozen; replace lp0 := p0.lt)
  (replace qpx0 := px0.cell; replace rpx0 := px0.frozen; replace lpx0 := px0.lt)
  go_wp2_with fail
  go_ret
  exact ⟨rfl, hB⟩
end Go.Proofs.Yteogcababfenfaa
