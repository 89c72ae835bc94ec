/- 'laws.FnExactExposeCell' returns true for all arguments that can be read. -/
import Derived.Test.YtlmjjflalmegfaaMKit
import Derived.Test.YtlmjjflalmegfaaOpnE
import Derived.Deep.RegionHeld3
import Derived.Deep.DrawnRows
set_option linter.unusedSimpArgs false
set_option linter.unusedVariables false
namespace Go.Proofs.Ytlmjjflalmegfaa
open Go Go.RowKit Go.Proofs
attribute [local go_sem ↓] Go.wp_at_zero Go.wp_at_succ

--@ laws.FnExactExposeCell
set_option maxRecDepth 100000 in
set_option maxHeartbeats 6400000 in
theorem c_FnExactExposeCell (v0 : Value) (a0 : Asn) (v1 : Value) (a1 : Int) (v2 : Value) (a2 : List Int) (w : World) (h0 : AsnR w v0 a0) (h1 : v1 = .int .i64 a1 ∧ -9223372036854775808 ≤ a1 ∧ a1 ≤ 9223372036854775807) (h2 : ∃ A c, v2 = .slice A a2.length c ∧ IntsR w A a2) : Calls Try.prog 3 #[v0, v1, v2] w fun e w' => e = .returned (.bool true) ∧ Below w.heap.size w w' := by
  obtain ⟨A0, c0, B0, d0, rfl, r0a, r0b⟩ := h0
  obtain ⟨rfl, r1a, r1b⟩ := h1
  obtain ⟨A2, c2, rfl, r2a⟩ := h2
  by_cases hn2 : 1048576 < a2.length
  · have hnl2 := r2a.2
    go_enter Try.func3, Try.ntmps3
    go_wp2_with fail
    go_ret
    exact ⟨rfl, bel⟩
  have hnl2 : a2.length ≤ 1048576 := by omega
  clear hn2
  by_cases hs0 : szA a0 1048576 < 0
  · go_enter Try.func3, Try.ntmps3
    go_wp2_with fail
    refine (c_szAssertion _ _ _ _ a0 1048576 _ r0a.2 r0b.2 (by omega) (by omega)).mono ?_; rintro e ws0 ⟨rfl, hB0⟩
    have hB := bgo (w := w) bel hB0
    have p0 := Blk.next (g := w.heap.size) (t := 25) (cs := #[.slice A0 a0.facts.length c0, .slice B0 a0.atoms.length d0]) blks hB0
    (replace qp0 := p0.cell; replace rp0 := p0.frozen; replace lp0 := p0.lt)
    go_wp2_with fail
    go_ret
    exact ⟨rfl, bel⟩
  have hz0 := szA_le hs0
  have hlen : a0.facts.length ≤ 1048576 ∧ a0.atoms.length ≤ 1048576 := by omega
  clear hz0
  obtain ⟨hL0, hL1⟩ := hlen
  have hV0 : Hid (AsnV w 0 w.heap.size (.agg #[.slice A0 a0.facts.length c0, .slice B0 a0.atoms.length d0]) a0) := ⟨_, _, _, _, rfl, r0a.toV (by omega), r0b.toV (by omega)⟩
  have hV2 : Hid (IntsV w 0 w.heap.size A2 a2) := r2a.toV (by omega)
  go_enter Try.func3, Try.ntmps3
  go_wp2_with fail
  refine (c_szAssertion _ _ _ _ a0 1048576 _ r0a.2 r0b.2 (by omega) (by omega)).mono ?_; rintro e ws0 ⟨rfl, hB0⟩
  have hB := bgo (w := w) bel hB0
  have p0 := Blk.next (g := w.heap.size) (t := 25) (cs := #[.slice A0 a0.facts.length c0, .slice B0 a0.atoms.length d0]) blks hB0
  (replace qp0 := p0.cell; replace rp0 := p0.frozen; replace lp0 := p0.lt)
  have zs := hB.size
  have zb0 := p0.lt
  clear hB0
  clear r0a r0b
  clear r2a
  go_wp2_with fail
  refine (to_asn _ a0 _ (hV0.out.below bel)).mono ?_
  rintro e w1 ⟨ys0, rfl, os0, hBx⟩
  have hS := bgo (w := ws0) bel hBx
  have zw1 := hBx.size
  replace hB := bgo hB hS
  replace p0 := p0.next hS
  clear hS hBx
  (replace qp0 := p0.cell; replace rp0 := p0.frozen; replace lp0 := p0.lt)
  go_wp2_with fail
  refine (to_ints _ _ a2 _ (hV2.out.below bel)).mono ?_
  rintro e w2 ⟨ys2, rfl, os2, hBx⟩
  obtain ⟨Ks2, es2, rfl⟩ := os2.form
  have hS := bgo (w := w1) bel hBx
  have zw2 := hBx.size
  replace hB := bgo hB hS
  replace p0 := p0.next hS
  replace os0 := os0.below hS
  clear hS hBx
  (replace qp0 := p0.cell; replace rp0 := p0.frozen; replace lp0 := p0.lt)
  go_wp2_with fail
  refine (c_spec_ExposeCell _ a0 a1 _ _ a2 _ (os0.below bel).readsC (os2.below bel).reads).mono ?_
  rintro e w3 ⟨rw0, rfl, orw0, hBx⟩
  have hS := bgo (w := w2) bel hBx
  have zw3 := hBx.size
  replace hB := bgo hB hS
  replace p0 := p0.next hS
  replace os0 := os0.below hS
  replace os2 := os2.below hS
  clear hS hBx
  (replace qp0 := p0.cell; replace rp0 := p0.frozen; replace lp0 := p0.lt)
  clear os0 os2
  obtain ⟨D, hD⟩ : ∃ D, ((exposeR a0 a1 a2).getD []) = D := ⟨_, rfl⟩
  have HD := Lib.hid hD
  rw [hD] at orw0
  clear hD
  obtain ⟨sb, hsb⟩ : ∃ b, (exposeR a0 a1 a2).isSome = b := ⟨_, rfl⟩
  have HSB := Lib.hid hsb
  rw [hsb]
  clear hsb
  have Xw := orw0.I
  clear orw0
  obtain ⟨Aw, cw, rfl⟩ := Xw.form
  go_wp2_with fail
  refine (to_asn _ a0 _ (hV0.out.below bel)).mono ?_
  rintro e w4 ⟨y, rfl, X0, hBx⟩
  have hS := bgo (w := w3) bel hBx
  have zw4 := hBx.size
  replace hB := bgo hB hS
  replace p0 := p0.next hS
  replace Xw := Xw.below hS
  clear hS hBx
  (replace qp0 := p0.cell; replace rp0 := p0.frozen; replace lp0 := p0.lt)
  obtain ⟨Ax0, cx0, Bx0, dx0, rfl⟩ := X0.form
  go_wp2_with fail
  refine (to_ints _ _ a2 _ (hV2.out.below bel)).mono ?_
  rintro e w5 ⟨y, rfl, X2, hBx⟩
  rw [World.size_alloc] at X2
  have hS := bgo (w := w4) bel hBx
  have zw5 := hBx.size
  simp only [World.size_alloc] at zw5
  replace hB := bgo hB hS
  replace p0 := p0.next hS
  replace Xw := Xw.below hS
  replace X0 := X0.below hS
  have px0 := Blk.next (g := w4.heap.size) (t := 34) (cs := #[.slice Ax0 a0.facts.length cx0, .slice Bx0 a0.atoms.length dx0]) blks hBx
  clear hS hBx
  (replace qp0 := p0.cell; replace rp0 := p0.frozen; replace lp0 := p0.lt)
  (replace qpx0 := px0.cell; replace rpx0 := px0.frozen; replace lpx0 := px0.lt)
  obtain ⟨Ax2, cx2, rfl⟩ := X2.form
  go_wp2_with fail
  refine (c_impl_ExposeCell _ a0 a1 _ _ a2 _ (X0.below bel).readsC (Nat.le_refl _) (X2.below bel).reads).mono ?_
  rintro e w6 ⟨rg0, rfl, org0, hBx⟩
  rw [HD.out] at org0
  have Xg := org0.I
  clear org0
  rw [HSB.out]
  have hS := bgo (w := w5) bel hBx
  have zw6 := hBx.size
  replace hB := bgo hB hS
  replace p0 := p0.next hS
  replace px0 := px0.next hS
  replace Xw := Xw.below hS
  replace X0 := X0.below hS
  replace X2 := X2.below hS
  clear hS hBx
  (replace qp0 := p0.cell; replace rp0 := p0.frozen; replace lp0 := p0.lt)
  (replace qpx0 := px0.cell; replace rpx0 := px0.frozen; replace lpx0 := px0.lt)
  obtain ⟨Ag, cg, rfl⟩ := Xg.form
  have hLD := Xg.len
  go_wp2_with fail
  refine (t_asns _ _ _ _ D _ (Xg.below bel).reads (Xw.below bel).reads).mono ?_
  rintro e w7 ⟨rfl, hBx⟩
  have hS := bgo (w := w6) bel hBx
  have zw7 := hBx.size
  replace hB := bgo hB hS
  replace p0 := p0.next hS
  replace px0 := px0.next hS
  replace Xw := Xw.below hS
  replace X0 := X0.below hS
  replace X2 := X2.below hS
  replace Xg := Xg.below hS
  clear hS hBx
  (replace qp0 := p0.cell; replace rp0 := p0.frozen; replace lp0 := p0.lt)
  (replace qpx0 := px0.cell; replace rpx0 := px0.frozen; replace lpx0 := px0.lt)
  go_wp2_with fail
  go_region_held3 (fun w' => (∀ i, w'.cell? ⟨w.heap.size, i, none⟩ = #[.slice A0 a0.facts.length c0, .slice B0 a0.atoms.length d0][i]?) ∧ (∀ i, w'.cell? ⟨w4.heap.size, i, none⟩ = #[.slice Ax0 a0.facts.length cx0, .slice Bx0 a0.atoms.length dx0][i]?))
    (first | exact ⟨p0.cell, px0.cell⟩ | exact ⟨p0.drew.cell, px0.drew.cell⟩)
    (first
      | (go_at_call 8; refine (to_asn _ a0 _ (hV0.out.below bel)).mono ?_; rintro e w8 ⟨y, rfl, oz, hBx⟩; have hS : Below w7.heap.size w7 w8 := bgo (Below.refl w7.heap.size w7).drew hBx; replace hB := bgo hB hS; replace p0 := p0.drew.next hBx; replace px0 := px0.drew.next hBx)
      | (go_at_call 12; refine (t_asn _ _ a0 _ (X0.below hS).reads oz.reads).mono ?_; rintro e w9 ⟨rfl, hBx⟩; replace hS := bgo hS hBx; replace hB := bgo hB hBx; replace p0 := p0.next hBx; replace px0 := px0.next hBx))
  have zw9 := hS.size
  replace Xw := Xw.below hS
  replace X0 := X0.below hS
  replace X2 := X2.below hS
  replace Xg := Xg.below hS
  clear hS oz
  (replace qp0 := p0.cell; replace rp0 := p0.frozen; replace lp0 := p0.lt)
  (replace qpx0 := px0.cell; replace rpx0 := px0.frozen; replace lpx0 := px0.lt)
  go_wp2_with fail
  refine (to_ints _ _ a2 _ (hV2.out.below bel)).mono ?_
  rintro e w10 ⟨y, rfl, oz, hBx⟩
  have hS := bgo (w := w9) bel hBx
  have zw10 := hBx.size
  replace hB := bgo hB hS
  replace p0 := p0.next hS
  replace px0 := px0.next hS
  replace Xw := Xw.below hS
  replace X0 := X0.below hS
  replace X2 := X2.below hS
  replace Xg := Xg.below hS
  clear hS hBx
  (replace qp0 := p0.cell; replace rp0 := p0.frozen; replace lp0 := p0.lt)
  (replace qpx0 := px0.cell; replace rpx0 := px0.frozen; replace lpx0 := px0.lt)
  obtain ⟨Az2, cz2, rfl⟩ := oz.form
  go_wp2_with fail
  refine (t_ints _ _ _ _ a2 _ (X2.below bel).reads (oz.below bel).reads).mono ?_
  rintro e w11 ⟨rfl, hBx⟩
  have hS := bgo (w := w10) bel hBx
  have zw11 := hBx.size
  replace hB := bgo hB hS
  replace p0 := p0.next hS
  replace px0 := px0.next hS
  replace Xw := Xw.below hS
  replace X0 := X0.below hS
  replace X2 := X2.below hS
  replace Xg := Xg.below hS
  replace oz := oz.below hS
  clear hS hBx
  (replace qp0 := p0.cell; replace rp0 := p0.frozen; replace lp0 := p0.lt)
  (replace qpx0 := px0.cell; replace rpx0 := px0.frozen; replace lpx0 := px0.lt)
  clear oz
  go_wp2_with fail
  refine (m_asn _ a0 _ _ _ _ X0 (by omega) (by omega)).mono ?_
  rintro e w12 ⟨rfl, X0m, hM⟩
  have hsz := hM.size
  replace hB := Mk.keepB hB hM (by omega) (by have := hB.size; omega)
  replace p0 := hM.blk p0 (by omega)
  replace px0 := hM.blk px0 (by omega)
  replace Xw := Xw.mk hM (by omega)
  replace X2 := X2.mk hM (by omega)
  replace Xg := Xg.mk hM (by omega)
  clear X0 hM
  have zw12 := hsz
  clear hsz
  (replace qp0 := p0.cell; replace rp0 := p0.frozen; replace lp0 := p0.lt)
  (replace qpx0 := px0.cell; replace rpx0 := px0.frozen; replace lpx0 := px0.lt)
  clear X0m
  go_wp2_with fail
  refine (m_ints _ a2 _ _ _ _ X2 (by omega) (by omega)).mono ?_
  rintro e w13 ⟨rfl, X2m, hM⟩
  have hsz := hM.size
  replace hB := Mk.keepB hB hM (by omega) (by have := hB.size; omega)
  replace p0 := hM.blk p0 (by omega)
  replace px0 := hM.blk px0 (by omega)
  replace Xw := Xw.mk hM (by omega)
  replace Xg := Xg.mk hM (by omega)
  clear X2 hM
  have zw13 := hsz
  clear hsz
  (replace qp0 := p0.cell; replace rp0 := p0.frozen; replace lp0 := p0.lt)
  (replace qpx0 := px0.cell; replace rpx0 := px0.frozen; replace lpx0 := px0.lt)
  clear X2m
  go_wp2_with fail
  refine (t_asns _ _ _ _ D _ (Xg.below bel).reads (Xw.below bel).reads).mono ?_
  rintro e w14 ⟨rfl, hBx⟩
  have hS := bgo (w := w13) bel hBx
  have zw14 := hBx.size
  replace hB := bgo hB hS
  replace p0 := p0.next hS
  replace px0 := px0.next hS
  replace Xw := Xw.below hS
  replace Xg := Xg.below hS
  clear hS hBx
  (replace qp0 := p0.cell; replace rp0 := p0.frozen; replace lp0 := p0.lt)
  (replace qpx0 := px0.cell; replace rpx0 := px0.frozen; replace lpx0 := px0.lt)
  go_wp2_with fail
  refine (m_asns _ D _ _ _ _ Xg (by omega) (by omega)).mono ?_
  rintro e w15 ⟨rfl, Xgm, hM⟩
  have hsz := hM.size
  replace hB := Mk.keepB hB hM (by omega) (by have := hB.size; omega)
  replace p0 := hM.blk p0 (by omega)
  replace px0 := hM.blk px0 (by omega)
  replace Xw := Xw.mk hM (by omega)
  clear Xg hM
  have zw15 := hsz
  clear hsz
  (replace qp0 := p0.cell; replace rp0 := p0.frozen; replace lp0 := p0.lt)
  (replace qpx0 := px0.cell; replace rpx0 := px0.frozen; replace lpx0 := px0.lt)
  go_wp2_with fail
  refine (h_asns _ D _ 1 _ (Xgm.below bel) (by omega) (by omega)).mono ?_
  rintro e w16 ⟨rfl, hBx⟩
  have hS := bgo (w := w15) bel hBx
  have zw16 := hBx.size
  replace hB := bgo hB hS
  replace p0 := p0.next hS
  replace px0 := px0.next hS
  replace Xw := Xw.below hS
  replace Xgm := Xgm.below hS
  clear hS hBx
  (replace qp0 := p0.cell; replace rp0 := p0.frozen; replace lp0 := p0.lt)
  (replace qpx0 := px0.cell; replace rpx0 := px0.frozen; replace lpx0 := px0.lt)
  go_wp2_with fail
  go_wp2_with fail
  refine (to_asn _ a0 _ (hV0.out.below bel)).mono ?_
  rintro e w17 ⟨yh0, rfl, oh0, hBx⟩
  have hS := bgo (w := w16) bel hBx
  have zw17 := hBx.size
  replace hB := bgo hB hS
  replace p0 := p0.next hS
  replace px0 := px0.next hS
  replace Xw := Xw.below hS
  replace Xgm := Xgm.below hS
  clear hS hBx
  (replace qp0 := p0.cell; replace rp0 := p0.frozen; replace lp0 := p0.lt)
  (replace qpx0 := px0.cell; replace rpx0 := px0.frozen; replace lpx0 := px0.lt)
  go_wp2_with fail
  refine (to_ints _ _ a2 _ (hV2.out.below bel)).mono ?_
  rintro e w18 ⟨yh2, rfl, oh2, hBx⟩
  obtain ⟨Kh2, eh2, rfl⟩ := oh2.form
  have hS := bgo (w := w17) bel hBx
  have zw18 := hBx.size
  replace hB := bgo hB hS
  replace p0 := p0.next hS
  replace px0 := px0.next hS
  replace Xw := Xw.below hS
  replace Xgm := Xgm.below hS
  replace oh0 := oh0.below hS
  clear hS hBx
  (replace qp0 := p0.cell; replace rp0 := p0.frozen; replace lp0 := p0.lt)
  (replace qpx0 := px0.cell; replace rpx0 := px0.frozen; replace lpx0 := px0.lt)
  go_wp2_with fail
  refine (c_impl_ExposeCell _ a0 a1 _ _ a2 _ (oh0.below bel).readsC (Nat.le_refl _) (oh2.below bel).reads).mono ?_
  rintro e w19 ⟨rh0, rfl, orh0, hBx⟩
  have hS := bgo (w := w18) bel hBx
  have zw19 := hBx.size
  replace hB := bgo hB hS
  replace p0 := p0.next hS
  replace px0 := px0.next hS
  replace Xw := Xw.below hS
  replace Xgm := Xgm.below hS
  replace oh0 := oh0.below hS
  replace oh2 := oh2.below hS
  clear hS hBx
  (replace qp0 := p0.cell; replace rp0 := p0.frozen; replace lp0 := p0.lt)
  (replace qpx0 := px0.cell; replace rpx0 := px0.frozen; replace lpx0 := px0.lt)
  clear oh0 oh2
  rw [HD.out] at orh0
  rw [HSB.out]
  have Xh := orh0.I
  clear orh0
  obtain ⟨Ah, ch, rfl⟩ := Xh.form
  go_wp2_with fail
  refine (t_asns _ _ _ _ D _ (Xh.below bel).reads (Xw.below bel).reads).mono ?_
  rintro e w20 ⟨rfl, hBx⟩
  have hS := bgo (w := w19) bel hBx
  have zw20 := hBx.size
  replace hB := bgo hB hS
  replace p0 := p0.next hS
  replace px0 := px0.next hS
  replace Xw := Xw.below hS
  replace Xgm := Xgm.below hS
  replace Xh := Xh.below hS
  clear hS hBx
  (replace qp0 := p0.cell; replace rp0 := p0.frozen; replace lp0 := p0.lt)
  (replace qpx0 := px0.cell; replace rpx0 := px0.frozen; replace lpx0 := px0.lt)
  go_wp2_with fail
  refine (h_asns _ D _ 1 _ (Xgm.below bel) (by omega) (by omega)).mono ?_
  rintro e w21 ⟨rfl, hBx⟩
  have hS := bgo (w := w20) bel hBx
  have zw21 := hBx.size
  replace hB := bgo hB hS
  replace p0 := p0.next hS
  replace px0 := px0.next hS
  replace Xw := Xw.below hS
  replace Xgm := Xgm.below hS
  replace Xh := Xh.below hS
  clear hS hBx
  (replace qp0 := p0.cell; replace rp0 := p0.frozen; replace lp0 := p0.lt)
  (replace qpx0 := px0.cell; replace rpx0 := px0.frozen; replace lpx0 := px0.lt)
  go_wp2_with fail
  go_ret
  exact ⟨rfl, hB⟩
end Go.Proofs.Ytlmjjflalmegfaa
