/- 'laws.FnExactChangedTerms' returns true for all arguments that can be read. -/
import Derived.Test.YtcgifoghggajgaaKit
import Derived.Test.YtcgifoghggajgaaLogK
import Derived.Deep.RegionHeld3
import Derived.Deep.DrawnRows
set_option linter.unusedSimpArgs false
set_option linter.unusedVariables false
namespace Go.Proofs.Ytcgifoghggajgaa
open Go Go.RowKit Go.Proofs
attribute [local go_sem ↓] Go.wp_at_zero Go.wp_at_succ

--@ laws.FnExactChangedTerms
set_option maxRecDepth 100000 in
set_option maxHeartbeats 6400000 in
theorem c_FnExactChangedTerms (v0 : Value) (a0 : Cms) (w : World) (h0 : ∃ A c, v0 = .slice A a0.len c ∧ CmsR w A a0) : Calls Try.prog 3 #[v0] w fun e w' => e = .returned (.bool true) ∧ Below w.heap.size w w' := by
  obtain ⟨A0, c0, rfl, r0a⟩ := h0
  by_cases hs0 : szP a0 1048576 < 0
  · go_enter Try.func3, Try.ntmps3
    go_wp2_with fail
    refine (c_szP _ _ a0 1048576 _ r0a bel (by omega) (by omega)).mono ?_; rintro e ws0 ⟨rfl, hB0⟩
    have hB := bgo (w := w) bel hB0
    go_wp2_with fail
    go_ret
    exact ⟨rfl, bel⟩
  have hz0 := szP_le hs0
  have hmk0 := Cms.marks_le a0
  have hlen : a0.len + a0.cost ≤ 1048576 ∧ a0.marks ≤ 6291456 := by omega
  clear hz0
  obtain ⟨hL0, hL1⟩ := hlen
  have hV0 : Hid (CmsW w 0 w.heap.size A0 a0) := r0a.toW (by omega)
  clear hmk0
  go_enter Try.func3, Try.ntmps3
  go_wp2_with fail
  refine (c_szP _ _ a0 1048576 _ r0a bel (by omega) (by omega)).mono ?_; rintro e ws0 ⟨rfl, hB0⟩
  have hB := bgo (w := w) bel hB0
  have zs := hB.size
  clear hB0
  clear r0a
  go_wp2_with fail
  refine (to_cmds _ _ a0 _ (hV0.out.below bel)).mono ?_
  rintro e w1 ⟨ys0, rfl, os0, hBx⟩
  obtain ⟨Ks0, es0, rfl⟩ := os0.form
  have hS := bgo (w := ws0) bel hBx
  have zw1 := hBx.size
  replace hB := bgo hB hS
  clear hS hBx
  go_wp2_with fail
  refine (k_spec_Changed a0 _ _ _ (os0.below bel).reads).mono ?_
  rintro e w2 ⟨rw0, rfl, orw0, hBx⟩
  have hS := bgo (w := w1) bel hBx
  have zw2 := hBx.size
  replace hB := bgo hB hS
  replace os0 := os0.below hS
  clear hS hBx
  clear os0
  obtain ⟨D, hD⟩ : ∃ D, (changedL a0) = D := ⟨_, rfl⟩
  have HD := Lib.hid hD
  rw [hD] at orw0
  clear hD
  have Xw := orw0.I
  clear orw0
  obtain ⟨Aw, cw, rfl⟩ := Xw.form
  go_wp2_with fail
  refine (to_cmds _ _ a0 _ (hV0.out.below bel)).mono ?_
  rintro e w3 ⟨y, rfl, X0, hBx⟩
  have hS := bgo (w := w2) bel hBx
  have zw3 := hBx.size
  replace hB := bgo hB hS
  replace Xw := Xw.below hS
  clear hS hBx
  obtain ⟨Ax0, cx0, rfl⟩ := X0.form
  go_wp2_with fail
  refine (k_impl_Changed a0 _ _ _ (X0.below bel).reads).mono ?_
  rintro e w4 ⟨rg0, rfl, org0, hBx⟩
  rw [HD.out] at org0
  have Xg := org0.I
  clear org0
  have hS := bgo (w := w3) bel hBx
  have zw4 := hBx.size
  replace hB := bgo hB hS
  replace Xw := Xw.below hS
  replace X0 := X0.below hS
  clear hS hBx
  obtain ⟨Ag, cg, rfl⟩ := Xg.form
  have hLD := Xg.len
  go_wp2_with fail
  refine (t_ints _ _ _ _ D _ (Xg.below bel).reads (Xw.below bel).reads).mono ?_
  rintro e w5 ⟨rfl, hBx⟩
  have hS := bgo (w := w4) bel hBx
  have zw5 := hBx.size
  replace hB := bgo hB hS
  replace Xw := Xw.below hS
  replace X0 := X0.below hS
  replace Xg := Xg.below hS
  clear hS hBx
  go_wp2_with fail
  refine (to_cmds _ _ a0 _ (hV0.out.below bel)).mono ?_
  rintro e w6 ⟨y, rfl, oz, hBx⟩
  have hS := bgo (w := w5) bel hBx
  have zw6 := hBx.size
  replace hB := bgo hB hS
  replace Xw := Xw.below hS
  replace X0 := X0.below hS
  replace Xg := Xg.below hS
  clear hS hBx
  obtain ⟨Az0, cz0, rfl⟩ := oz.form
  go_wp2_with fail
  refine (t_cmds _ _ _ _ a0 _ (X0.below bel).reads (oz.below bel).reads).mono ?_
  rintro e w7 ⟨rfl, hBx⟩
  have hS := bgo (w := w6) bel hBx
  have zw7 := hBx.size
  replace hB := bgo hB hS
  replace Xw := Xw.below hS
  replace X0 := X0.below hS
  replace Xg := Xg.below hS
  replace oz := oz.below hS
  clear hS hBx
  clear oz
  go_wp2_with fail
  refine (m_cmds _ a0 _ _ _ _ X0 (by omega) (by omega)).mono ?_
  rintro e w8 ⟨rfl, X0m, hM⟩
  have hsz := hM.size
  replace hB := Mk.keepB hB hM (by omega) (by have := hB.size; omega)
  replace Xw := Xw.mk hM (by omega)
  replace Xg := Xg.mk hM (by omega)
  clear X0 hM
  have zw8 := hsz
  clear hsz
  clear X0m
  go_wp2_with fail
  refine (t_ints _ _ _ _ D _ (Xg.below bel).reads (Xw.below bel).reads).mono ?_
  rintro e w9 ⟨rfl, hBx⟩
  have hS := bgo (w := w8) bel hBx
  have zw9 := hBx.size
  replace hB := bgo hB hS
  replace Xw := Xw.below hS
  replace Xg := Xg.below hS
  clear hS hBx
  go_wp2_with fail
  refine (m_ints _ D _ _ _ _ Xg (by omega) (by omega)).mono ?_
  rintro e w10 ⟨rfl, Xgm, hM⟩
  have hsz := hM.size
  replace hB := Mk.keepB hB hM (by omega) (by have := hB.size; omega)
  replace Xw := Xw.mk hM (by omega)
  clear Xg hM
  have zw10 := hsz
  clear hsz
  go_wp2_with fail
  refine (h_ints _ D _ 1 _ (Xgm.below bel) (by omega) (by omega)).mono ?_
  rintro e w11 ⟨rfl, hBx⟩
  have hS := bgo (w := w10) bel hBx
  have zw11 := hBx.size
  replace hB := bgo hB hS
  replace Xw := Xw.below hS
  replace Xgm := Xgm.below hS
  clear hS hBx
  go_wp2_with fail
  go_wp2_with fail
  refine (to_cmds _ _ a0 _ (hV0.out.below bel)).mono ?_
  rintro e w12 ⟨yh0, rfl, oh0, hBx⟩
  obtain ⟨Kh0, eh0, rfl⟩ := oh0.form
  have hS := bgo (w := w11) bel hBx
  have zw12 := hBx.size
  replace hB := bgo hB hS
  replace Xw := Xw.below hS
  replace Xgm := Xgm.below hS
  clear hS hBx
  go_wp2_with fail
  refine (k_impl_Changed a0 _ _ _ (oh0.below bel).reads).mono ?_
  rintro e w13 ⟨rh0, rfl, orh0, hBx⟩
  have hS := bgo (w := w12) bel hBx
  have zw13 := hBx.size
  replace hB := bgo hB hS
  replace Xw := Xw.below hS
  replace Xgm := Xgm.below hS
  replace oh0 := oh0.below hS
  clear hS hBx
  clear oh0
  rw [HD.out] at orh0
  have Xh := orh0.I
  clear orh0
  obtain ⟨Ah, ch, rfl⟩ := Xh.form
  go_wp2_with fail
  refine (t_ints _ _ _ _ D _ (Xh.below bel).reads (Xw.below bel).reads).mono ?_
  rintro e w14 ⟨rfl, hBx⟩
  have hS := bgo (w := w13) bel hBx
  have zw14 := hBx.size
  replace hB := bgo hB hS
  replace Xw := Xw.below hS
  replace Xgm := Xgm.below hS
  replace Xh := Xh.below hS
  clear hS hBx
  go_wp2_with fail
  refine (h_ints _ D _ 1 _ (Xgm.below bel) (by omega) (by omega)).mono ?_
  rintro e w15 ⟨rfl, hBx⟩
  have hS := bgo (w := w14) bel hBx
  have zw15 := hBx.size
  replace hB := bgo hB hS
  replace Xw := Xw.below hS
  replace Xgm := Xgm.below hS
  replace Xh := Xh.below hS
  clear hS hBx
  go_wp2_with fail
  go_ret
  exact ⟨rfl, hB⟩
end Go.Proofs.Ytcgifoghggajgaa
