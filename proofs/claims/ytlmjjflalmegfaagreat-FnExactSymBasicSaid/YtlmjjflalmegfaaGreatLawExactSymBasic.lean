/- 'laws.FnExactSymBasic' returns true for all arguments that can be read. -/
import Derived.Test.YtlmjjflalmegfaaGreatMIntSS
import Derived.Test.YtlmjjflalmegfaaGreatSymX
import Derived.Deep.RegionHeld3
import Derived.Deep.DrawnRows
set_option linter.unusedSimpArgs false
set_option linter.unusedVariables false
namespace Go.Proofs.YtlmjjflalmegfaaGreat
open Go Go.RowKit Go.Proofs
attribute [local go_sem ↓] Go.wp_at_zero Go.wp_at_succ

--@ laws.FnExactSymBasic
set_option maxRecDepth 100000 in
set_option maxHeartbeats 6400000 in
theorem c_FnExactSymBasic (v0 : Value) (a0 : Asn) (v1 : Value) (a1 : Cm1) (v2 : Value) (a2 : List Int) (w : World) (h0 : AsnR w v0 a0) (h1 : C1R w v1 a1) (h2 : ∃ A c, v2 = .slice A a2.length c ∧ IntsR w A a2) : Calls Tryz.prog 6 #[v0, v1, v2] w fun e w' => e = .returned (.bool true) ∧ Below w.heap.size w w' := by
  obtain ⟨A0, c0, B0, d0, rfl, r0a, r0b⟩ := h0
  have HR1 := Lib.hid h1
  obtain ⟨A1, c1, B1, d1, E1, e1, F1, f1, rfl, r1a, r1b, r1c, r1d⟩ := h1
  obtain ⟨A2, c2, rfl, r2a⟩ := h2
  by_cases hn2 : 1048576 < a2.length
  · have hnl2 := r2a.2
    go_enter Tryz.func6, Tryz.ntmps6
    go_wp2_with fail
    go_ret
    exact ⟨rfl, bel⟩
  have hnl2 : a2.length ≤ 1048576 := by omega
  clear hn2
  by_cases hs0 : szA a0 1048576 < 0
  · go_enter Tryz.func6, Tryz.ntmps6
    go_wp2_with fail
    refine (c_szAssertion _ _ _ _ a0 1048576 _ r0a.2 r0b.2 (by omega) (by omega)).mono ?_; rintro e ws0 ⟨rfl, hB0⟩
    have hB := bgo (w := w) bel hB0
    have p0 := Blk.next (g := w.heap.size) (t := 54) (cs := #[.slice A0 a0.facts.length c0, .slice B0 a0.atoms.length d0]) blks hB0
    have p1 := Blk.next (g := w.heap.size + 1) (t := 73) (cs := #[.int .i64 a1.k, .int .i64 a1.a, .int .i64 a1.b, .bool a1.t.eq, .int .i64 a1.t.a, .int .i64 a1.t.b, .slice A1 a1.i.facts.length c1, .slice B1 a1.i.atoms.length d1, .slice E1 a1.body.len e1, .slice F1 a1.els.len f1]) blks hB0
    (replace qp0 := p0.cell; replace rp0 := p0.frozen; replace lp0 := p0.lt)
    (replace qp1 := p1.cell; replace rp1 := p1.frozen; replace lp1 := p1.lt)
    go_wp2_with fail
    go_ret
    exact ⟨rfl, bel⟩
  have hz0 := szA_le hs0
  by_cases hs1 : sz1 a1 (szA a0 1048576) < 0
  · have HZ0 := Lib.hid hz0; clear hz0
    go_enter Tryz.func6, Tryz.ntmps6
    go_wp2_with fail
    refine (c_szAssertion _ _ _ _ a0 1048576 _ r0a.2 r0b.2 (by have := HZ0.out; omega) (by have := HZ0.out; omega)).mono ?_; rintro e ws0 ⟨rfl, hB0⟩
    have hB := bgo (w := w) bel hB0
    have p0 := Blk.next (g := w.heap.size) (t := 54) (cs := #[.slice A0 a0.facts.length c0, .slice B0 a0.atoms.length d0]) blks hB0
    have p1 := Blk.next (g := w.heap.size + 1) (t := 73) (cs := #[.int .i64 a1.k, .int .i64 a1.a, .int .i64 a1.b, .bool a1.t.eq, .int .i64 a1.t.a, .int .i64 a1.t.b, .slice A1 a1.i.facts.length c1, .slice B1 a1.i.atoms.length d1, .slice E1 a1.body.len e1, .slice F1 a1.els.len f1]) blks hB0
    (replace qp0 := p0.cell; replace rp0 := p0.frozen; replace lp0 := p0.lt)
    (replace qp1 := p1.cell; replace rp1 := p1.frozen; replace lp1 := p1.lt)
    go_wp2_with fail
    refine (c_sz1 _ a1 (szA a0 1048576) _ HR1.out bel (by have := HZ0.out; omega) (by have := HZ0.out; omega)).mono ?_; rintro e ws1 ⟨rfl, hB1⟩
    replace hB := bgo hB hB1
    replace p0 := p0.next hB1
    replace p1 := p1.next hB1
    (replace qp0 := p0.cell; replace rp0 := p0.frozen; replace lp0 := p0.lt)
    (replace qp1 := p1.cell; replace rp1 := p1.frozen; replace lp1 := p1.lt)
    go_wp2_with fail
    go_ret
    exact ⟨rfl, bel⟩
  have hz1 := sz1_le hs1
  have hmk1 := Cm1.marks_le a1
  have hlen : a0.facts.length ≤ 1048576 ∧ a0.atoms.length ≤ 1048576 ∧ a1.cost ≤ 1048576 ∧ a1.marks ≤ 6291456 := by omega
  have HZ0 : Hid (0 ≤ (szA a0 1048576) ∧ (szA a0 1048576) ≤ 1048576) := ⟨by omega, by omega⟩
  clear hz0
  clear hz1
  obtain ⟨hL0, hL1, hL2, hL3⟩ := hlen
  have hV0 : Hid (AsnV w 0 w.heap.size (.agg #[.slice A0 a0.facts.length c0, .slice B0 a0.atoms.length d0]) a0) := ⟨_, _, _, _, rfl, r0a.toV (by omega), r0b.toV (by omega)⟩
  have hp1 := Cm1.parts_le hL2
  have hV1 : Hid (C1V w 0 w.heap.size (.agg #[.int .i64 a1.k, .int .i64 a1.a, .int .i64 a1.b, .bool a1.t.eq, .int .i64 a1.t.a, .int .i64 a1.t.b, .slice A1 a1.i.facts.length c1, .slice B1 a1.i.atoms.length d1, .slice E1 a1.body.len e1, .slice F1 a1.els.len f1]) a1) := ⟨_, _, _, _, _, _, _, _, rfl, ⟨_, _, _, _, rfl, r1a.toV (by omega), r1b.toV (by omega)⟩, r1c.toW hp1.2.2.1, r1d.toW hp1.2.2.2⟩
  have HC1 : Hid (a1.cost ≤ 1048576) := hL2
  clear hp1 hmk1
  have hV2 : Hid (IntsV w 0 w.heap.size A2 a2) := r2a.toV (by omega)
  go_enter Tryz.func6, Tryz.ntmps6
  go_wp2_with fail
  refine (c_szAssertion _ _ _ _ a0 1048576 _ r0a.2 r0b.2 (by have := HZ0.out; omega) (by have := HZ0.out; omega)).mono ?_; rintro e ws0 ⟨rfl, hB0⟩
  have hB := bgo (w := w) bel hB0
  have p0 := Blk.next (g := w.heap.size) (t := 54) (cs := #[.slice A0 a0.facts.length c0, .slice B0 a0.atoms.length d0]) blks hB0
  have p1 := Blk.next (g := w.heap.size + 1) (t := 73) (cs := #[.int .i64 a1.k, .int .i64 a1.a, .int .i64 a1.b, .bool a1.t.eq, .int .i64 a1.t.a, .int .i64 a1.t.b, .slice A1 a1.i.facts.length c1, .slice B1 a1.i.atoms.length d1, .slice E1 a1.body.len e1, .slice F1 a1.els.len f1]) blks hB0
  (replace qp0 := p0.cell; replace rp0 := p0.frozen; replace lp0 := p0.lt)
  (replace qp1 := p1.cell; replace rp1 := p1.frozen; replace lp1 := p1.lt)
  go_wp2_with fail
  refine (c_sz1 _ a1 (szA a0 1048576) _ HR1.out bel (by have := HZ0.out; omega) (by have := HZ0.out; omega)).mono ?_; rintro e ws1 ⟨rfl, hB1⟩
  replace hB := bgo hB hB1
  replace p0 := p0.next hB1
  replace p1 := p1.next hB1
  (replace qp0 := p0.cell; replace rp0 := p0.frozen; replace lp0 := p0.lt)
  (replace qp1 := p1.cell; replace rp1 := p1.frozen; replace lp1 := p1.lt)
  have zs := hB.size
  have zb0 := p0.lt
  have zb1 := p1.lt
  clear hB0 hB1
  clear r0a r0b
  clear r1a r1b r1c r1d HR1
  clear r2a
  go_wp2_with fail
  have tok0 : True := trivial
  have tok1 : True := trivial
  have tok2 : True := trivial
  go_region_held3 (fun w' => (∀ i, w'.cell? ⟨w.heap.size, i, none⟩ = #[.slice A0 a0.facts.length c0, .slice B0 a0.atoms.length d0][i]?) ∧ (∀ i, w'.cell? ⟨w.heap.size + 1, i, none⟩ = #[.int .i64 a1.k, .int .i64 a1.a, .int .i64 a1.b, .bool a1.t.eq, .int .i64 a1.t.a, .int .i64 a1.t.b, .slice A1 a1.i.facts.length c1, .slice B1 a1.i.atoms.length d1, .slice E1 a1.body.len e1, .slice F1 a1.els.len f1][i]?))
    (first | exact ⟨p0.cell, p1.cell⟩ | exact ⟨p0.drew.cell, p1.drew.cell⟩)
    (first
      | (have _t := tok0; go_at_call 24; refine (to_asn _ a0 _ (hV0.out.below bel)).mono ?_; clear tok0; rintro e w1 ⟨ys0, rfl, os0, hBx⟩; have hS : Below ws1.heap.size ws1 w1 := bgo (Below.refl ws1.heap.size ws1).drew hBx; replace hB := bgo hB hS; replace p0 := p0.drew.next hBx; replace p1 := p1.drew.next hBx)
      | (have _t := tok1; go_at_call 37; refine (to_cmd _ a1 _ (hV1.out.below bel) HC1.out).mono ?_; clear tok1; rintro e w2 ⟨ys1, rfl, os1, hBx⟩; replace hS := bgo hS hBx; replace hB := bgo hB hBx; replace p0 := p0.next hBx; replace p1 := p1.next hBx; replace os0 := os0.below hBx)
      | (have _t := tok2; go_at_call 26; refine (to_ints _ _ a2 _ (hV2.out.below bel)).mono ?_; clear tok2; rintro e w3 ⟨ys2, rfl, os2, hBx⟩; obtain ⟨Ks2, es2, rfl⟩ := os2.form; replace hS := bgo hS hBx; replace hB := bgo hB hBx; replace p0 := p0.next hBx; replace p1 := p1.next hBx; replace os0 := os0.below hBx; replace os1 := os1.below hBx)
      | (go_at_call 36; refine (k_spec_SymBasic _ _ a0 a1 _ _ a2 _ os0.readsC (Nat.le_refl _) os1.reads os2.reads (by omega)).mono ?_; rintro e w4 ⟨rw0, rfl, orw0, hBx⟩; replace hS := bgo hS hBx; replace hB := bgo hB hBx; replace p0 := p0.next hBx; replace p1 := p1.next hBx))
  have zw4 := hS.size
  clear hS os0 os1 os2
  (replace qp0 := p0.cell; replace rp0 := p0.frozen; replace lp0 := p0.lt)
  (replace qp1 := p1.cell; replace rp1 := p1.frozen; replace lp1 := p1.lt)
  obtain ⟨D, hD⟩ : ∃ D, ((symC a0 a1 a2).getD []) = D := ⟨_, rfl⟩
  have HD := Lib.hid hD
  rw [hD] at orw0
  clear hD
  obtain ⟨sb, hsb⟩ : ∃ b, (symC a0 a1 a2).isSome = b := ⟨_, rfl⟩
  have HSB := Lib.hid hsb
  rw [hsb]
  clear hsb
  have Xw := orw0.I
  clear orw0
  obtain ⟨Aw, cw, rfl⟩ := Xw.form
  go_wp2_with fail
  refine (to_asn _ a0 _ (hV0.out.below bel)).mono ?_
  rintro e w5 ⟨y, rfl, X0, hBx⟩
  have hS := bgo (w := w4) bel hBx
  have zw5 := hBx.size
  replace hB := bgo hB hS
  replace p0 := p0.next hS
  replace p1 := p1.next hS
  replace Xw := Xw.below hS
  clear hS hBx
  (replace qp0 := p0.cell; replace rp0 := p0.frozen; replace lp0 := p0.lt)
  (replace qp1 := p1.cell; replace rp1 := p1.frozen; replace lp1 := p1.lt)
  obtain ⟨Ax0, cx0, Bx0, dx0, rfl⟩ := X0.form
  go_wp2_with fail
  refine (to_cmd _ a1 _ (hV1.out.below bel) HC1.out).mono ?_
  rintro e w6 ⟨y, rfl, X1, hBx⟩
  rw [World.size_alloc] at X1
  have hS := bgo (w := w5) bel hBx
  have zw6 := hBx.size
  simp only [World.size_alloc] at zw6
  replace hB := bgo hB hS
  replace p0 := p0.next hS
  replace p1 := p1.next hS
  replace Xw := Xw.below hS
  replace X0 := X0.below hS
  have px0 := Blk.next (g := w5.heap.size) (t := 26) (cs := #[.slice Ax0 a0.facts.length cx0, .slice Bx0 a0.atoms.length dx0]) blks hBx
  clear hS hBx
  (replace qp0 := p0.cell; replace rp0 := p0.frozen; replace lp0 := p0.lt)
  (replace qp1 := p1.cell; replace rp1 := p1.frozen; replace lp1 := p1.lt)
  (replace qpx0 := px0.cell; replace rpx0 := px0.frozen; replace lpx0 := px0.lt)
  obtain ⟨Ax1, cx1, Bx1, dx1, Ex1, ex1, Fx1, fx1, rfl⟩ := X1.form
  go_wp2_with fail
  refine (to_ints _ _ a2 _ (hV2.out.below bel)).mono ?_
  rintro e w7 ⟨y, rfl, X2, hBx⟩
  rw [World.size_alloc] at X2
  have hS := bgo (w := w6) bel hBx
  have zw7 := hBx.size
  simp only [World.size_alloc] at zw7
  replace hB := bgo hB hS
  replace p0 := p0.next hS
  replace p1 := p1.next hS
  replace px0 := px0.next hS
  replace Xw := Xw.below hS
  replace X0 := X0.below hS
  replace X1 := X1.below hS
  have px1 := Blk.next (g := w6.heap.size) (t := 79) (cs := #[.int .i64 a1.k, .int .i64 a1.a, .int .i64 a1.b, .bool a1.t.eq, .int .i64 a1.t.a, .int .i64 a1.t.b, .slice Ax1 a1.i.facts.length cx1, .slice Bx1 a1.i.atoms.length dx1, .slice Ex1 a1.body.len ex1, .slice Fx1 a1.els.len fx1]) blks hBx
  clear hS hBx
  (replace qp0 := p0.cell; replace rp0 := p0.frozen; replace lp0 := p0.lt)
  (replace qp1 := p1.cell; replace rp1 := p1.frozen; replace lp1 := p1.lt)
  (replace qpx0 := px0.cell; replace rpx0 := px0.frozen; replace lpx0 := px0.lt)
  (replace qpx1 := px1.cell; replace rpx1 := px1.frozen; replace lpx1 := px1.lt)
  obtain ⟨Ax2, cx2, rfl⟩ := X2.form
  go_wp2_with fail
  refine (k_impl_SymBasic _ _ a0 a1 _ _ a2 _ (X0.below bel).readsC (Nat.le_refl _) (X1.below bel).reads (X2.below bel).reads).mono ?_
  rintro e w8 ⟨rg0, rfl, org0, hBx⟩
  rw [HD.out] at org0
  have Xg := org0.I
  clear org0
  rw [HSB.out]
  have hS := bgo (w := w7) bel hBx
  have zw8 := hBx.size
  replace hB := bgo hB hS
  replace p0 := p0.next hS
  replace p1 := p1.next hS
  replace px0 := px0.next hS
  replace px1 := px1.next hS
  replace Xw := Xw.below hS
  replace X0 := X0.below hS
  replace X1 := X1.below hS
  replace X2 := X2.below hS
  clear hS hBx
  (replace qp0 := p0.cell; replace rp0 := p0.frozen; replace lp0 := p0.lt)
  (replace qp1 := p1.cell; replace rp1 := p1.frozen; replace lp1 := p1.lt)
  (replace qpx0 := px0.cell; replace rpx0 := px0.frozen; replace lpx0 := px0.lt)
  (replace qpx1 := px1.cell; replace rpx1 := px1.frozen; replace lpx1 := px1.lt)
  obtain ⟨Ag, cg, rfl⟩ := Xg.form
  have hLD := Xg.len
  go_wp2_with fail
  refine (t_asns _ _ _ _ D _ (Xg.below bel).reads (Xw.below bel).reads).mono ?_
  rintro e w9 ⟨rfl, hBx⟩
  have hS := bgo (w := w8) bel hBx
  have zw9 := hBx.size
  replace hB := bgo hB hS
  replace p0 := p0.next hS
  replace p1 := p1.next hS
  replace px0 := px0.next hS
  replace px1 := px1.next hS
  replace Xw := Xw.below hS
  replace X0 := X0.below hS
  replace X1 := X1.below hS
  replace X2 := X2.below hS
  replace Xg := Xg.below hS
  clear hS hBx
  (replace qp0 := p0.cell; replace rp0 := p0.frozen; replace lp0 := p0.lt)
  (replace qp1 := p1.cell; replace rp1 := p1.frozen; replace lp1 := p1.lt)
  (replace qpx0 := px0.cell; replace rpx0 := px0.frozen; replace lpx0 := px0.lt)
  (replace qpx1 := px1.cell; replace rpx1 := px1.frozen; replace lpx1 := px1.lt)
  go_wp2_with fail
  go_region_held3 (fun w' => (∀ i, w'.cell? ⟨w.heap.size, i, none⟩ = #[.slice A0 a0.facts.length c0, .slice B0 a0.atoms.length d0][i]?) ∧ (∀ i, w'.cell? ⟨w5.heap.size, i, none⟩ = #[.slice Ax0 a0.facts.length cx0, .slice Bx0 a0.atoms.length dx0][i]?))
    (first | exact ⟨p0.cell, px0.cell⟩ | exact ⟨p0.drew.cell, px0.drew.cell⟩)
    (first
      | (go_at_call 24; refine (to_asn _ a0 _ (hV0.out.below bel)).mono ?_; rintro e w10 ⟨y, rfl, oz, hBx⟩; have hS : Below w9.heap.size w9 w10 := bgo (Below.refl w9.heap.size w9).drew hBx; replace hB := bgo hB hS; replace p0 := p0.drew.next hBx; replace p1 := p1.drew.next hBx; replace px0 := px0.drew.next hBx; replace px1 := px1.drew.next hBx)
      | (go_at_call 28; refine (t_asn _ _ a0 _ (X0.below hS).reads oz.reads).mono ?_; rintro e w11 ⟨rfl, hBx⟩; replace hS := bgo hS hBx; replace hB := bgo hB hBx; replace p0 := p0.next hBx; replace p1 := p1.next hBx; replace px0 := px0.next hBx; replace px1 := px1.next hBx))
  have zw11 := hS.size
  replace Xw := Xw.below hS
  replace X0 := X0.below hS
  replace X1 := X1.below hS
  replace X2 := X2.below hS
  replace Xg := Xg.below hS
  clear hS oz
  (replace qp0 := p0.cell; replace rp0 := p0.frozen; replace lp0 := p0.lt)
  (replace qp1 := p1.cell; replace rp1 := p1.frozen; replace lp1 := p1.lt)
  (replace qpx0 := px0.cell; replace rpx0 := px0.frozen; replace lpx0 := px0.lt)
  (replace qpx1 := px1.cell; replace rpx1 := px1.frozen; replace lpx1 := px1.lt)
  go_wp2_with fail
  go_region_held3 (fun w' => (∀ i, w'.cell? ⟨w.heap.size + 1, i, none⟩ = #[.int .i64 a1.k, .int .i64 a1.a, .int .i64 a1.b, .bool a1.t.eq, .int .i64 a1.t.a, .int .i64 a1.t.b, .slice A1 a1.i.facts.length c1, .slice B1 a1.i.atoms.length d1, .slice E1 a1.body.len e1, .slice F1 a1.els.len f1][i]?) ∧ (∀ i, w'.cell? ⟨w6.heap.size, i, none⟩ = #[.int .i64 a1.k, .int .i64 a1.a, .int .i64 a1.b, .bool a1.t.eq, .int .i64 a1.t.a, .int .i64 a1.t.b, .slice Ax1 a1.i.facts.length cx1, .slice Bx1 a1.i.atoms.length dx1, .slice Ex1 a1.body.len ex1, .slice Fx1 a1.els.len fx1][i]?))
    (first | exact ⟨p1.cell, px1.cell⟩ | exact ⟨p1.drew.cell, px1.drew.cell⟩)
    (first
      | (go_at_call 37; refine (to_cmd _ a1 _ (hV1.out.below bel) HC1.out).mono ?_; rintro e w12 ⟨y, rfl, oz, hBx⟩; have hS : Below w11.heap.size w11 w12 := bgo (Below.refl w11.heap.size w11).drew hBx; replace hB := bgo hB hS; replace p0 := p0.drew.next hBx; replace p1 := p1.drew.next hBx; replace px0 := px0.drew.next hBx; replace px1 := px1.drew.next hBx)
      | (go_at_call 40; refine (t_cmd _ _ a1 _ (X1.below hS).reads oz.reads).mono ?_; rintro e w13 ⟨rfl, hBx⟩; replace hS := bgo hS hBx; replace hB := bgo hB hBx; replace p0 := p0.next hBx; replace p1 := p1.next hBx; replace px0 := px0.next hBx; replace px1 := px1.next hBx))
  have zw13 := hS.size
  replace Xw := Xw.below hS
  replace X0 := X0.below hS
  replace X1 := X1.below hS
  replace X2 := X2.below hS
  replace Xg := Xg.below hS
  clear hS oz
  (replace qp0 := p0.cell; replace rp0 := p0.frozen; replace lp0 := p0.lt)
  (replace qp1 := p1.cell; replace rp1 := p1.frozen; replace lp1 := p1.lt)
  (replace qpx0 := px0.cell; replace rpx0 := px0.frozen; replace lpx0 := px0.lt)
  (replace qpx1 := px1.cell; replace rpx1 := px1.frozen; replace lpx1 := px1.lt)
  go_wp2_with fail
  refine (to_ints _ _ a2 _ (hV2.out.below bel)).mono ?_
  rintro e w14 ⟨y, rfl, oz, hBx⟩
  have hS := bgo (w := w13) bel hBx
  have zw14 := hBx.size
  replace hB := bgo hB hS
  replace p0 := p0.next hS
  replace p1 := p1.next hS
  replace px0 := px0.next hS
  replace px1 := px1.next hS
  replace Xw := Xw.below hS
  replace X0 := X0.below hS
  replace X1 := X1.below hS
  replace X2 := X2.below hS
  replace Xg := Xg.below hS
  clear hS hBx
  (replace qp0 := p0.cell; replace rp0 := p0.frozen; replace lp0 := p0.lt)
  (replace qp1 := p1.cell; replace rp1 := p1.frozen; replace lp1 := p1.lt)
  (replace qpx0 := px0.cell; replace rpx0 := px0.frozen; replace lpx0 := px0.lt)
  (replace qpx1 := px1.cell; replace rpx1 := px1.frozen; replace lpx1 := px1.lt)
  obtain ⟨Az2, cz2, rfl⟩ := oz.form
  go_wp2_with fail
  refine (t_ints _ _ _ _ a2 _ (X2.below bel).reads (oz.below bel).reads).mono ?_
  rintro e w15 ⟨rfl, hBx⟩
  have hS := bgo (w := w14) bel hBx
  have zw15 := hBx.size
  replace hB := bgo hB hS
  replace p0 := p0.next hS
  replace p1 := p1.next hS
  replace px0 := px0.next hS
  replace px1 := px1.next hS
  replace Xw := Xw.below hS
  replace X0 := X0.below hS
  replace X1 := X1.below hS
  replace X2 := X2.below hS
  replace Xg := Xg.below hS
  replace oz := oz.below hS
  clear hS hBx
  (replace qp0 := p0.cell; replace rp0 := p0.frozen; replace lp0 := p0.lt)
  (replace qp1 := p1.cell; replace rp1 := p1.frozen; replace lp1 := p1.lt)
  (replace qpx0 := px0.cell; replace rpx0 := px0.frozen; replace lpx0 := px0.lt)
  (replace qpx1 := px1.cell; replace rpx1 := px1.frozen; replace lpx1 := px1.lt)
  clear oz
  go_wp2_with fail
  refine (m_asn _ a0 _ _ _ _ X0 (by omega) (by omega)).mono ?_
  rintro e w16 ⟨rfl, X0m, hM⟩
  have hsz := hM.size
  replace hB := Mk.keepB hB hM (by omega) (by have := hB.size; omega)
  replace p0 := hM.blk p0 (by omega)
  replace p1 := hM.blk p1 (by omega)
  replace px0 := hM.blk px0 (by omega)
  replace px1 := hM.blk px1 (by omega)
  replace Xw := Xw.mk hM (by omega)
  replace X1 := X1.mk hM (by omega)
  replace X2 := X2.mk hM (by omega)
  replace Xg := Xg.mk hM (by omega)
  clear X0 hM
  have zw16 := hsz
  clear hsz
  (replace qp0 := p0.cell; replace rp0 := p0.frozen; replace lp0 := p0.lt)
  (replace qp1 := p1.cell; replace rp1 := p1.frozen; replace lp1 := p1.lt)
  (replace qpx0 := px0.cell; replace rpx0 := px0.frozen; replace lpx0 := px0.lt)
  (replace qpx1 := px1.cell; replace rpx1 := px1.frozen; replace lpx1 := px1.lt)
  clear X0m
  go_wp2_with fail
  refine (m_cmd _ a1 _ _ _ _ X1 (by omega) (by omega) (by omega)).mono ?_
  rintro e w17 ⟨rfl, X1m, hM⟩
  have hsz := hM.size
  replace hB := Mk.keepB hB hM (by omega) (by have := hB.size; omega)
  replace p0 := hM.blk p0 (by omega)
  replace p1 := hM.blk p1 (by omega)
  replace px0 := hM.blk px0 (by omega)
  replace px1 := hM.blk px1 (by omega)
  replace Xw := Xw.mk hM (by omega)
  replace X2 := X2.mk hM (by omega)
  replace Xg := Xg.mk hM (by omega)
  clear X1 hM
  have zw17 := hsz
  clear hsz
  (replace qp0 := p0.cell; replace rp0 := p0.frozen; replace lp0 := p0.lt)
  (replace qp1 := p1.cell; replace rp1 := p1.frozen; replace lp1 := p1.lt)
  (replace qpx0 := px0.cell; replace rpx0 := px0.frozen; replace lpx0 := px0.lt)
  (replace qpx1 := px1.cell; replace rpx1 := px1.frozen; replace lpx1 := px1.lt)
  clear X1m
  go_wp2_with fail
  refine (m_ints _ a2 _ _ _ _ X2 (by omega) (by omega)).mono ?_
  rintro e w18 ⟨rfl, X2m, hM⟩
  have hsz := hM.size
  replace hB := Mk.keepB hB hM (by omega) (by have := hB.size; omega)
  replace p0 := hM.blk p0 (by omega)
  replace p1 := hM.blk p1 (by omega)
  replace px0 := hM.blk px0 (by omega)
  replace px1 := hM.blk px1 (by omega)
  replace Xw := Xw.mk hM (by omega)
  replace Xg := Xg.mk hM (by omega)
  clear X2 hM
  have zw18 := hsz
  clear hsz
  (replace qp0 := p0.cell; replace rp0 := p0.frozen; replace lp0 := p0.lt)
  (replace qp1 := p1.cell; replace rp1 := p1.frozen; replace lp1 := p1.lt)
  (replace qpx0 := px0.cell; replace rpx0 := px0.frozen; replace lpx0 := px0.lt)
  (replace qpx1 := px1.cell; replace rpx1 := px1.frozen; replace lpx1 := px1.lt)
  clear X2m
  go_wp2_with fail
  refine (t_asns _ _ _ _ D _ (Xg.below bel).reads (Xw.below bel).reads).mono ?_
  rintro e w19 ⟨rfl, hBx⟩
  have hS := bgo (w := w18) bel hBx
  have zw19 := hBx.size
  replace hB := bgo hB hS
  replace p0 := p0.next hS
  replace p1 := p1.next hS
  replace px0 := px0.next hS
  replace px1 := px1.next hS
  replace Xw := Xw.below hS
  replace Xg := Xg.below hS
  clear hS hBx
  (replace qp0 := p0.cell; replace rp0 := p0.frozen; replace lp0 := p0.lt)
  (replace qp1 := p1.cell; replace rp1 := p1.frozen; replace lp1 := p1.lt)
  (replace qpx0 := px0.cell; replace rpx0 := px0.frozen; replace lpx0 := px0.lt)
  (replace qpx1 := px1.cell; replace rpx1 := px1.frozen; replace lpx1 := px1.lt)
  go_wp2_with fail
  refine (m_asns _ D _ _ _ _ Xg (by omega) (by omega)).mono ?_
  rintro e w20 ⟨rfl, Xgm, hM⟩
  have hsz := hM.size
  replace hB := Mk.keepB hB hM (by omega) (by have := hB.size; omega)
  replace p0 := hM.blk p0 (by omega)
  replace p1 := hM.blk p1 (by omega)
  replace px0 := hM.blk px0 (by omega)
  replace px1 := hM.blk px1 (by omega)
  replace Xw := Xw.mk hM (by omega)
  clear Xg hM
  have zw20 := hsz
  clear hsz
  (replace qp0 := p0.cell; replace rp0 := p0.frozen; replace lp0 := p0.lt)
  (replace qp1 := p1.cell; replace rp1 := p1.frozen; replace lp1 := p1.lt)
  (replace qpx0 := px0.cell; replace rpx0 := px0.frozen; replace lpx0 := px0.lt)
  (replace qpx1 := px1.cell; replace rpx1 := px1.frozen; replace lpx1 := px1.lt)
  go_wp2_with fail
  refine (h_asns _ D _ 1 _ (Xgm.below bel) (by omega) (by omega)).mono ?_
  rintro e w21 ⟨rfl, hBx⟩
  have hS := bgo (w := w20) bel hBx
  have zw21 := hBx.size
  replace hB := bgo hB hS
  replace p0 := p0.next hS
  replace p1 := p1.next hS
  replace px0 := px0.next hS
  replace px1 := px1.next hS
  replace Xw := Xw.below hS
  replace Xgm := Xgm.below hS
  clear hS hBx
  (replace qp0 := p0.cell; replace rp0 := p0.frozen; replace lp0 := p0.lt)
  (replace qp1 := p1.cell; replace rp1 := p1.frozen; replace lp1 := p1.lt)
  (replace qpx0 := px0.cell; replace rpx0 := px0.frozen; replace lpx0 := px0.lt)
  (replace qpx1 := px1.cell; replace rpx1 := px1.frozen; replace lpx1 := px1.lt)
  go_wp2_with fail
  have tok0 : True := trivial
  have tok1 : True := trivial
  have tok2 : True := trivial
  go_region_held3 (fun w' => (∀ i, w'.cell? ⟨w.heap.size, i, none⟩ = #[.slice A0 a0.facts.length c0, .slice B0 a0.atoms.length d0][i]?) ∧ (∀ i, w'.cell? ⟨w.heap.size + 1, i, none⟩ = #[.int .i64 a1.k, .int .i64 a1.a, .int .i64 a1.b, .bool a1.t.eq, .int .i64 a1.t.a, .int .i64 a1.t.b, .slice A1 a1.i.facts.length c1, .slice B1 a1.i.atoms.length d1, .slice E1 a1.body.len e1, .slice F1 a1.els.len f1][i]?))
    (first | exact ⟨p0.cell, p1.cell⟩ | exact ⟨p0.drew.cell, p1.drew.cell⟩)
    (first
      | (have _t := tok0; go_at_call 24; refine (to_asn _ a0 _ (hV0.out.below bel)).mono ?_; clear tok0; rintro e w22 ⟨yh0, rfl, oh0, hBx⟩; have hS : Below w21.heap.size w21 w22 := bgo (Below.refl w21.heap.size w21).drew hBx; replace hB := bgo hB hS; replace p0 := p0.drew.next hBx; replace p1 := p1.drew.next hBx; replace px0 := px0.drew.next hBx; replace px1 := px1.drew.next hBx)
      | (have _t := tok1; go_at_call 37; refine (to_cmd _ a1 _ (hV1.out.below bel) HC1.out).mono ?_; clear tok1; rintro e w23 ⟨yh1, rfl, oh1, hBx⟩; replace hS := bgo hS hBx; replace hB := bgo hB hBx; replace p0 := p0.next hBx; replace p1 := p1.next hBx; replace px0 := px0.next hBx; replace px1 := px1.next hBx; replace oh0 := oh0.below hBx)
      | (have _t := tok2; go_at_call 26; refine (to_ints _ _ a2 _ (hV2.out.below bel)).mono ?_; clear tok2; rintro e w24 ⟨yh2, rfl, oh2, hBx⟩; obtain ⟨Kh2, eh2, rfl⟩ := oh2.form; replace hS := bgo hS hBx; replace hB := bgo hB hBx; replace p0 := p0.next hBx; replace p1 := p1.next hBx; replace px0 := px0.next hBx; replace px1 := px1.next hBx; replace oh0 := oh0.below hBx; replace oh1 := oh1.below hBx)
      | (go_at_call 38; refine (k_impl_SymBasic _ _ a0 a1 _ _ a2 _ oh0.readsC (Nat.le_refl _) oh1.reads oh2.reads).mono ?_; rintro e w25 ⟨rh0, rfl, orh0, hBx⟩; replace hS := bgo hS hBx; replace hB := bgo hB hBx; replace p0 := p0.next hBx; replace p1 := p1.next hBx; replace px0 := px0.next hBx; replace px1 := px1.next hBx))
  have zw25 := hS.size
  replace Xw := Xw.below hS
  replace Xgm := Xgm.below hS
  clear hS oh0 oh1 oh2
  (replace qp0 := p0.cell; replace rp0 := p0.frozen; replace lp0 := p0.lt)
  (replace qp1 := p1.cell; replace rp1 := p1.frozen; replace lp1 := p1.lt)
  (replace qpx0 := px0.cell; replace rpx0 := px0.frozen; replace lpx0 := px0.lt)
  (replace qpx1 := px1.cell; replace rpx1 := px1.frozen; replace lpx1 := px1.lt)
  rw [HD.out] at orh0
  rw [HSB.out]
  have Xh := orh0.I
  clear orh0
  obtain ⟨Ah, ch, rfl⟩ := Xh.form
  go_wp2_with fail
  refine (t_asns _ _ _ _ D _ (Xh.below bel).reads (Xw.below bel).reads).mono ?_
  rintro e w26 ⟨rfl, hBx⟩
  have hS := bgo (w := w25) bel hBx
  have zw26 := hBx.size
  replace hB := bgo hB hS
  replace p0 := p0.next hS
  replace p1 := p1.next hS
  replace px0 := px0.next hS
  replace px1 := px1.next hS
  replace Xw := Xw.below hS
  replace Xgm := Xgm.below hS
  replace Xh := Xh.below hS
  clear hS hBx
  (replace qp0 := p0.cell; replace rp0 := p0.frozen; replace lp0 := p0.lt)
  (replace qp1 := p1.cell; replace rp1 := p1.frozen; replace lp1 := p1.lt)
  (replace qpx0 := px0.cell; replace rpx0 := px0.frozen; replace lpx0 := px0.lt)
  (replace qpx1 := px1.cell; replace rpx1 := px1.frozen; replace lpx1 := px1.lt)
  go_wp2_with fail
  refine (h_asns _ D _ 1 _ (Xgm.below bel) (by omega) (by omega)).mono ?_
  rintro e w27 ⟨rfl, hBx⟩
  have hS := bgo (w := w26) bel hBx
  have zw27 := hBx.size
  replace hB := bgo hB hS
  replace p0 := p0.next hS
  replace p1 := p1.next hS
  replace px0 := px0.next hS
  replace px1 := px1.next hS
  replace Xw := Xw.below hS
  replace Xgm := Xgm.below hS
  replace Xh := Xh.below hS
  clear hS hBx
  (replace qp0 := p0.cell; replace rp0 := p0.frozen; replace lp0 := p0.lt)
  (replace qp1 := p1.cell; replace rp1 := p1.frozen; replace lp1 := p1.lt)
  (replace qpx0 := px0.cell; replace rpx0 := px0.frozen; replace lpx0 := px0.lt)
  (replace qpx1 := px1.cell; replace rpx1 := px1.frozen; replace lpx1 := px1.lt)
  go_wp2_with fail
  go_ret
  exact ⟨rfl, hB⟩
end Go.Proofs.YtlmjjflalmegfaaGreat
