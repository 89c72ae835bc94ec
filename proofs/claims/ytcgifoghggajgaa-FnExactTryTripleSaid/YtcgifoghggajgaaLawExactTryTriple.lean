/- 'laws.FnExactTryTriple' returns true for all arguments that can be read. -/
import Derived.Test.YtcgifoghggajgaaMCmdC
import Derived.Test.YtcgifoghggajgaaTry
import Derived.Deep.RegionHeld3
import Derived.Deep.DrawnRows
set_option linter.unusedSimpArgs false
set_option linter.unusedVariables false
namespace Go.Proofs.Ytcgifoghggajgaa
open Go Go.RowKit Go.Proofs
attribute [local go_sem ↓] Go.wp_at_zero Go.wp_at_succ

--@ laws.FnExactTryTriple
set_option maxRecDepth 100000 in
set_option maxHeartbeats 6400000 in
theorem c_FnExactTryTriple (v0 : Value) (a0 : Ste) (v1 : Value) (a1 : Asn) (v2 : Value) (a2 : Cms) (v3 : Value) (a3 : Asn) (w : World) (h0 : StateR w v0 a0) (h1 : AsnR w v1 a1) (h2 : ∃ A c, v2 = .slice A a2.len c ∧ CmsR w A a2) (h3 : AsnR w v3 a3) : Calls Try.prog 14 #[v0, v1, v2, v3] w fun e w' => e = .returned (.bool true) ∧ Below w.heap.size w w' := by
  obtain ⟨A0, c0, B0, d0, rfl, r0a, r0b⟩ := h0
  obtain ⟨A1, c1, B1, d1, rfl, r1a, r1b⟩ := h1
  obtain ⟨A2, c2, rfl, r2a⟩ := h2
  obtain ⟨A3, c3, B3, d3, rfl, r3a, r3b⟩ := h3
  by_cases hs0 : szSt a0 1048576 < 0
  · go_enter Try.func14, Try.ntmps14
    go_wp2_with fail
    refine (c_szState _ _ _ _ a0 1048576 _ r0a.2 r0b.2 (by omega) (by omega)).mono ?_; rintro e ws0 ⟨rfl, hB0⟩
    have hB := bgo (w := w) bel hB0
    have p0 := Blk.next (g := w.heap.size) (t := 61) (cs := #[.slice A0 a0.values.length c0, .slice B0 a0.heap.length d0]) blks hB0
    have p1 := Blk.next (g := w.heap.size + 1) (t := 41) (cs := #[.slice A1 a1.facts.length c1, .slice B1 a1.atoms.length d1]) blks hB0
    have p3 := Blk.next (g := w.heap.size + 1 + 1) (t := 41) (cs := #[.slice A3 a3.facts.length c3, .slice B3 a3.atoms.length d3]) blks hB0
    (replace qp0 := p0.cell; replace rp0 := p0.frozen; replace lp0 := p0.lt)
    (replace qp1 := p1.cell; replace rp1 := p1.frozen; replace lp1 := p1.lt)
    (replace qp3 := p3.cell; replace rp3 := p3.frozen; replace lp3 := p3.lt)
    go_wp2_with fail
    go_ret
    exact ⟨rfl, bel⟩
  have hz0 := szSt_le hs0
  by_cases hs1 : szA a1 (szSt a0 1048576) < 0
  · have HZ0 := Lib.hid hz0; clear hz0
    go_enter Try.func14, Try.ntmps14
    go_wp2_with fail
    refine (c_szState _ _ _ _ a0 1048576 _ r0a.2 r0b.2 (by have := HZ0.out; omega) (by have := HZ0.out; omega)).mono ?_; rintro e ws0 ⟨rfl, hB0⟩
    have hB := bgo (w := w) bel hB0
    have p0 := Blk.next (g := w.heap.size) (t := 61) (cs := #[.slice A0 a0.values.length c0, .slice B0 a0.heap.length d0]) blks hB0
    have p1 := Blk.next (g := w.heap.size + 1) (t := 41) (cs := #[.slice A1 a1.facts.length c1, .slice B1 a1.atoms.length d1]) blks hB0
    have p3 := Blk.next (g := w.heap.size + 1 + 1) (t := 41) (cs := #[.slice A3 a3.facts.length c3, .slice B3 a3.atoms.length d3]) blks hB0
    (replace qp0 := p0.cell; replace rp0 := p0.frozen; replace lp0 := p0.lt)
    (replace qp1 := p1.cell; replace rp1 := p1.frozen; replace lp1 := p1.lt)
    (replace qp3 := p3.cell; replace rp3 := p3.frozen; replace lp3 := p3.lt)
    go_wp2_with fail
    refine (c_szAssertion _ _ _ _ a1 (szSt a0 1048576) _ r1a.2 r1b.2 (by have := HZ0.out; omega) (by have := HZ0.out; omega)).mono ?_; rintro e ws1 ⟨rfl, hB1⟩
    replace hB := bgo hB hB1
    replace p0 := p0.next hB1
    replace p1 := p1.next hB1
    replace p3 := p3.next hB1
    (replace qp0 := p0.cell; replace rp0 := p0.frozen; replace lp0 := p0.lt)
    (replace qp1 := p1.cell; replace rp1 := p1.frozen; replace lp1 := p1.lt)
    (replace qp3 := p3.cell; replace rp3 := p3.frozen; replace lp3 := p3.lt)
    go_wp2_with fail
    go_ret
    exact ⟨rfl, bel⟩
  have hz1 := szA_le hs1
  by_cases hs2 : szP a2 (szA a1 (szSt a0 1048576)) < 0
  · have HZ0 := Lib.hid hz0; clear hz0; have HZ1 := Lib.hid hz1; clear hz1
    go_enter Try.func14, Try.ntmps14
    go_wp2_with fail
    refine (c_szState _ _ _ _ a0 1048576 _ r0a.2 r0b.2 (by have := HZ0.out; have := HZ1.out; omega) (by have := HZ0.out; have := HZ1.out; omega)).mono ?_; rintro e ws0 ⟨rfl, hB0⟩
    have hB := bgo (w := w) bel hB0
    have p0 := Blk.next (g := w.heap.size) (t := 61) (cs := #[.slice A0 a0.values.length c0, .slice B0 a0.heap.length d0]) blks hB0
    have p1 := Blk.next (g := w.heap.size + 1) (t := 41) (cs := #[.slice A1 a1.facts.length c1, .slice B1 a1.atoms.length d1]) blks hB0
    have p3 := Blk.next (g := w.heap.size + 1 + 1) (t := 41) (cs := #[.slice A3 a3.facts.length c3, .slice B3 a3.atoms.length d3]) blks hB0
    (replace qp0 := p0.cell; replace rp0 := p0.frozen; replace lp0 := p0.lt)
    (replace qp1 := p1.cell; replace rp1 := p1.frozen; replace lp1 := p1.lt)
    (replace qp3 := p3.cell; replace rp3 := p3.frozen; replace lp3 := p3.lt)
    go_wp2_with fail
    refine (c_szAssertion _ _ _ _ a1 (szSt a0 1048576) _ r1a.2 r1b.2 (by have := HZ0.out; have := HZ1.out; omega) (by have := HZ0.out; have := HZ1.out; omega)).mono ?_; rintro e ws1 ⟨rfl, hB1⟩
    replace hB := bgo hB hB1
    replace p0 := p0.next hB1
    replace p1 := p1.next hB1
    replace p3 := p3.next hB1
    (replace qp0 := p0.cell; replace rp0 := p0.frozen; replace lp0 := p0.lt)
    (replace qp1 := p1.cell; replace rp1 := p1.frozen; replace lp1 := p1.lt)
    (replace qp3 := p3.cell; replace rp3 := p3.frozen; replace lp3 := p3.lt)
    go_wp2_with fail
    refine (c_szP _ _ a2 (szA a1 (szSt a0 1048576)) _ r2a bel (by have := HZ0.out; have := HZ1.out; omega) (by have := HZ0.out; have := HZ1.out; omega)).mono ?_; rintro e ws2 ⟨rfl, hB2⟩
    replace hB := bgo hB hB2
    replace p0 := p0.next hB2
    replace p1 := p1.next hB2
    replace p3 := p3.next hB2
    (replace qp0 := p0.cell; replace rp0 := p0.frozen; replace lp0 := p0.lt)
    (replace qp1 := p1.cell; replace rp1 := p1.frozen; replace lp1 := p1.lt)
    (replace qp3 := p3.cell; replace rp3 := p3.frozen; replace lp3 := p3.lt)
    go_wp2_with fail
    go_ret
    exact ⟨rfl, bel⟩
  have hz2 := szP_le hs2
  by_cases hs3 : szA a3 (szP a2 (szA a1 (szSt a0 1048576))) < 0
  · have HZ0 := Lib.hid hz0; clear hz0; have HZ1 := Lib.hid hz1; clear hz1; have HZ2 := Lib.hid hz2; clear hz2
    go_enter Try.func14, Try.ntmps14
    go_wp2_with fail
    refine (c_szState _ _ _ _ a0 1048576 _ r0a.2 r0b.2 (by have := HZ0.out; have := HZ1.out; have := HZ2.out; omega) (by have := HZ0.out; have := HZ1.out; have := HZ2.out; omega)).mono ?_; rintro e ws0 ⟨rfl, hB0⟩
    have hB := bgo (w := w) bel hB0
    have p0 := Blk.next (g := w.heap.size) (t := 61) (cs := #[.slice A0 a0.values.length c0, .slice B0 a0.heap.length d0]) blks hB0
    have p1 := Blk.next (g := w.heap.size + 1) (t := 41) (cs := #[.slice A1 a1.facts.length c1, .slice B1 a1.atoms.length d1]) blks hB0
    have p3 := Blk.next (g := w.heap.size + 1 + 1) (t := 41) (cs := #[.slice A3 a3.facts.length c3, .slice B3 a3.atoms.length d3]) blks hB0
    (replace qp0 := p0.cell; replace rp0 := p0.frozen; replace lp0 := p0.lt)
    (replace qp1 := p1.cell; replace rp1 := p1.frozen; replace lp1 := p1.lt)
    (replace qp3 := p3.cell; replace rp3 := p3.frozen; replace lp3 := p3.lt)
    go_wp2_with fail
    refine (c_szAssertion _ _ _ _ a1 (szSt a0 1048576) _ r1a.2 r1b.2 (by have := HZ0.out; have := HZ1.out; have := HZ2.out; omega) (by have := HZ0.out; have := HZ1.out; have := HZ2.out; omega)).mono ?_; rintro e ws1 ⟨rfl, hB1⟩
    replace hB := bgo hB hB1
    replace p0 := p0.next hB1
    replace p1 := p1.next hB1
    replace p3 := p3.next hB1
    (replace qp0 := p0.cell; replace rp0 := p0.frozen; replace lp0 := p0.lt)
    (replace qp1 := p1.cell; replace rp1 := p1.frozen; replace lp1 := p1.lt)
    (replace qp3 := p3.cell; replace rp3 := p3.frozen; replace lp3 := p3.lt)
    go_wp2_with fail
    refine (c_szP _ _ a2 (szA a1 (szSt a0 1048576)) _ r2a bel (by have := HZ0.out; have := HZ1.out; have := HZ2.out; omega) (by have := HZ0.out; have := HZ1.out; have := HZ2.out; omega)).mono ?_; rintro e ws2 ⟨rfl, hB2⟩
    replace hB := bgo hB hB2
    replace p0 := p0.next hB2
    replace p1 := p1.next hB2
    replace p3 := p3.next hB2
    (replace qp0 := p0.cell; replace rp0 := p0.frozen; replace lp0 := p0.lt)
    (replace qp1 := p1.cell; replace rp1 := p1.frozen; replace lp1 := p1.lt)
    (replace qp3 := p3.cell; replace rp3 := p3.frozen; replace lp3 := p3.lt)
    go_wp2_with fail
    refine (c_szAssertion _ _ _ _ a3 (szP a2 (szA a1 (szSt a0 1048576))) _ r3a.2 r3b.2 (by have := HZ0.out; have := HZ1.out; have := HZ2.out; omega) (by have := HZ0.out; have := HZ1.out; have := HZ2.out; omega)).mono ?_; rintro e ws3 ⟨rfl, hB3⟩
    replace hB := bgo hB hB3
    replace p0 := p0.next hB3
    replace p1 := p1.next hB3
    replace p3 := p3.next hB3
    (replace qp0 := p0.cell; replace rp0 := p0.frozen; replace lp0 := p0.lt)
    (replace qp1 := p1.cell; replace rp1 := p1.frozen; replace lp1 := p1.lt)
    (replace qp3 := p3.cell; replace rp3 := p3.frozen; replace lp3 := p3.lt)
    go_wp2_with fail
    go_ret
    exact ⟨rfl, bel⟩
  have hz3 := szA_le hs3
  have hmk2 := Cms.marks_le a2
  have hlen : a0.values.length ≤ 1048576 ∧ a0.heap.length ≤ 1048576 ∧ a1.facts.length ≤ 1048576 ∧ a1.atoms.length ≤ 1048576 ∧ a3.facts.length ≤ 1048576 ∧ a3.atoms.length ≤ 1048576 ∧ a2.len + a2.cost ≤ 1048576 ∧ a2.marks ≤ 6291456 := by omega
  have HZ0 : Hid (0 ≤ (szSt a0 1048576) ∧ (szSt a0 1048576) ≤ 1048576) := ⟨by omega, by omega⟩
  have HZ1 : Hid (0 ≤ (szA a1 (szSt a0 1048576)) ∧ (szA a1 (szSt a0 1048576)) ≤ 1048576) := ⟨by omega, by omega⟩
  have HZ2 : Hid (0 ≤ (szP a2 (szA a1 (szSt a0 1048576))) ∧ (szP a2 (szA a1 (szSt a0 1048576))) ≤ 1048576) := ⟨by omega, by omega⟩
  clear hz0
  clear hz1
  clear hz2
  clear hz3
  obtain ⟨hL0, hL1, hL2, hL3, hL4, hL5, hL6, hL7⟩ := hlen
  have hV0 : Hid (StateV w 0 w.heap.size (.agg #[.slice A0 a0.values.length c0, .slice B0 a0.heap.length d0]) a0) := ⟨_, _, _, _, rfl, r0a.toV (by omega), r0b.toV (by omega)⟩
  have hV1 : Hid (AsnV w 0 w.heap.size (.agg #[.slice A1 a1.facts.length c1, .slice B1 a1.atoms.length d1]) a1) := ⟨_, _, _, _, rfl, r1a.toV (by omega), r1b.toV (by omega)⟩
  have hV2 : Hid (CmsW w 0 w.heap.size A2 a2) := r2a.toW (by omega)
  clear hmk2
  have hV3 : Hid (AsnV w 0 w.heap.size (.agg #[.slice A3 a3.facts.length c3, .slice B3 a3.atoms.length d3]) a3) := ⟨_, _, _, _, rfl, r3a.toV (by omega), r3b.toV (by omega)⟩
  go_enter Try.func14, Try.ntmps14
  go_wp2_with fail
  refine (c_szState _ _ _ _ a0 1048576 _ r0a.2 r0b.2 (by have := HZ0.out; have := HZ1.out; have := HZ2.out; omega) (by have := HZ0.out; have := HZ1.out; have := HZ2.out; omega)).mono ?_; rintro e ws0 ⟨rfl, hB0⟩
  have hB := bgo (w := w) bel hB0
  have p0 := Blk.next (g := w.heap.size) (t := 61) (cs := #[.slice A0 a0.values.length c0, .slice B0 a0.heap.length d0]) blks hB0
  have p1 := Blk.next (g := w.heap.size + 1) (t := 41) (cs := #[.slice A1 a1.facts.length c1, .slice B1 a1.atoms.length d1]) blks hB0
  have p3 := Blk.next (g := w.heap.size + 1 + 1) (t := 41) (cs := #[.slice A3 a3.facts.length c3, .slice B3 a3.atoms.length d3]) blks hB0
  (replace qp0 := p0.cell; replace rp0 := p0.frozen; replace lp0 := p0.lt)
  (replace qp1 := p1.cell; replace rp1 := p1.frozen; replace lp1 := p1.lt)
  (replace qp3 := p3.cell; replace rp3 := p3.frozen; replace lp3 := p3.lt)
  go_wp2_with fail
  refine (c_szAssertion _ _ _ _ a1 (szSt a0 1048576) _ r1a.2 r1b.2 (by have := HZ0.out; have := HZ1.out; have := HZ2.out; omega) (by have := HZ0.out; have := HZ1.out; have := HZ2.out; omega)).mono ?_; rintro e ws1 ⟨rfl, hB1⟩
  replace hB := bgo hB hB1
  replace p0 := p0.next hB1
  replace p1 := p1.next hB1
  replace p3 := p3.next hB1
  (replace qp0 := p0.cell; replace rp0 := p0.frozen; replace lp0 := p0.lt)
  (replace qp1 := p1.cell; replace rp1 := p1.frozen; replace lp1 := p1.lt)
  (replace qp3 := p3.cell; replace rp3 := p3.frozen; replace lp3 := p3.lt)
  go_wp2_with fail
  refine (c_szP _ _ a2 (szA a1 (szSt a0 1048576)) _ r2a bel (by have := HZ0.out; have := HZ1.out; have := HZ2.out; omega) (by have := HZ0.out; have := HZ1.out; have := HZ2.out; omega)).mono ?_; rintro e ws2 ⟨rfl, hB2⟩
  replace hB := bgo hB hB2
  replace p0 := p0.next hB2
  replace p1 := p1.next hB2
  replace p3 := p3.next hB2
  (replace qp0 := p0.cell; replace rp0 := p0.frozen; replace lp0 := p0.lt)
  (replace qp1 := p1.cell; replace rp1 := p1.frozen; replace lp1 := p1.lt)
  (replace qp3 := p3.cell; replace rp3 := p3.frozen; replace lp3 := p3.lt)
  go_wp2_with fail
  refine (c_szAssertion _ _ _ _ a3 (szP a2 (szA a1 (szSt a0 1048576))) _ r3a.2 r3b.2 (by have := HZ0.out; have := HZ1.out; have := HZ2.out; omega) (by have := HZ0.out; have := HZ1.out; have := HZ2.out; omega)).mono ?_; rintro e ws3 ⟨rfl, hB3⟩
  replace hB := bgo hB hB3
  replace p0 := p0.next hB3
  replace p1 := p1.next hB3
  replace p3 := p3.next hB3
  (replace qp0 := p0.cell; replace rp0 := p0.frozen; replace lp0 := p0.lt)
  (replace qp1 := p1.cell; replace rp1 := p1.frozen; replace lp1 := p1.lt)
  (replace qp3 := p3.cell; replace rp3 := p3.frozen; replace lp3 := p3.lt)
  have zs := hB.size
  have zb0 := p0.lt
  have zb1 := p1.lt
  have zb3 := p3.lt
  clear hB0 hB1 hB2 hB3
  clear r0a r0b
  clear r1a r1b
  clear r2a
  clear r3a r3b
  go_wp2_with fail
  have tok0 : True := trivial
  have tok1 : True := trivial
  have tok2 : True := trivial
  have tok3 : True := trivial
  go_region_held3 (fun w' => (∀ i, w'.cell? ⟨w.heap.size, i, none⟩ = #[.slice A0 a0.values.length c0, .slice B0 a0.heap.length d0][i]?) ∧ (∀ i, w'.cell? ⟨w.heap.size + 1, i, none⟩ = #[.slice A1 a1.facts.length c1, .slice B1 a1.atoms.length d1][i]?) ∧ (∀ i, w'.cell? ⟨w.heap.size + 1 + 1, i, none⟩ = #[.slice A3 a3.facts.length c3, .slice B3 a3.atoms.length d3][i]?))
    (first | exact ⟨p0.cell, p1.cell, p3.cell⟩ | exact ⟨p0.drew.cell, p1.drew.cell, p3.drew.cell⟩)
    (first
      | (have _t := tok0; go_at_call 45; refine (to_ste _ a0 _ (hV0.out.below bel)).mono ?_; clear tok0; rintro e w1 ⟨ys0, rfl, os0, hBx⟩; have hS : Below ws3.heap.size ws3 w1 := bgo (Below.refl ws3.heap.size ws3).drew hBx; replace hB := bgo hB hS; replace p0 := p0.drew.next hBx; replace p1 := p1.drew.next hBx; replace p3 := p3.drew.next hBx)
      | (have _t := tok1; go_at_call 32; refine (to_asn _ a1 _ (hV1.out.below bel)).mono ?_; clear tok1; rintro e w2 ⟨ys1, rfl, os1, hBx⟩; replace hS := bgo hS hBx; replace hB := bgo hB hBx; replace p0 := p0.next hBx; replace p1 := p1.next hBx; replace p3 := p3.next hBx; replace os0 := os0.below hBx)
      | (have _t := tok2; go_at_call 17; refine (to_cmds _ _ a2 _ (hV2.out.below bel)).mono ?_; clear tok2; rintro e w3 ⟨ys2, rfl, os2, hBx⟩; obtain ⟨Ks2, es2, rfl⟩ := os2.form; replace hS := bgo hS hBx; replace hB := bgo hB hBx; replace p0 := p0.next hBx; replace p1 := p1.next hBx; replace p3 := p3.next hBx; replace os0 := os0.below hBx; replace os1 := os1.below hBx)
      | (have _t := tok3; go_at_call 32; refine (to_asn _ a3 _ (hV3.out.below bel)).mono ?_; clear tok3; rintro e w4 ⟨ys3, rfl, os3, hBx⟩; replace hS := bgo hS hBx; replace hB := bgo hB hBx; replace p0 := p0.next hBx; replace p1 := p1.next hBx; replace p3 := p3.next hBx; replace os0 := os0.below hBx; replace os1 := os1.below hBx; replace os2 := os2.below hBx)
      | (go_at_call 71; refine (c_spec_TryTriple _ _ _ a0 a1 a3 _ _ a2 _ os0.reads os1.reads os2.reads os3.reads).mono ?_; rintro e w5 ⟨rfl, hBx⟩; replace hS := bgo hS hBx; replace hB := bgo hB hBx; replace p0 := p0.next hBx; replace p1 := p1.next hBx; replace p3 := p3.next hBx))
  have zw5 := hS.size
  clear hS os0 os1 os2 os3
  (replace qp0 := p0.cell; replace rp0 := p0.frozen; replace lp0 := p0.lt)
  (replace qp1 := p1.cell; replace rp1 := p1.frozen; replace lp1 := p1.lt)
  (replace qp3 := p3.cell; replace rp3 := p3.frozen; replace lp3 := p3.lt)
  go_wp2_with fail
  refine (to_ste _ a0 _ (hV0.out.below bel)).mono ?_
  rintro e w6 ⟨y, rfl, X0, hBx⟩
  have hS := bgo (w := w5) bel hBx
  have zw6 := hBx.size
  replace hB := bgo hB hS
  replace p0 := p0.next hS
  replace p1 := p1.next hS
  replace p3 := p3.next hS
  clear hS hBx
  (replace qp0 := p0.cell; replace rp0 := p0.frozen; replace lp0 := p0.lt)
  (replace qp1 := p1.cell; replace rp1 := p1.frozen; replace lp1 := p1.lt)
  (replace qp3 := p3.cell; replace rp3 := p3.frozen; replace lp3 := p3.lt)
  obtain ⟨Ax0, cx0, Bx0, dx0, rfl⟩ := X0.form
  go_wp2_with fail
  refine (to_asn _ a1 _ (hV1.out.below bel)).mono ?_
  rintro e w7 ⟨y, rfl, X1, hBx⟩
  rw [World.size_alloc] at X1
  have hS := bgo (w := w6) bel hBx
  have zw7 := hBx.size
  simp only [World.size_alloc] at zw7
  replace hB := bgo hB hS
  replace p0 := p0.next hS
  replace p1 := p1.next hS
  replace p3 := p3.next hS
  replace X0 := X0.below hS
  have px0 := Blk.next (g := w6.heap.size) (t := 58) (cs := #[.slice Ax0 a0.values.length cx0, .slice Bx0 a0.heap.length dx0]) blks hBx
  clear hS hBx
  (replace qp0 := p0.cell; replace rp0 := p0.frozen; replace lp0 := p0.lt)
  (replace qp1 := p1.cell; replace rp1 := p1.frozen; replace lp1 := p1.lt)
  (replace qp3 := p3.cell; replace rp3 := p3.frozen; replace lp3 := p3.lt)
  (replace qpx0 := px0.cell; replace rpx0 := px0.frozen; replace lpx0 := px0.lt)
  obtain ⟨Ax1, cx1, Bx1, dx1, rfl⟩ := X1.form
  go_wp2_with fail
  refine (to_cmds _ _ a2 _ (hV2.out.below bel)).mono ?_
  rintro e w8 ⟨y, rfl, X2, hBx⟩
  rw [World.size_alloc] at X2
  have hS := bgo (w := w7) bel hBx
  have zw8 := hBx.size
  simp only [World.size_alloc] at zw8
  replace hB := bgo hB hS
  replace p0 := p0.next hS
  replace p1 := p1.next hS
  replace p3 := p3.next hS
  replace px0 := px0.next hS
  replace X0 := X0.below hS
  replace X1 := X1.below hS
  have px1 := Blk.next (g := w7.heap.size) (t := 48) (cs := #[.slice Ax1 a1.facts.length cx1, .slice Bx1 a1.atoms.length dx1]) blks hBx
  clear hS hBx
  (replace qp0 := p0.cell; replace rp0 := p0.frozen; replace lp0 := p0.lt)
  (replace qp1 := p1.cell; replace rp1 := p1.frozen; replace lp1 := p1.lt)
  (replace qp3 := p3.cell; replace rp3 := p3.frozen; replace lp3 := p3.lt)
  (replace qpx0 := px0.cell; replace rpx0 := px0.frozen; replace lpx0 := px0.lt)
  (replace qpx1 := px1.cell; replace rpx1 := px1.frozen; replace lpx1 := px1.lt)
  obtain ⟨Ax2, cx2, rfl⟩ := X2.form
  go_wp2_with fail
  refine (to_asn _ a3 _ (hV3.out.below bel)).mono ?_
  rintro e w9 ⟨y, rfl, X3, hBx⟩
  have hS := bgo (w := w8) bel hBx
  have zw9 := hBx.size
  replace hB := bgo hB hS
  replace p0 := p0.next hS
  replace p1 := p1.next hS
  replace p3 := p3.next hS
  replace px0 := px0.next hS
  replace px1 := px1.next hS
  replace X0 := X0.below hS
  replace X1 := X1.below hS
  replace X2 := X2.below hS
  clear hS hBx
  (replace qp0 := p0.cell; replace rp0 := p0.frozen; replace lp0 := p0.lt)
  (replace qp1 := p1.cell; replace rp1 := p1.frozen; replace lp1 := p1.lt)
  (replace qp3 := p3.cell; replace rp3 := p3.frozen; replace lp3 := p3.lt)
  (replace qpx0 := px0.cell; replace rpx0 := px0.frozen; replace lpx0 := px0.lt)
  (replace qpx1 := px1.cell; replace rpx1 := px1.frozen; replace lpx1 := px1.lt)
  obtain ⟨Ax3, cx3, Bx3, dx3, rfl⟩ := X3.form
  go_wp2_with fail
  refine (c_impl_TryTriple _ _ _ a0 a1 a3 _ _ a2 _ (X0.below bel).reads (X1.below bel).reads (X2.below bel).reads (X3.below bel).reads).mono ?_
  rintro e w10 ⟨rfl, hBx⟩
  have hS := bgo (w := w9) bel hBx
  have zw10 := hBx.size
  simp only [World.size_alloc] at zw10
  replace hB := bgo hB hS
  replace p0 := p0.next hS
  replace p1 := p1.next hS
  replace p3 := p3.next hS
  replace px0 := px0.next hS
  replace px1 := px1.next hS
  replace X0 := X0.below hS
  replace X1 := X1.below hS
  replace X2 := X2.below hS
  replace X3 := X3.below hS
  have px3 := Blk.next (g := w9.heap.size) (t := 48) (cs := #[.slice Ax3 a3.facts.length cx3, .slice Bx3 a3.atoms.length dx3]) blks hBx
  clear hS hBx
  (replace qp0 := p0.cell; replace rp0 := p0.frozen; replace lp0 := p0.lt)
  (replace qp1 := p1.cell; replace rp1 := p1.frozen; replace lp1 := p1.lt)
  (replace qp3 := p3.cell; replace rp3 := p3.frozen; replace lp3 := p3.lt)
  (replace qpx0 := px0.cell; replace rpx0 := px0.frozen; replace lpx0 := px0.lt)
  (replace qpx1 := px1.cell; replace rpx1 := px1.frozen; replace lpx1 := px1.lt)
  (replace qpx3 := px3.cell; replace rpx3 := px3.frozen; replace lpx3 := px3.lt)
  go_wp2_with fail
  go_region_held3 (fun w' => (∀ i, w'.cell? ⟨w.heap.size, i, none⟩ = #[.slice A0 a0.values.length c0, .slice B0 a0.heap.length d0][i]?) ∧ (∀ i, w'.cell? ⟨w6.heap.size, i, none⟩ = #[.slice Ax0 a0.values.length cx0, .slice Bx0 a0.heap.length dx0][i]?))
    (first | exact ⟨p0.cell, px0.cell⟩ | exact ⟨p0.drew.cell, px0.drew.cell⟩)
    (first
      | (go_at_call 45; refine (to_ste _ a0 _ (hV0.out.below bel)).mono ?_; rintro e w11 ⟨y, rfl, oz, hBx⟩; have hS : Below w10.heap.size w10 w11 := bgo (Below.refl w10.heap.size w10).drew hBx; replace hB := bgo hB hS; replace p0 := p0.drew.next hBx; replace p1 := p1.drew.next hBx; replace p3 := p3.drew.next hBx; replace px0 := px0.drew.next hBx; replace px1 := px1.drew.next hBx; replace px3 := px3.drew.next hBx)
      | (go_at_call 47; refine (t_ste _ _ a0 _ (X0.below hS).reads oz.reads).mono ?_; rintro e w12 ⟨rfl, hBx⟩; replace hS := bgo hS hBx; replace hB := bgo hB hBx; replace p0 := p0.next hBx; replace p1 := p1.next hBx; replace p3 := p3.next hBx; replace px0 := px0.next hBx; replace px1 := px1.next hBx; replace px3 := px3.next hBx))
  have zw12 := hS.size
  replace X0 := X0.below hS
  replace X1 := X1.below hS
  replace X2 := X2.below hS
  replace X3 := X3.below hS
  clear hS oz
  (replace qp0 := p0.cell; replace rp0 := p0.frozen; replace lp0 := p0.lt)
  (replace qp1 := p1.cell; replace rp1 := p1.frozen; replace lp1 := p1.lt)
  (replace qp3 := p3.cell; replace rp3 := p3.frozen; replace lp3 := p3.lt)
  (replace qpx0 := px0.cell; replace rpx0 := px0.frozen; replace lpx0 := px0.lt)
  (replace qpx1 := px1.cell; replace rpx1 := px1.frozen; replace lpx1 := px1.lt)
  (replace qpx3 := px3.cell; replace rpx3 := px3.frozen; replace lpx3 := px3.lt)
  go_wp2_with fail
  go_region_held3 (fun w' => (∀ i, w'.cell? ⟨w.heap.size + 1, i, none⟩ = #[.slice A1 a1.facts.length c1, .slice B1 a1.atoms.length d1][i]?) ∧ (∀ i, w'.cell? ⟨w7.heap.size, i, none⟩ = #[.slice Ax1 a1.facts.length cx1, .slice Bx1 a1.atoms.length dx1][i]?))
    (first | exact ⟨p1.cell, px1.cell⟩ | exact ⟨p1.drew.cell, px1.drew.cell⟩)
    (first
      | (go_at_call 32; refine (to_asn _ a1 _ (hV1.out.below bel)).mono ?_; rintro e w13 ⟨y, rfl, oz, hBx⟩; have hS : Below w12.heap.size w12 w13 := bgo (Below.refl w12.heap.size w12).drew hBx; replace hB := bgo hB hS; replace p0 := p0.drew.next hBx; replace p1 := p1.drew.next hBx; replace p3 := p3.drew.next hBx; replace px0 := px0.drew.next hBx; replace px1 := px1.drew.next hBx; replace px3 := px3.drew.next hBx)
      | (go_at_call 35; refine (t_asn _ _ a1 _ (X1.below hS).reads oz.reads).mono ?_; rintro e w14 ⟨rfl, hBx⟩; replace hS := bgo hS hBx; replace hB := bgo hB hBx; replace p0 := p0.next hBx; replace p1 := p1.next hBx; replace p3 := p3.next hBx; replace px0 := px0.next hBx; replace px1 := px1.next hBx; replace px3 := px3.next hBx))
  have zw14 := hS.size
  replace X0 := X0.below hS
  replace X1 := X1.below hS
  replace X2 := X2.below hS
  replace X3 := X3.below hS
  clear hS oz
  (replace qp0 := p0.cell; replace rp0 := p0.frozen; replace lp0 := p0.lt)
  (replace qp1 := p1.cell; replace rp1 := p1.frozen; replace lp1 := p1.lt)
  (replace qp3 := p3.cell; replace rp3 := p3.frozen; replace lp3 := p3.lt)
  (replace qpx0 := px0.cell; replace rpx0 := px0.frozen; replace lpx0 := px0.lt)
  (replace qpx1 := px1.cell; replace rpx1 := px1.frozen; replace lpx1 := px1.lt)
  (replace qpx3 := px3.cell; replace rpx3 := px3.frozen; replace lpx3 := px3.lt)
  go_wp2_with fail
  refine (to_cmds _ _ a2 _ (hV2.out.below bel)).mono ?_
  rintro e w15 ⟨y, rfl, oz, hBx⟩
  have hS := bgo (w := w14) bel hBx
  have zw15 := hBx.size
  replace hB := bgo hB hS
  replace p0 := p0.next hS
  replace p1 := p1.next hS
  replace p3 := p3.next hS
  replace px0 := px0.next hS
  replace px1 := px1.next hS
  replace px3 := px3.next hS
  replace X0 := X0.below hS
  replace X1 := X1.below hS
  replace X2 := X2.below hS
  replace X3 := X3.below hS
  clear hS hBx
  (replace qp0 := p0.cell; replace rp0 := p0.frozen; replace lp0 := p0.lt)
  (replace qp1 := p1.cell; replace rp1 := p1.frozen; replace lp1 := p1.lt)
  (replace qp3 := p3.cell; replace rp3 := p3.frozen; replace lp3 := p3.lt)
  (replace qpx0 := px0.cell; replace rpx0 := px0.frozen; replace lpx0 := px0.lt)
  (replace qpx1 := px1.cell; replace rpx1 := px1.frozen; replace lpx1 := px1.lt)
  (replace qpx3 := px3.cell; replace rpx3 := px3.frozen; replace lpx3 := px3.lt)
  obtain ⟨Az2, cz2, rfl⟩ := oz.form
  go_wp2_with fail
  refine (t_cmds _ _ _ _ a2 _ (X2.below bel).reads (oz.below bel).reads).mono ?_
  rintro e w16 ⟨rfl, hBx⟩
  have hS := bgo (w := w15) bel hBx
  have zw16 := hBx.size
  replace hB := bgo hB hS
  replace p0 := p0.next hS
  replace p1 := p1.next hS
  replace p3 := p3.next hS
  replace px0 := px0.next hS
  replace px1 := px1.next hS
  replace px3 := px3.next hS
  replace X0 := X0.below hS
  replace X1 := X1.below hS
  replace X2 := X2.below hS
  replace X3 := X3.below hS
  replace oz := oz.below hS
  clear hS hBx
  (replace qp0 := p0.cell; replace rp0 := p0.frozen; replace lp0 := p0.lt)
  (replace qp1 := p1.cell; replace rp1 := p1.frozen; replace lp1 := p1.lt)
  (replace qp3 := p3.cell; replace rp3 := p3.frozen; replace lp3 := p3.lt)
  (replace qpx0 := px0.cell; replace rpx0 := px0.frozen; replace lpx0 := px0.lt)
  (replace qpx1 := px1.cell; replace rpx1 := px1.frozen; replace lpx1 := px1.lt)
  (replace qpx3 := px3.cell; replace rpx3 := px3.frozen; replace lpx3 := px3.lt)
  clear oz
  go_wp2_with fail
  go_region_held3 (fun w' => (∀ i, w'.cell? ⟨w.heap.size + 1 + 1, i, none⟩ = #[.slice A3 a3.facts.length c3, .slice B3 a3.atoms.length d3][i]?) ∧ (∀ i, w'.cell? ⟨w9.heap.size, i, none⟩ = #[.slice Ax3 a3.facts.length cx3, .slice Bx3 a3.atoms.length dx3][i]?))
    (first | exact ⟨p3.cell, px3.cell⟩ | exact ⟨p3.drew.cell, px3.drew.cell⟩)
    (first
      | (go_at_call 32; refine (to_asn _ a3 _ (hV3.out.below bel)).mono ?_; rintro e w17 ⟨y, rfl, oz, hBx⟩; have hS : Below w16.heap.size w16 w17 := bgo (Below.refl w16.heap.size w16).drew hBx; replace hB := bgo hB hS; replace p0 := p0.drew.next hBx; replace p1 := p1.drew.next hBx; replace p3 := p3.drew.next hBx; replace px0 := px0.drew.next hBx; replace px1 := px1.drew.next hBx; replace px3 := px3.drew.next hBx)
      | (go_at_call 35; refine (t_asn _ _ a3 _ (X3.below hS).reads oz.reads).mono ?_; rintro e w18 ⟨rfl, hBx⟩; replace hS := bgo hS hBx; replace hB := bgo hB hBx; replace p0 := p0.next hBx; replace p1 := p1.next hBx; replace p3 := p3.next hBx; replace px0 := px0.next hBx; replace px1 := px1.next hBx; replace px3 := px3.next hBx))
  have zw18 := hS.size
  replace X0 := X0.below hS
  replace X1 := X1.below hS
  replace X2 := X2.below hS
  replace X3 := X3.below hS
  clear hS oz
  (replace qp0 := p0.cell; replace rp0 := p0.frozen; replace lp0 := p0.lt)
  (replace qp1 := p1.cell; replace rp1 := p1.frozen; replace lp1 := p1.lt)
  (replace qp3 := p3.cell; replace rp3 := p3.frozen; replace lp3 := p3.lt)
  (replace qpx0 := px0.cell; replace rpx0 := px0.frozen; replace lpx0 := px0.lt)
  (replace qpx1 := px1.cell; replace rpx1 := px1.frozen; replace lpx1 := px1.lt)
  (replace qpx3 := px3.cell; replace rpx3 := px3.frozen; replace lpx3 := px3.lt)
  go_wp2_with fail
  go_ret
  exact ⟨rfl, hB⟩
end Go.Proofs.Ytcgifoghggajgaa
