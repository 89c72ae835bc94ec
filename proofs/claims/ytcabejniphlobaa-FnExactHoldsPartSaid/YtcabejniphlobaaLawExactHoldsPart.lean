/- 'laws.FnExactHoldsPart' returns true for every state and assertion that can be read. -/
import Derived.Test.YtcabejniphlobaaArgS
import Derived.Test.YtcabejniphlobaaHolds
import Derived.Deep.RegionHeld3
namespace Go.Proofs.Ytcabejniphlobaa
open Go Go.RowKit Go.Proofs

--@ laws.FnExactHoldsPart
set_option maxHeartbeats 3200000 in
theorem c_FnExactHoldsPart (v0 : Value) (s : Ste) (v1 : Value) (a : Asn) (w : World) (h : StateR w v0 s) (h' : AsnR w v1 a) : Calls Try.prog 3 #[v0, v1] w fun e w' => e = .returned (.bool true) ∧ Below w.heap.size w w' := by
  obtain ⟨A1, c1, A2, c2, rfl, h1, h2⟩ := h
  obtain ⟨A3, c3, A4, c4, rfl, h3, h4⟩ := h'
  by_cases hs : szSt s 1048576 < 0
  · go_enter Try.func3, Try.ntmps3
    go_wp2_with (go_at_call 15; refine (c_szState _ _ _ _ s _ _ h1.2 h2.2 (by omega) (by omega)).mono ?_; rintro e w1 ⟨rfl, hB1⟩)
    go_ret
    exact ⟨rfl, bgo (w := w) (by repeat (first | (with_reducible exact Below.refl _ _) | (with_reducible assumption) | (with_reducible apply bbox) | ((with_reducible apply Below.setCell); (case hp => (first | exact Nat.le_refl _ | (simp; done) | (simp; omega) | (simp only; omega) | omega))) | (with_reducible apply Below.drew) | (with_reducible apply below_drewN))) hB1⟩
  have e1 := szSt_le hs
  have hz1 : 0 ≤ szSt s 1048576 ∧ szSt s 1048576 ≤ 1048576 := by omega
  by_cases hs2 : szA a (szSt s 1048576) < 0
  · clear e1
    go_enter Try.func3, Try.ntmps3
    go_wp2_with fail
    refine (c_szState _ _ _ _ s _ _ h1.2 h2.2 (by omega) (by omega)).mono ?_; rintro e w1 ⟨rfl, hB1⟩
    have hB := bgo (w := w) (by repeat (first | (with_reducible exact Below.refl _ _) | (with_reducible assumption) | (with_reducible apply bbox) | ((with_reducible apply Below.setCell); (case hp => (first | exact Nat.le_refl _ | (simp; done) | (simp; omega) | (simp only; omega) | omega))) | (with_reducible apply Below.drew) | (with_reducible apply below_drewN))) hB1
    have k1 := Blk.next (g := w.heap.size + 1) (by rw [← World.size_alloc]; exact Blk.new (w.alloc _) _ _) hB1
    have q1 := k1.cell
    go_wp2_with fail
    refine (c_szAssertion _ _ _ _ a _ _ h3.2 h4.2 (by omega) (by omega)).mono ?_; rintro e w2 ⟨rfl, hB2⟩
    go_wp2_with fail
    go_ret
    exact ⟨rfl, bgo hB hB2⟩
  have e2 := szA_le hs2
  have hV0 : Hid (StateV w 0 w.heap.size (.agg #[.slice A1 s.values.length c1, .slice A2 s.heap.length c2]) s) := ⟨_, _, _, _, rfl, h1.toV (by omega), h2.toV (by omega)⟩
  have hV1 : Hid (AsnV w 0 w.heap.size (.agg #[.slice A3 a.facts.length c3, .slice A4 a.atoms.length c4]) a) := ⟨_, _, _, _, rfl, h3.toV (by omega), h4.toV (by omega)⟩
  have hlen : s.values.length ≤ 1048576 ∧ s.heap.length ≤ 1048576 ∧ a.facts.length ≤ 1048576 ∧ a.atoms.length ≤ 1048576 := by omega
  clear e1 e2
  go_enter Try.func3, Try.ntmps3
  go_wp2_with fail
  refine (c_szState _ _ _ _ s _ _ h1.2 h2.2 (by omega) (by omega)).mono ?_; rintro e w1 ⟨rfl, hB1⟩
  have hB := bgo (w := w) (by repeat (first | (with_reducible exact Below.refl _ _) | (with_reducible assumption) | (with_reducible apply bbox) | ((with_reducible apply Below.setCell); (case hp => (first | exact Nat.le_refl _ | (simp; done) | (simp; omega) | (simp only; omega) | omega))) | (with_reducible apply Below.drew) | (with_reducible apply below_drewN))) hB1
  have k0 := Blk.next (g := w.heap.size) (by repeat (first | (with_reducible assumption) | (with_reducible exact Blk.new _ _ _) | ((with_reducible apply Blk.far); (case hp => (first | exact Nat.le_refl _ | (simp; done) | (simp; omega) | (simp only; omega) | omega))) | (with_reducible apply Blk.set_) | (with_reducible apply Blk.alloc))) hB1
  have k1 := Blk.next (g := w.heap.size + 1) (by rw [← World.size_alloc]; exact Blk.new (w.alloc _) _ _) hB1
  clear hB1
  have q0 := k0.cell
  have q1 := k1.cell
  go_wp2_with fail
  refine (c_szAssertion _ _ _ _ a _ _ h3.2 h4.2 (by omega) (by omega)).mono ?_; rintro e w2 ⟨rfl, hB2⟩
  clear q0 q1
  replace hB := bgo hB hB2
  replace k0 := k0.next hB2
  replace k1 := k1.next hB2
  have q0 := k0.cell
  have q1 := k1.cell
  clear hB2 h1 h2 h3 h4
  go_wp2_with fail
  clear q0 q1 hz1
  go_region_held3 (fun w' => (∀ i, w'.cell? ⟨w.heap.size, i, none⟩ = #[.slice A1 s.values.length c1, .slice A2 s.heap.length c2][i]?) ∧ (∀ i, w'.cell? ⟨w.heap.size + 1, i, none⟩ = #[.slice A3 a.facts.length c3, .slice A4 a.atoms.length c4][i]?))
    (first | exact ⟨k0.drew.cell, k1.drew.cell⟩ | exact ⟨m0.cell, m1.cell⟩ | exact ⟨n0.cell, n1.cell⟩ | exact ⟨p0.cell, p1.cell⟩)
    (first
      | (go_at_call 18; refine (c_toState _ s _ (hV0.out.below hB.drew)).mono ?_; rintro e w3 ⟨y0, rfl, o0, hB3⟩; have hBw3 := bgo hB.drew hB3; have m0 := k0.drew.next hB3; have m1 := k1.drew.next hB3)
      | (go_at_call 19; refine (c_toAssertion _ a _ (hV1.out.below hBw3)).mono ?_; rintro e w4 ⟨y1, rfl, o1, hB4⟩; have hBw4 := bgo hBw3 hB4; have n0 := m0.next hB4; have n1 := m1.next hB4; have o0b := o0.reads.below hB4)
      | (go_at_call 17; refine (c_spec_HoldsPart _ _ s a _ o0b o1.reads).mono ?_; rintro e w5 ⟨rw0, rfl, orw0, hB5⟩; have hBw5 := bgo hBw4 hB5; have p0 := n0.next hB5; have p1 := n1.next hB5))
  have lw5 := p1.lt
  have lw4 : w4.heap.size ≤ w5.heap.size := hB5.size
  have UW0 := orw0.und
  clear hB k0 k1 m0 m1 n0 n1 o0 o1 o0b hB3 hBw3 hB4 hBw4 hB5
  have q0 := p0.cell
  go_wp2_with fail
  refine (c_toState _ s _ (hV0.out.below hBw5)).mono ?_
  rintro e w6 ⟨x0, rfl, o0, hB6⟩
  have hBw6 := bgo hBw5 hB6
  have m0 := p0.next hB6
  have m1 := p1.next hB6
  have lw6 := hB6.size
  have orw1 := orw0.below hB6
  obtain ⟨f0, f1, rfl, of0, of1, hd⟩ := o0
  obtain ⟨F0, d0, rfl, -⟩ := of0.reads
  obtain ⟨F1, d1, rfl, -⟩ := of1.reads
  clear hBw5 q0 hB6
  have q1 := m1.cell
  have l1 := m1.lt
  have qn := (Blk.new w6 33 #[.slice none 0 0, .slice none 0 0]).cell
  have rn := (Blk.new w6 33 #[.slice none 0 0, .slice none 0 0]).frozen
  go_wp2_with fail
  refine (c_toAssertion _ a _ (hV1.out.below (bbox hBw6 _))).mono ?_
  rintro e w7 ⟨x1, rfl, o1, hB7⟩
  have hBw7 := bgo (bbox hBw6 _) hB7
  clear q1 qn rn l1
  replace p0 := (m0.alloc _).next hB7
  replace p1 := (m1.alloc _).next hB7
  have p2 := Blk.next (g := w6.heap.size) (by repeat (first | (with_reducible assumption) | (with_reducible exact Blk.new _ _ _) | ((with_reducible apply Blk.far); (case hp => (first | exact Nat.le_refl _ | (simp; done) | (simp; omega) | (simp only; omega) | omega))) | (with_reducible apply Blk.set_) | (with_reducible apply Blk.alloc))) hB7
  have orw2 := (orw1.below (by repeat (first | (with_reducible exact Below.refl _ _) | (with_reducible assumption) | (with_reducible apply bbox) | ((with_reducible apply Below.setCell); (case hp => (first | exact Nat.le_refl _ | (simp; done) | (simp; omega) | (simp only; omega) | omega))) | (with_reducible apply Below.drew) | (with_reducible apply below_drewN)))).below hB7
  have of2 := (of0.below (by repeat (first | (with_reducible exact Below.refl _ _) | (with_reducible assumption) | (with_reducible apply bbox) | ((with_reducible apply Below.setCell); (case hp => (first | exact Nat.le_refl _ | (simp; done) | (simp; omega) | (simp only; omega) | omega))) | (with_reducible apply Below.drew) | (with_reducible apply below_drewN)))).below hB7
  have of3 := (of1.below (by repeat (first | (with_reducible exact Below.refl _ _) | (with_reducible assumption) | (with_reducible apply bbox) | ((with_reducible apply Below.setCell); (case hp => (first | exact Nat.le_refl _ | (simp; done) | (simp; omega) | (simp only; omega) | omega))) | (with_reducible apply Below.drew) | (with_reducible apply below_drewN)))).below hB7
  have l6 := hB7.size
  obtain ⟨f2, f3, rfl, og0, og1⟩ := o1
  obtain ⟨F2, d2, rfl, -⟩ := og0.reads
  obtain ⟨F3, d3, rfl, -⟩ := og1.reads
  clear hB7 hBw6
  have q2 := p2.cell
  have l2 := p2.lt
  have qn := (Blk.new w7 38 #[.slice none 0 0, .slice none 0 0]).cell
  have rn := (Blk.new w7 38 #[.slice none 0 0, .slice none 0 0]).frozen
  go_wp2_with fail
  have X0 : StateO w7 w5.heap.size (.agg #[.slice F0 s.values.length d0, .slice F1 s.heap.length d1]) s := ⟨_, _, rfl, of2, of3, hd⟩
  have X1 : AsnO w7 (w6.heap.size + 1) (.agg #[.slice F2 a.facts.length d2, .slice F3 a.atoms.length d3]) a := ⟨_, _, rfl, by simpa using og0, by simpa using og1⟩
  have U0 := And.intro of2.und of3.und
  have U1 := And.intro og0.und og1.und
  have U0' : Und (.slice F0 s.values.length d0) w6.heap.size ∧ Und (.slice F1 s.heap.length d1) w6.heap.size := ⟨of0.und, of1.und⟩
  clear q2 l2 qn rn of0 of1 of2 of3 og0 og1 hd m0 m1 orw1
  have hBa := bbox hBw7 (.cells #[.slice F2 a.facts.length d2, .slice F3 a.atoms.length d3] 38)
  have hBs : Below w7.heap.size w7 (w7.alloc (.cells #[.slice F2 a.facts.length d2, .slice F3 a.atoms.length d3] 38)) := (by repeat (first | (with_reducible exact Below.refl _ _) | (with_reducible assumption) | (with_reducible apply bbox) | ((with_reducible apply Below.setCell); (case hp => (first | exact Nat.le_refl _ | (simp; done) | (simp; omega) | (simp only; omega) | omega))) | (with_reducible apply Below.drew) | (with_reducible apply below_drewN)))
  refine (c_impl_HoldsPart _ _ s a _ (X0.reads.below hBs) (X1.reads.below hBs)).mono ?_
  rintro e w8 ⟨g0, rfl, og0, hB8⟩
  have hB78 := bgo hBs hB8
  have p3 := Blk.next (g := w7.heap.size) (by repeat (first | (with_reducible assumption) | (with_reducible exact Blk.new _ _ _) | ((with_reducible apply Blk.far); (case hp => (first | exact Nat.le_refl _ | (simp; done) | (simp; omega) | (simp only; omega) | omega))) | (with_reducible apply Blk.set_) | (with_reducible apply Blk.alloc))) hB8
  have hBw8 := bgo hBw7 hB78
  replace p0 := p0.next hB78
  replace p1 := p1.next hB78
  replace p2 := p2.next hB78
  replace X0 := X0.below hB78
  replace X1 := X1.below hB78
  replace orw2 := orw2.below hB78
  obtain ⟨W0, dw, rfl, -⟩ := orw2.reads
  obtain ⟨G0, dg, rfl, -⟩ := og0.reads
  rw [World.size_alloc] at og0
  have hl8 := hB8.size
  simp only [World.size_alloc] at hl8 l6
  clear hBa hBs hB8 hB78 hBw7
  go_wp2_with fail
  refine (c_eqIntS G0 W0 dg dw _ _ _ og0.readsI.2 orw2.readsI.2).mono ?_
  rintro e w9 ⟨rfl, hB9⟩
  rw [show (decide ((holdsPart s a).getD [] = (holdsPart s a).getD [])) = true from by simp]
  replace p0 := p0.next hB9
  replace p1 := p1.next hB9
  replace p2 := p2.next hB9
  replace p3 := p3.next hB9
  replace X0 := X0.below hB9
  replace X1 := X1.below hB9
  replace orw2 := orw2.below hB9
  replace og0 := og0.below hB9
  have hBw9 := bgo hBw8 hB9
  have hl9 := hB9.size
  clear hB9 hBw8
  obtain ⟨bO, hbO⟩ : ∃ b, (holdsPart s a).isSome = b := ⟨_, rfl⟩
  have HbO := Lib.hid hbO
  rw [hbO]
  clear hbO
  clear orw0
  go_wp2_with fail
  go_region_held3 (fun w' => (∀ i, w'.cell? ⟨w.heap.size, i, none⟩ = #[.slice A1 s.values.length c1, .slice A2 s.heap.length c2][i]?) ∧ (∀ i, w'.cell? ⟨w.heap.size + 1, i, none⟩ = #[.slice A3 a.facts.length c3, .slice A4 a.atoms.length c4][i]?) ∧ (∀ i, w'.cell? ⟨w6.heap.size, i, none⟩ = #[.slice F0 s.values.length d0, .slice F1 s.heap.length d1][i]?) ∧ (∀ i, w'.cell? ⟨w7.heap.size, i, none⟩ = #[.slice F2 a.facts.length d2, .slice F3 a.atoms.length d3][i]?))
    (first | exact ⟨p0.drew.cell, p1.drew.cell, p2.drew.cell, p3.drew.cell⟩ | exact ⟨m0.cell, m1.cell, m2.cell, m3.cell⟩ | exact ⟨n0.cell, n1.cell, n2.cell, n3.cell⟩ | exact ⟨t0.cell, t1.cell, t2.cell, t3.cell⟩)
    (first
      | (go_at_call 18; refine (c_toState _ s _ (hV0.out.below hBw9.drew)).mono ?_; rintro e wa ⟨z0, rfl, oz, hBa⟩; have hBwa := bgo hBw9.drew hBa; have m0 := p0.drew.next hBa; have m1 := p1.drew.next hBa; have m2 := p2.drew.next hBa; have m3 := p3.drew.next hBa)
      | (go_at_call 22; refine (c_eqState _ _ s s _ (X0.reads.below (bgo (Below.refl w9.heap.size w9).drew hBa)) oz.reads).mono ?_; rintro e wb ⟨rfl, hBb⟩; have hBwb := bgo hBwa hBb; have n0 := m0.next hBb; have n1 := m1.next hBb; have n2 := m2.next hBb; have n3 := m3.next hBb))
  have hBab : Below w9.heap.size w9 wb := bgo (bgo (Below.refl w9.heap.size w9).drew hBa) hBb
  replace X0 := X0.below hBab
  replace X1 := X1.below hBab
  replace orw2 := orw2.below hBab
  replace og0 := og0.below hBab
  have hl10 := hBab.size
  clear p0 p1 p2 p3 m0 m1 m2 m3 hBw9 hBa hBb hBab hBwa oz
  have p0 := n0
  have p1 := n1
  have p2 := n2
  have p3 := n3
  clear n0 n1 n2 n3
  go_wp2_with fail
  go_region_held3 (fun w' => (∀ i, w'.cell? ⟨w.heap.size, i, none⟩ = #[.slice A1 s.values.length c1, .slice A2 s.heap.length c2][i]?) ∧ (∀ i, w'.cell? ⟨w.heap.size + 1, i, none⟩ = #[.slice A3 a.facts.length c3, .slice A4 a.atoms.length c4][i]?) ∧ (∀ i, w'.cell? ⟨w6.heap.size, i, none⟩ = #[.slice F0 s.values.length d0, .slice F1 s.heap.length d1][i]?) ∧ (∀ i, w'.cell? ⟨w7.heap.size, i, none⟩ = #[.slice F2 a.facts.length d2, .slice F3 a.atoms.length d3][i]?))
    (first | exact ⟨p0.drew.cell, p1.drew.cell, p2.drew.cell, p3.drew.cell⟩ | exact ⟨m0.cell, m1.cell, m2.cell, m3.cell⟩ | exact ⟨n0.cell, n1.cell, n2.cell, n3.cell⟩ | exact ⟨t0.cell, t1.cell, t2.cell, t3.cell⟩)
    (first
      | (go_at_call 19; refine (c_toAssertion _ a _ (hV1.out.below hBwb.drew)).mono ?_; rintro e wc ⟨z1, rfl, oz, hBa⟩; have hBwc := bgo hBwb.drew hBa; have m0 := p0.drew.next hBa; have m1 := p1.drew.next hBa; have m2 := p2.drew.next hBa; have m3 := p3.drew.next hBa)
      | (go_at_call 23; refine (c_eqAssertion _ _ a a _ (X1.reads.below (bgo (Below.refl wb.heap.size wb).drew hBa)) oz.reads).mono ?_; rintro e wd ⟨rfl, hBb⟩; have hBwd := bgo hBwc hBb; have n0 := m0.next hBb; have n1 := m1.next hBb; have n2 := m2.next hBb; have n3 := m3.next hBb))
  have hBab : Below wb.heap.size wb wd := bgo (bgo (Below.refl wb.heap.size wb).drew hBa) hBb
  replace X0 := X0.below hBab
  replace X1 := X1.below hBab
  replace orw2 := orw2.below hBab
  replace og0 := og0.below hBab
  have hl11 := hBab.size
  clear p0 p1 p2 p3 m0 m1 m2 m3 hBwb hBa hBb hBab hBwc oz
  have p0 := n0
  have p1 := n1
  have p2 := n2
  have p3 := n3
  clear n0 n1 n2 n3
  have q2 := p2.cell
  have q3 := p3.cell
  go_wp2_with fail
  refine (c_markState _ s 1 w5.heap.size w6.heap.size _ X0 (fun fv av e => by injection e with e; injection e with e; injection e with e1 e2; injection e2 with e2; subst e1; subst e2; exact U0') (by omega) (by omega)).mono ?_
  rintro e we ⟨rfl, -, hM⟩
  clear q2 q3 X0 U0 U0'
  have hls := hBwd.size
  have hBwe := hBwd.trans (hM.below (lo := w.heap.size) (fun k hk => by omega) hls)
  have m0 := hM.blk p0 (by omega)
  have m1 := hM.blk p1 (by omega)
  have m2 := hM.blk p2 (by omega)
  have m3 := hM.blk p3 (by omega)
  replace X1 := X1.abv (hM.abv (hi := w6.heap.size) (fun k hk => hk.2)) (by omega)
  replace orw2 := orw2.mk hM (fun g hg hk => by have := UW0 g hg; omega)
  replace og0 := og0.abv (hM.abv (hi := w6.heap.size) (fun k hk => hk.2)) (by omega)
  have hlA := hM.size
  clear p0 p1 p2 p3 hM hBwd hls
  have q3 := m3.cell
  go_wp2_with fail
  refine (c_markAssertion _ a _ (w6.heap.size + 1) w7.heap.size _ X1 (fun fv av e => by injection e with e; injection e with e; injection e with e1 e2; injection e2 with e2; subst e1; subst e2; exact U1) (by omega) (by omega)).mono ?_
  rintro e wf ⟨rfl, -, hM⟩
  clear q3 X1 U1
  have hls := hBwe.size
  have hBwf := hBwe.trans (hM.below (lo := w.heap.size) (fun k hk => by omega) hls)
  have p0 := hM.blk m0 (by omega)
  have p1 := hM.blk m1 (by omega)
  have p2 := hM.blk m2 (by omega)
  have p3 := hM.blk m3 (by omega)
  replace orw2 := orw2.mk hM (fun g hg hk => by have := UW0 g hg; omega)
  replace og0 := og0.abv (hM.abv (hi := w7.heap.size) (fun k hk => hk.2)) (by omega)
  have hlB := hM.size
  clear m0 m1 m2 m3 hM hBwe hls
  go_wp2_with fail
  refine (c_eqIntS G0 W0 dg dw _ _ _ og0.readsI.2 orw2.readsI.2).mono ?_
  rintro e wg ⟨rfl, hBa⟩
  rw [show (decide ((holdsPart s a).getD [] = (holdsPart s a).getD [])) = true from by simp]
  have hBwg := bgo hBwf hBa
  have m0 := p0.next hBa
  have m1 := p1.next hBa
  replace orw2 := orw2.below hBa
  replace og0 := og0.below hBa
  have hlC := hBa.size
  clear p0 p1 p2 p3 hBa hBwf
  go_wp2_with fail
  refine (c_markIntS _ _ 1 _ _ og0 (by omega) (by omega)).mono ?_
  rintro e wh ⟨rfl, og1, hM⟩
  have hls := hBwg.size
  have hBwh := hBwg.trans (hM.below (lo := w.heap.size) (fun k hk => by have := (og0.1.lt k hk).1; omega) hls)
  have p0 := hM.blk m0 (fun hk => by have := (og0.1.lt _ hk).1; omega)
  have p1 := hM.blk m1 (fun hk => by have := (og0.1.lt _ hk).1; omega)
  replace orw2 := orw2.mk hM (fun g hg hk => by have := UW0 g hg; have := (og0.1.lt _ hk).1; omega)
  have hLn : ((holdsPart s a).getD []).length ≤ 1049600 := og0.2
  clear m0 m1 hM hBwg og0
  have og2 : IntsV wh (w7.heap.size + 1) wh.heap.size G0 (iota 1 ((holdsPart s a).getD []).length) := by
    obtain ⟨A', c', e, h'⟩ := og1.reads
    injection e with e1 e2 e3
    subst e1
    exact h'
  go_wp2_with fail
  refine (c_heldIntS G0 _ dg 1 _ og2 (by omega) (by omega)).mono ?_
  rintro e w' ⟨rfl, rfl⟩
  go_wp2_with fail
  go_region_held3 (fun w' => (∀ i, w'.cell? ⟨w.heap.size, i, none⟩ = #[.slice A1 s.values.length c1, .slice A2 s.heap.length c2][i]?) ∧ (∀ i, w'.cell? ⟨w.heap.size + 1, i, none⟩ = #[.slice A3 a.facts.length c3, .slice A4 a.atoms.length c4][i]?))
    (first | exact ⟨p0.drew.cell, p1.drew.cell⟩ | exact ⟨m0.cell, m1.cell⟩ | exact ⟨n0.cell, n1.cell⟩ | exact ⟨t0.cell, t1.cell⟩)
    (first
      | (go_at_call 18; refine (c_toState _ s _ (hV0.out.below hBwh.drew)).mono ?_; rintro e wi ⟨y2, rfl, o0, hB3⟩; have hBwi := bgo hBwh.drew hB3; have m0 := p0.drew.next hB3; have m1 := p1.drew.next hB3)
      | (go_at_call 19; refine (c_toAssertion _ a _ (hV1.out.below hBwi)).mono ?_; rintro e wj ⟨y3, rfl, o1, hB4⟩; have hBwj := bgo hBwi hB4; have n0 := m0.next hB4; have n1 := m1.next hB4; have o0b := o0.reads.below hB4)
      | (go_at_call 20; refine (c_impl_HoldsPart _ _ s a _ o0b o1.reads).mono ?_; rintro e wk ⟨h0, rfl, oh0, hB5⟩; have hBwk := bgo hBwj hB5; have t0 := n0.next hB5; have t1 := n1.next hB5))
  have hBx : Below wh.heap.size wh wk := bgo (bgo (bgo (Below.refl wh.heap.size wh).drew hB3) hB4) hB5
  replace orw2 := orw2.below hBx
  replace og2 := og2.below hBx
  obtain ⟨H0, dh, rfl, -⟩ := oh0.reads
  clear p0 p1 m0 m1 n0 n1 o0 o1 o0b hB3 hBwi hB4 hBwj hB5 hBx hBwh og1
  rw [HbO.out]
  go_wp2_with fail
  refine (c_eqIntS H0 W0 dh dw _ _ _ oh0.readsI.2 orw2.readsI.2).mono ?_
  rintro e wl ⟨rfl, hBa⟩
  rw [show (decide ((holdsPart s a).getD [] = (holdsPart s a).getD [])) = true from by simp]
  have hBwl := bgo hBwk hBa
  replace og2 := og2.below hBa
  clear hBa hBwk t0 t1
  go_wp2_with fail
  refine (c_heldIntS G0 _ dg 1 _ og2 (by omega) (by omega)).mono ?_
  rintro e w' ⟨rfl, rfl⟩
  go_wp2_with fail
  go_ret
  exact ⟨rfl, hBwl⟩
end Go.Proofs.Ytcabejniphlobaa
