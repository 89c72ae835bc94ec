/- 'laws.FnExactFrameContract' returns true for all arguments that can be read. -/
import Derived.Test.YtmjgcdolnkdfoaaCtr
import Derived.Test.YtmjgcdolnkdfoaaFrameI
import Derived.Test.YtmjgcdolnkdfoaaFrameS
import Derived.Deep.RegionHeld3
import Derived.Deep.DrawnRows
set_option linter.unusedSimpArgs false
set_option linter.unusedVariables false
namespace Go.Proofs.Ytmjgcdolnkdfoaa
open Go Go.RowKit Go.Proofs
attribute [local go_sem ↓] Go.wp_at_zero Go.wp_at_succ

theorem CtrI.lower {w : World} {lo base' hi : Nat} {v : Value} {k : Ctr} (h : CtrI w lo hi v k) (hb : base' ≤ lo) : CtrI w base' hi v k := by
  obtain ⟨a1, a2, a3, a4, iv, l1, h1, l2, h2, e, p1, p2, p3, q⟩ := h
  exact ⟨a1, a2, a3, a4, iv, l1, h1, l2, h2, e, p1, p2, ⟨p3.1.lower hb, p3.2⟩, by omega⟩

theorem CtrI.setT {w : World} {lo hi : Nat} {v : Value} {k : Ctr} (h : CtrI w lo hi v k) {g : Nat} {t : TypeId} {cs : Array Value} (hk : Blk w g t cs) (h1 : t ≠ tF) (h2 : t ≠ tA) (h3 : t ≠ tI) (i : Nat) (u : Value) : CtrI (w.setCell ⟨g, i, none⟩ u) lo hi v k := by
  obtain ⟨a1, a2, a3, a4, iv, l1, hh1, l2, hh2, e, p1, p2, p3, q⟩ := h
  exact ⟨a1, a2, a3, a4, iv, l1, hh1, l2, hh2, e, p1.setT hk h1 h2 i u, p2.setT hk h1 h2 i u, p3.setT hk h3 i u, by rw [World.size_setCell]; exact q⟩

--@ laws.FnExactFrameContract
set_option maxRecDepth 100000 in
set_option maxHeartbeats 25600000 in
theorem c_FnExactFrameContract (v0 : Value) (a0 : Ctr) (v1 : Value) (a1 : Asn) (w : World) (h0 : CtrR w v0 a0) (h1 : AsnR w v1 a1) : Calls Try.prog 7 #[v0, v1] w fun e w' => e = .returned (.bool true) ∧ Below w.heap.size w w' := by
  obtain ⟨A0, c0, B0, d0, E0, e0, F0, fz0, G0, g0, rfl, r0a, r0b, r0c, r0d, r0e⟩ := h0
  obtain ⟨A1, c1, B1, d1, rfl, r1a, r1b⟩ := h1
  by_cases hs0 : szC a0 1048576 < 0
  · go_enter Try.func7, Try.ntmps7
    go_wp2_with fail
    refine (c_szContract _ a0 1048576 _ ⟨A0, c0, B0, d0, E0, e0, F0, fz0, G0, g0, rfl, r0a, r0b, r0c, r0d, r0e⟩ (by omega) (by omega)).mono ?_; rintro e ws0 ⟨rfl, hB0⟩
    have hB := bgo (w := w) bel hB0
    have p0 := Blk.next (g := w.heap.size) (t := 58) (cs := #[.slice A0 a0.pre.facts.length c0, .slice B0 a0.pre.atoms.length d0, .slice E0 a0.post.facts.length e0, .slice F0 a0.post.atoms.length fz0, .slice G0 a0.changes.length g0]) blks hB0
    have p1 := Blk.next (g := w.heap.size + 1) (t := 56) (cs := #[.slice A1 a1.facts.length c1, .slice B1 a1.atoms.length d1]) blks hB0
    (replace qp0 := p0.cell; replace rp0 := p0.frozen; replace lp0 := p0.lt)
    (replace qp1 := p1.cell; replace rp1 := p1.frozen; replace lp1 := p1.lt)
    go_wp2_with fail
    go_ret
    exact ⟨rfl, bel⟩
  have hz0 := szC_le hs0
  by_cases hs1 : szA a1 (szC a0 1048576) < 0
  · have HZ0 := Lib.hid hz0; clear hz0
    go_enter Try.func7, Try.ntmps7
    go_wp2_with fail
    refine (c_szContract _ a0 1048576 _ ⟨A0, c0, B0, d0, E0, e0, F0, fz0, G0, g0, rfl, r0a, r0b, r0c, r0d, r0e⟩ (by have := HZ0.out; omega) (by have := HZ0.out; omega)).mono ?_; rintro e ws0 ⟨rfl, hB0⟩
    have hB := bgo (w := w) bel hB0
    have p0 := Blk.next (g := w.heap.size) (t := 58) (cs := #[.slice A0 a0.pre.facts.length c0, .slice B0 a0.pre.atoms.length d0, .slice E0 a0.post.facts.length e0, .slice F0 a0.post.atoms.length fz0, .slice G0 a0.changes.length g0]) blks hB0
    have p1 := Blk.next (g := w.heap.size + 1) (t := 56) (cs := #[.slice A1 a1.facts.length c1, .slice B1 a1.atoms.length d1]) blks hB0
    (replace qp0 := p0.cell; replace rp0 := p0.frozen; replace lp0 := p0.lt)
    (replace qp1 := p1.cell; replace rp1 := p1.frozen; replace lp1 := p1.lt)
    go_wp2_with fail
    refine (c_szAssertion _ _ _ _ a1 (szC a0 1048576) _ r1a.2 r1b.2 (by have := HZ0.out; omega) (by have := HZ0.out; omega)).mono ?_; rintro e ws1 ⟨rfl, hB1⟩
    replace hB := bgo hB hB1
    replace p0 := p0.next hB1
    replace p1 := p1.next hB1
    (replace qp0 := p0.cell; replace rp0 := p0.frozen; replace lp0 := p0.lt)
    (replace qp1 := p1.cell; replace rp1 := p1.frozen; replace lp1 := p1.lt)
    go_wp2_with fail
    go_ret
    exact ⟨rfl, bel⟩
  have hz1 := szA_le hs1
  have hlen : a0.pre.facts.length ≤ 1048576 ∧ a0.pre.atoms.length ≤ 1048576 ∧ a0.post.facts.length ≤ 1048576 ∧ a0.post.atoms.length ≤ 1048576 ∧ a0.changes.length ≤ 1048576 ∧ a1.facts.length ≤ 1048576 ∧ a1.atoms.length ≤ 1048576 := by omega
  have HZ0 : Hid (0 ≤ (szC a0 1048576) ∧ (szC a0 1048576) ≤ 1048576) := ⟨by omega, by omega⟩
  clear hz0
  clear hz1
  obtain ⟨hL0, hL1, hL2, hL3, hL4, hL5, hL6⟩ := hlen
  have hV0 : Hid (CtrV w 0 w.heap.size (.agg #[.slice A0 a0.pre.facts.length c0, .slice B0 a0.pre.atoms.length d0, .slice E0 a0.post.facts.length e0, .slice F0 a0.post.atoms.length fz0, .slice G0 a0.changes.length g0]) a0) := ⟨_, _, _, _, _, _, rfl, ⟨_, _, _, _, rfl, r0a.toV (by omega), r0b.toV (by omega)⟩, ⟨_, _, _, _, rfl, r0c.toV (by omega), r0d.toV (by omega)⟩, r0e.toV (by omega)⟩
  have hV1 : Hid (AsnV w 0 w.heap.size (.agg #[.slice A1 a1.facts.length c1, .slice B1 a1.atoms.length d1]) a1) := ⟨_, _, _, _, rfl, r1a.toV (by omega), r1b.toV (by omega)⟩
  go_enter Try.func7, Try.ntmps7
  go_wp2_with fail
  refine (c_szContract _ a0 1048576 _ ⟨A0, c0, B0, d0, E0, e0, F0, fz0, G0, g0, rfl, r0a, r0b, r0c, r0d, r0e⟩ (by have := HZ0.out; omega) (by have := HZ0.out; omega)).mono ?_; rintro e ws0 ⟨rfl, hB0⟩
  have hB := bgo (w := w) bel hB0
  have p0 := Blk.next (g := w.heap.size) (t := 58) (cs := #[.slice A0 a0.pre.facts.length c0, .slice B0 a0.pre.atoms.length d0, .slice E0 a0.post.facts.length e0, .slice F0 a0.post.atoms.length fz0, .slice G0 a0.changes.length g0]) blks hB0
  have p1 := Blk.next (g := w.heap.size + 1) (t := 56) (cs := #[.slice A1 a1.facts.length c1, .slice B1 a1.atoms.length d1]) blks hB0
  (replace qp0 := p0.cell; replace rp0 := p0.frozen; replace lp0 := p0.lt)
  (replace qp1 := p1.cell; replace rp1 := p1.frozen; replace lp1 := p1.lt)
  go_wp2_with fail
  refine (c_szAssertion _ _ _ _ a1 (szC a0 1048576) _ r1a.2 r1b.2 (by have := HZ0.out; omega) (by have := HZ0.out; omega)).mono ?_; rintro e ws1 ⟨rfl, hB1⟩
  replace hB := bgo hB hB1
  replace p0 := p0.next hB1
  replace p1 := p1.next hB1
  (replace qp0 := p0.cell; replace rp0 := p0.frozen; replace lp0 := p0.lt)
  (replace qp1 := p1.cell; replace rp1 := p1.frozen; replace lp1 := p1.lt)
  have zs := hB.size
  have zb0 := p0.lt
  have zb1 := p1.lt
  clear hB0 hB1
  clear r0a r0b r0c r0d r0e
  clear r1a r1b
  obtain ⟨D, hD⟩ : ∃ D, ((frameC a0 a1).getD ctr0) = D := ⟨_, rfl⟩
  have HD := Lib.hid hD
  clear hD
  obtain ⟨sb, hsb⟩ : ∃ b, (frameC a0 a1).isSome = b := ⟨_, rfl⟩
  have HSB := Lib.hid hsb
  clear hsb
  go_wp2_with fail
  apply Merge
  rotate_left
  intro key
  refine wp_region_noPanic ?_
  refine wp_region_held_drew (S := (fun w' => (∀ i, w'.cell? ⟨w.heap.size, i, none⟩ = #[.slice A0 a0.pre.facts.length c0, .slice B0 a0.pre.atoms.length d0, .slice E0 a0.post.facts.length e0, .slice F0 a0.post.atoms.length fz0, .slice G0 a0.changes.length g0][i]?) ∧ (∀ i, w'.cell? ⟨w.heap.size + 1, i, none⟩ = #[.slice A1 a1.facts.length c1, .slice B1 a1.atoms.length d1][i]?))) (by kernel_rfl) (⟨Blk.cell blks, Blk.cell blks⟩) (fun hHeld => ?_)
  refine wpAnyH_take (i := 0) (v := ?_) rfl (by kernel_rfl) (by kernel_rfl) (by kernel_rfl) (fun _ _ _ h => h) (Or.inl ⟨by rfl, fun w hSw => ?_⟩) hHeld ?_
  rotate_left
  · ((try dsimp only at hSw); go_split_ands; go_simp; (try with_reducible rfl))
  try simp only [Act.put, List.getElem_toArray, List.getElem_cons_zero, List.getElem_cons_succ, List.setIfInBounds_toArray, List.set_cons_zero, List.set_cons_succ]
  refine wpAnyH_take (i := 2) (v := ?_) rfl (by kernel_rfl) (by kernel_rfl) (by kernel_rfl) (fun _ _ _ h => h) (Or.inl ⟨by rfl, fun w hSw => ?_⟩) hHeld ?_
  rotate_left
  · ((try dsimp only at hSw); go_split_ands; go_simp; (try with_reducible rfl))
  try simp only [Act.put, List.getElem_toArray, List.getElem_cons_zero, List.getElem_cons_succ, List.setIfInBounds_toArray, List.set_cons_zero, List.set_cons_succ]
  refine wpAnyH_ready (rs := [1, 8]) (by kernel_rfl) (by simp) ?_
  refine AllReadyH.cons rfl (fun K hK => ?_) (AllReadyH.cons rfl (fun K hK => ?_) AllReadyH.nil)
  · skip
    try simp only [List.getElem_toArray, List.getElem_cons_zero, List.getElem_cons_succ]
    (go_simp; refine (to_ctr _ a0 _ (hV0.out.below bel)).mono ?_; rintro e us0 ⟨ys0, rfl, os0, hBx⟩; have zus0 : ws1.heap.size ≤ us0.heap.size := (by have := hBx.size; simpa using this); have hS := bgo (w := ws1) bel hBx; replace hB := bgo hB hS; replace p0 := p0.next hS; replace p1 := p1.next hS; clear hS hBx)
    refine hK.out _ _ (⟨Blk.cell blks, Blk.cell blks⟩) (fun hHeldN => ?_)
    clear hHeld hK K
    have hHeld := hHeldN
    clear hHeldN
    try simp only [Act.put, List.getElem_toArray, List.getElem_cons_zero, List.getElem_cons_succ, List.setIfInBounds_toArray, List.set_cons_zero, List.set_cons_succ]
    refine wpAnyH_ready (rs := [3, 8]) (by kernel_rfl) (by simp) ?_
    refine AllReadyH.cons rfl (fun K hK => ?_) (AllReadyH.cons rfl (fun K hK => ?_) AllReadyH.nil)
    · skip
      try simp only [List.getElem_toArray, List.getElem_cons_zero, List.getElem_cons_succ]
      (go_simp; refine (to_asn _ a1 _ (hV1.out.below bel)).mono ?_; rintro e us1 ⟨ys1, rfl, os1, hBx⟩; have zus1 : us0.heap.size ≤ us1.heap.size := (by have := hBx.size; simpa using this); have hS := bgo (w := us0) bel hBx; replace hB := bgo hB hS; replace p0 := p0.next hS; replace p1 := p1.next hS; replace os0 := os0.below hS; clear hS hBx)
      refine hK.out _ _ (⟨Blk.cell blks, Blk.cell blks⟩) (fun hHeldN => ?_)
      clear hHeld hK K
      have hHeld := hHeldN
      clear hHeldN
      try simp only [Act.put, List.getElem_toArray, List.getElem_cons_zero, List.getElem_cons_succ, List.setIfInBounds_toArray, List.set_cons_zero, List.set_cons_succ]
      refine wpAnyH_ready (rs := [4, 8]) (by kernel_rfl) (by simp) ?_
      refine AllReadyH.cons rfl (fun K hK => ?_) (AllReadyH.cons rfl (fun K hK => ?_) AllReadyH.nil)
      · skip
        try simp only [List.getElem_toArray, List.getElem_cons_zero, List.getElem_cons_succ]
        (go_simp; refine (c_spec_FrameContract _ _ a0 a1 _ (os0.below bel).reads (os1.below bel).reads).mono ?_; rintro e us2 ⟨rz, rfl, oX, hBx⟩; have zus2 : us1.heap.size ≤ us2.heap.size := (by have := hBx.size; simpa using this); have hS := bgo (w := us1) bel hBx; replace hB := bgo hB hS; replace p0 := p0.next hS; replace p1 := p1.next hS; replace os0 := os0.below hS; replace os1 := os1.below hS; have oz := oX.lower (base' := us1.heap.size) (by (try simp) <;> omega); clear oX; clear hS hBx); rw [HD.out] at oz; rw [HSB.out]; replace oz := oz.I; obtain ⟨Aw, cw, Bw, dw, Ew, ew, Fw, fw, Gw, gw, rfl⟩ := oz.form
        refine hK.out _ _ (⟨Blk.cell blks, Blk.cell blks⟩) (fun hHeldN => ?_)
        clear hHeld hK K
        have hHeld := hHeldN
        clear hHeldN
        try simp only [Act.put, List.getElem_toArray, List.getElem_cons_zero, List.getElem_cons_succ, List.setIfInBounds_toArray, List.set_cons_zero, List.set_cons_succ]
        refine wpAnyH_take (i := 5) (v := ?_) rfl (by kernel_rfl) (by kernel_rfl) (by kernel_rfl) (fun _ _ _ h => h) (Or.inl ⟨by rfl, fun w hSw => ?_⟩) hHeld ?_
        rotate_left
        · ((try dsimp only at hSw); go_split_ands; go_simp; (try with_reducible rfl))
        try simp only [Act.put, List.getElem_toArray, List.getElem_cons_zero, List.getElem_cons_succ, List.setIfInBounds_toArray, List.set_cons_zero, List.set_cons_succ]
        refine wpAnyH_take (i := 6) (v := ?_) rfl (by kernel_rfl) (by kernel_rfl) (by kernel_rfl) (fun _ _ _ h => h) (Or.inl ⟨by rfl, fun w hSw => ?_⟩) hHeld ?_
        rotate_left
        · ((try dsimp only at hSw); go_split_ands; go_simp; (try with_reducible rfl))
        try simp only [Act.put, List.getElem_toArray, List.getElem_cons_zero, List.getElem_cons_succ, List.setIfInBounds_toArray, List.set_cons_zero, List.set_cons_succ]
        refine wpAnyH_take (i := 7) (v := ?_) rfl (by kernel_rfl) (by kernel_rfl) (by kernel_rfl) (fun _ _ _ h => h) (Or.inl ⟨by rfl, fun w hSw => ?_⟩) hHeld ?_
        rotate_left
        · ((try dsimp only at hSw); go_split_ands; go_simp; (try with_reducible rfl))
        try simp only [Act.put, List.getElem_toArray, List.getElem_cons_zero, List.getElem_cons_succ, List.setIfInBounds_toArray, List.set_cons_zero, List.set_cons_succ]
        refine wpAnyH_ready (rs := [8]) (by kernel_rfl) (by simp) ?_
        refine AllReadyH.cons rfl (fun K hK => ?_) AllReadyH.nil
        try simp only [List.getElem_toArray, List.getElem_cons_zero, List.getElem_cons_succ]
        go_simp
        refine hK.out _ _ (⟨Blk.cell blks, Blk.cell blks⟩) (fun hHeldN => ?_)
        clear hHeld hK K
        have hHeld := hHeldN
        clear hHeldN
        try simp only [Act.put, List.getElem_toArray, List.getElem_cons_zero, List.getElem_cons_succ, List.setIfInBounds_toArray, List.set_cons_zero, List.set_cons_succ]
        refine wpAnyH_ready (rs := [9]) (by kernel_rfl) (by simp) ?_
        refine AllReadyH.cons rfl (fun K hK => ?_) AllReadyH.nil
        try simp only [List.getElem_toArray, List.getElem_cons_zero, List.getElem_cons_succ]
        go_simp
        refine hK.out _ _ (⟨Blk.cell blks, Blk.cell blks⟩) (fun hHeldN => ?_)
        clear hHeld hK K
        have hHeld := hHeldN
        clear hHeldN
        try simp only [Act.put, List.getElem_toArray, List.getElem_cons_zero, List.getElem_cons_succ, List.setIfInBounds_toArray, List.set_cons_zero, List.set_cons_succ]
        refine wpAnyH_take (i := 10) (v := ?_) rfl (by kernel_rfl) (by kernel_rfl) (by kernel_rfl) (fun _ _ _ h => h) (Or.inl ⟨by rfl, fun w hSw => ?_⟩) hHeld ?_
        rotate_left
        · ((try dsimp only at hSw); go_split_ands; go_simp; (try with_reducible rfl))
        try simp only [Act.put, List.getElem_toArray, List.getElem_cons_zero, List.getElem_cons_succ, List.setIfInBounds_toArray, List.set_cons_zero, List.set_cons_succ]
        refine wpAnyH_done (by kernel_rfl) ?_ _
        refine NoPanic.normal ?_
        refine absThen ?_
        intro V hV
        have f0 : Below w.heap.size w V := by rw [hV]; exact bel
        have fp0 : Blk V (w.heap.size) 58 #[.slice A0 a0.pre.facts.length c0, .slice B0 a0.pre.atoms.length d0, .slice E0 a0.post.facts.length e0, .slice F0 a0.post.atoms.length fz0, .slice G0 a0.changes.length g0] := by rw [hV]; exact blks
        have fp1 : Blk V (w.heap.size + 1) 56 #[.slice A1 a1.facts.length c1, .slice B1 a1.atoms.length d1] := by rw [hV]; exact blks
        have fv : Blk V (us2.heap.size) 62 #[.slice Aw D.pre.facts.length cw, .slice Bw D.pre.atoms.length dw, .slice Ew D.post.facts.length ew, .slice Fw D.post.atoms.length fw, .slice Gw D.changes.length gw] := by rw [hV]; exact blks
        have goz := oz.below (bbox (Below.refl us2.heap.size us2) (.cells #[.slice Aw D.pre.facts.length cw, .slice Bw D.pre.atoms.length dw, .slice Ew D.post.facts.length ew, .slice Fw D.post.atoms.length fw, .slice Gw D.changes.length gw] 62))
        rw [← hV] at goz
        obtain ⟨P, hP⟩ : ∃ P, P = us2.heap.size := ⟨_, rfl⟩
        have zP : ws1.heap.size ≤ P := by omega
        have zV : us2.heap.size ≤ V.heap.size := by rw [hV]; (try simp) <;> omega
        obtain ⟨lo, hlo⟩ : ∃ lo, lo = us1.heap.size := ⟨_, rfl⟩
        obtain ⟨hi, hhi⟩ : ∃ hi, hi = us2.heap.size := ⟨_, rfl⟩
        have zlo : ws1.heap.size ≤ lo := by omega
        have zhi : hi ≤ V.heap.size := by omega
        have zd : P < lo ∨ hi ≤ P := by omega
        rw [← hlo, ← hhi] at goz
        rw [← hP] at fv ⊢
        clear zV hV hP hlo hhi oz os0 os1 zus0 zus1 zus2 hHeld p0 p1 hB
        revert V P lo hi ys0 ys1 Aw cw Bw dw Ew ew Fw fw Gw gw f0 fp0 fp1 fv goz zP zlo zhi zd
        exact key.out
      · skip
        try simp only [List.getElem_toArray, List.getElem_cons_zero, List.getElem_cons_succ]
        go_simp
        refine hK.out _ _ (⟨Blk.cell blks, Blk.cell blks⟩) (fun hHeldN => ?_)
        clear hHeld hK K
        have hHeld := hHeldN
        clear hHeldN
        try simp only [Act.put, List.getElem_toArray, List.getElem_cons_zero, List.getElem_cons_succ, List.setIfInBounds_toArray, List.set_cons_zero, List.set_cons_succ]
        refine wpAnyH_ready (rs := [4]) (by kernel_rfl) (by simp) ?_
        refine AllReadyH.cons rfl (fun K hK => ?_) AllReadyH.nil
        try simp only [List.getElem_toArray, List.getElem_cons_zero, List.getElem_cons_succ]
        (go_simp; refine (c_spec_FrameContract _ _ a0 a1 _ (os0.below bel).reads (os1.below bel).reads).mono ?_; rintro e us2 ⟨rz, rfl, oX, hBx⟩; have zus2 : us1.heap.size + 1 ≤ us2.heap.size := (by have := hBx.size; simpa using this); have hS := bgo (w := us1) bel hBx; replace hB := bgo hB hS; replace p0 := p0.next hS; replace p1 := p1.next hS; replace os0 := os0.below hS; replace os1 := os1.below hS; have pv := Blk.next (g := us1.heap.size) (t := 62) (cs := #[.slice none 0 0, .slice none 0 0, .slice none 0 0, .slice none 0 0, .slice none 0 0]) blks hBx; (replace qpv := pv.cell; replace rpv := pv.frozen; replace lpv := pv.lt); have oz := oX.lower (base' := us1.heap.size + 1) (by (try simp) <;> omega); clear oX; clear hS hBx); rw [HD.out] at oz; rw [HSB.out]; replace oz := oz.I; obtain ⟨Aw, cw, Bw, dw, Ew, ew, Fw, fw, Gw, gw, rfl⟩ := oz.form
        refine hK.out _ _ (⟨Blk.cell blks, Blk.cell blks⟩) (fun hHeldN => ?_)
        clear hHeld hK K
        have hHeld := hHeldN
        clear hHeldN
        try simp only [Act.put, List.getElem_toArray, List.getElem_cons_zero, List.getElem_cons_succ, List.setIfInBounds_toArray, List.set_cons_zero, List.set_cons_succ]
        refine wpAnyH_take (i := 5) (v := ?_) rfl (by kernel_rfl) (by kernel_rfl) (by kernel_rfl) (fun _ _ _ h => h) (Or.inl ⟨by rfl, fun w hSw => ?_⟩) hHeld ?_
        rotate_left
        · ((try dsimp only at hSw); go_split_ands; go_simp; (try with_reducible rfl))
        try simp only [Act.put, List.getElem_toArray, List.getElem_cons_zero, List.getElem_cons_succ, List.setIfInBounds_toArray, List.set_cons_zero, List.set_cons_succ]
        refine wpAnyH_take (i := 6) (v := ?_) rfl (by kernel_rfl) (by kernel_rfl) (by kernel_rfl) (fun _ _ _ h => h) (Or.inl ⟨by rfl, fun w hSw => ?_⟩) hHeld ?_
        rotate_left
        · ((try dsimp only at hSw); go_split_ands; go_simp; (try with_reducible rfl))
        try simp only [Act.put, List.getElem_toArray, List.getElem_cons_zero, List.getElem_cons_succ, List.setIfInBounds_toArray, List.set_cons_zero, List.set_cons_succ]
        refine wpAnyH_take (i := 7) (v := ?_) rfl (by kernel_rfl) (by kernel_rfl) (by kernel_rfl) (fun _ _ _ h => h) (Or.inl ⟨by rfl, fun w hSw => ?_⟩) hHeld ?_
        rotate_left
        · ((try dsimp only at hSw); go_split_ands; go_simp; (try with_reducible rfl))
        try simp only [Act.put, List.getElem_toArray, List.getElem_cons_zero, List.getElem_cons_succ, List.setIfInBounds_toArray, List.set_cons_zero, List.set_cons_succ]
        refine wpAnyH_ready (rs := [9]) (by kernel_rfl) (by simp) ?_
        refine AllReadyH.cons rfl (fun K hK => ?_) AllReadyH.nil
        try simp only [List.getElem_toArray, List.getElem_cons_zero, List.getElem_cons_succ]
        go_simp
        refine hK.out _ _ (⟨Blk.cell blks, Blk.cell blks⟩) (fun hHeldN => ?_)
        clear hHeld hK K
        have hHeld := hHeldN
        clear hHeldN
        try simp only [Act.put, List.getElem_toArray, List.getElem_cons_zero, List.getElem_cons_succ, List.setIfInBounds_toArray, List.set_cons_zero, List.set_cons_succ]
        refine wpAnyH_take (i := 10) (v := ?_) rfl (by kernel_rfl) (by kernel_rfl) (by kernel_rfl) (fun _ _ _ h => h) (Or.inl ⟨by rfl, fun w hSw => ?_⟩) hHeld ?_
        rotate_left
        · ((try dsimp only at hSw); go_split_ands; go_simp; (try with_reducible rfl))
        try simp only [Act.put, List.getElem_toArray, List.getElem_cons_zero, List.getElem_cons_succ, List.setIfInBounds_toArray, List.set_cons_zero, List.set_cons_succ]
        refine wpAnyH_done (by kernel_rfl) ?_ _
        refine NoPanic.normal ?_
        refine absThen ?_
        intro V hV
        have f0 : Below w.heap.size w V := by rw [hV]; exact bel
        have fp0 : Blk V (w.heap.size) 58 #[.slice A0 a0.pre.facts.length c0, .slice B0 a0.pre.atoms.length d0, .slice E0 a0.post.facts.length e0, .slice F0 a0.post.atoms.length fz0, .slice G0 a0.changes.length g0] := by rw [hV]; exact blks
        have fp1 : Blk V (w.heap.size + 1) 56 #[.slice A1 a1.facts.length c1, .slice B1 a1.atoms.length d1] := by rw [hV]; exact blks
        have fv : Blk V (us1.heap.size) 62 #[.slice Aw D.pre.facts.length cw, .slice Bw D.pre.atoms.length dw, .slice Ew D.post.facts.length ew, .slice Fw D.post.atoms.length fw, .slice Gw D.changes.length gw] := by rw [hV]; exact (((((pv.set_ 0 _).set_ 1 _).set_ 2 _).set_ 3 _).set_ 4 _)
        have goz := ((((((oz).setT pv (by decide) (by decide) (by decide) 0 (.slice Aw D.pre.facts.length cw)).setT (pv.set_ 0 _) (by decide) (by decide) (by decide) 1 (.slice Bw D.pre.atoms.length dw)).setT ((pv.set_ 0 _).set_ 1 _) (by decide) (by decide) (by decide) 2 (.slice Ew D.post.facts.length ew)).setT (((pv.set_ 0 _).set_ 1 _).set_ 2 _) (by decide) (by decide) (by decide) 3 (.slice Fw D.post.atoms.length fw)).setT ((((pv.set_ 0 _).set_ 1 _).set_ 2 _).set_ 3 _) (by decide) (by decide) (by decide) 4 (.slice Gw D.changes.length gw))
        rw [← hV] at goz
        obtain ⟨P, hP⟩ : ∃ P, P = us1.heap.size := ⟨_, rfl⟩
        have zP : ws1.heap.size ≤ P := by omega
        have zV : us2.heap.size ≤ V.heap.size := by rw [hV]; (try simp) <;> omega
        obtain ⟨lo, hlo⟩ : ∃ lo, lo = us1.heap.size + 1 := ⟨_, rfl⟩
        obtain ⟨hi, hhi⟩ : ∃ hi, hi = us2.heap.size := ⟨_, rfl⟩
        have zlo : ws1.heap.size ≤ lo := by omega
        have zhi : hi ≤ V.heap.size := by omega
        have zd : P < lo ∨ hi ≤ P := by omega
        rw [← hlo, ← hhi] at goz
        rw [← hP] at fv ⊢
        clear zV hV hP hlo hhi oz os0 os1 zus0 zus1 zus2 hHeld p0 p1 hB pv qpv rpv lpv
        revert V P lo hi ys0 ys1 Aw cw Bw dw Ew ew Fw fw Gw gw f0 fp0 fp1 fv goz zP zlo zhi zd
        exact key.out
    · skip
      try simp only [List.getElem_toArray, List.getElem_cons_zero, List.getElem_cons_succ]
      go_simp
      refine hK.out _ _ (⟨Blk.cell blks, Blk.cell blks⟩) (fun hHeldN => ?_)
      clear hHeld hK K
      have hHeld := hHeldN
      clear hHeldN
      try simp only [Act.put, List.getElem_toArray, List.getElem_cons_zero, List.getElem_cons_succ, List.setIfInBounds_toArray, List.set_cons_zero, List.set_cons_succ]
      refine wpAnyH_ready (rs := [3]) (by kernel_rfl) (by simp) ?_
      refine AllReadyH.cons rfl (fun K hK => ?_) AllReadyH.nil
      try simp only [List.getElem_toArray, List.getElem_cons_zero, List.getElem_cons_succ]
      (go_simp; refine (to_asn _ a1 _ (hV1.out.below bel)).mono ?_; rintro e us1 ⟨ys1, rfl, os1, hBx⟩; have zus1 : us0.heap.size + 1 ≤ us1.heap.size := (by have := hBx.size; simpa using this); have hS := bgo (w := us0) bel hBx; replace hB := bgo hB hS; replace p0 := p0.next hS; replace p1 := p1.next hS; replace os0 := os0.below hS; have pv := Blk.next (g := us0.heap.size) (t := 62) (cs := #[.slice none 0 0, .slice none 0 0, .slice none 0 0, .slice none 0 0, .slice none 0 0]) blks hBx; (replace qpv := pv.cell; replace rpv := pv.frozen; replace lpv := pv.lt); clear hS hBx)
      refine hK.out _ _ (⟨Blk.cell blks, Blk.cell blks⟩) (fun hHeldN => ?_)
      clear hHeld hK K
      have hHeld := hHeldN
      clear hHeldN
      try simp only [Act.put, List.getElem_toArray, List.getElem_cons_zero, List.getElem_cons_succ, List.setIfInBounds_toArray, List.set_cons_zero, List.set_cons_succ]
      refine wpAnyH_ready (rs := [4]) (by kernel_rfl) (by simp) ?_
      refine AllReadyH.cons rfl (fun K hK => ?_) AllReadyH.nil
      try simp only [List.getElem_toArray, List.getElem_cons_zero, List.getElem_cons_succ]
      (go_simp; refine (c_spec_FrameContract _ _ a0 a1 _ (os0.below bel).reads (os1.below bel).reads).mono ?_; rintro e us2 ⟨rz, rfl, oX, hBx⟩; have zus2 : us1.heap.size ≤ us2.heap.size := (by have := hBx.size; simpa using this); have hS := bgo (w := us1) bel hBx; replace hB := bgo hB hS; replace p0 := p0.next hS; replace p1 := p1.next hS; replace os0 := os0.below hS; replace os1 := os1.below hS; replace pv := pv.next hS; (replace qpv := pv.cell; replace rpv := pv.frozen; replace lpv := pv.lt); have oz := oX.lower (base' := us1.heap.size) (by (try simp) <;> omega); clear oX; clear hS hBx); rw [HD.out] at oz; rw [HSB.out]; replace oz := oz.I; obtain ⟨Aw, cw, Bw, dw, Ew, ew, Fw, fw, Gw, gw, rfl⟩ := oz.form
      refine hK.out _ _ (⟨Blk.cell blks, Blk.cell blks⟩) (fun hHeldN => ?_)
      clear hHeld hK K
      have hHeld := hHeldN
      clear hHeldN
      try simp only [Act.put, List.getElem_toArray, List.getElem_cons_zero, List.getElem_cons_succ, List.setIfInBounds_toArray, List.set_cons_zero, List.set_cons_succ]
      refine wpAnyH_take (i := 5) (v := ?_) rfl (by kernel_rfl) (by kernel_rfl) (by kernel_rfl) (fun _ _ _ h => h) (Or.inl ⟨by rfl, fun w hSw => ?_⟩) hHeld ?_
      rotate_left
      · ((try dsimp only at hSw); go_split_ands; go_simp; (try with_reducible rfl))
      try simp only [Act.put, List.getElem_toArray, List.getElem_cons_zero, List.getElem_cons_succ, List.setIfInBounds_toArray, List.set_cons_zero, List.set_cons_succ]
      refine wpAnyH_take (i := 6) (v := ?_) rfl (by kernel_rfl) (by kernel_rfl) (by kernel_rfl) (fun _ _ _ h => h) (Or.inl ⟨by rfl, fun w hSw => ?_⟩) hHeld ?_
      rotate_left
      · ((try dsimp only at hSw); go_split_ands; go_simp; (try with_reducible rfl))
      try simp only [Act.put, List.getElem_toArray, List.getElem_cons_zero, List.getElem_cons_succ, List.setIfInBounds_toArray, List.set_cons_zero, List.set_cons_succ]
      refine wpAnyH_take (i := 7) (v := ?_) rfl (by kernel_rfl) (by kernel_rfl) (by kernel_rfl) (fun _ _ _ h => h) (Or.inl ⟨by rfl, fun w hSw => ?_⟩) hHeld ?_
      rotate_left
      · ((try dsimp only at hSw); go_split_ands; go_simp; (try with_reducible rfl))
      try simp only [Act.put, List.getElem_toArray, List.getElem_cons_zero, List.getElem_cons_succ, List.setIfInBounds_toArray, List.set_cons_zero, List.set_cons_succ]
      refine wpAnyH_ready (rs := [9]) (by kernel_rfl) (by simp) ?_
      refine AllReadyH.cons rfl (fun K hK => ?_) AllReadyH.nil
      try simp only [List.getElem_toArray, List.getElem_cons_zero, List.getElem_cons_succ]
      go_simp
      refine hK.out _ _ (⟨Blk.cell blks, Blk.cell blks⟩) (fun hHeldN => ?_)
      clear hHeld hK K
      have hHeld := hHeldN
      clear hHeldN
      try simp only [Act.put, List.getElem_toArray, List.getElem_cons_zero, List.getElem_cons_succ, List.setIfInBounds_toArray, List.set_cons_zero, List.set_cons_succ]
      refine wpAnyH_take (i := 10) (v := ?_) rfl (by kernel_rfl) (by kernel_rfl) (by kernel_rfl) (fun _ _ _ h => h) (Or.inl ⟨by rfl, fun w hSw => ?_⟩) hHeld ?_
      rotate_left
      · ((try dsimp only at hSw); go_split_ands; go_simp; (try with_reducible rfl))
      try simp only [Act.put, List.getElem_toArray, List.getElem_cons_zero, List.getElem_cons_succ, List.setIfInBounds_toArray, List.set_cons_zero, List.set_cons_succ]
      refine wpAnyH_done (by kernel_rfl) ?_ _
      refine NoPanic.normal ?_
      refine absThen ?_
      intro V hV
      have f0 : Below w.heap.size w V := by rw [hV]; exact bel
      have fp0 : Blk V (w.heap.size) 58 #[.slice A0 a0.pre.facts.length c0, .slice B0 a0.pre.atoms.length d0, .slice E0 a0.post.facts.length e0, .slice F0 a0.post.atoms.length fz0, .slice G0 a0.changes.length g0] := by rw [hV]; exact blks
      have fp1 : Blk V (w.heap.size + 1) 56 #[.slice A1 a1.facts.length c1, .slice B1 a1.atoms.length d1] := by rw [hV]; exact blks
      have fv : Blk V (us0.heap.size) 62 #[.slice Aw D.pre.facts.length cw, .slice Bw D.pre.atoms.length dw, .slice Ew D.post.facts.length ew, .slice Fw D.post.atoms.length fw, .slice Gw D.changes.length gw] := by rw [hV]; exact (((((pv.set_ 0 _).set_ 1 _).set_ 2 _).set_ 3 _).set_ 4 _)
      have goz := ((((((oz).setT pv (by decide) (by decide) (by decide) 0 (.slice Aw D.pre.facts.length cw)).setT (pv.set_ 0 _) (by decide) (by decide) (by decide) 1 (.slice Bw D.pre.atoms.length dw)).setT ((pv.set_ 0 _).set_ 1 _) (by decide) (by decide) (by decide) 2 (.slice Ew D.post.facts.length ew)).setT (((pv.set_ 0 _).set_ 1 _).set_ 2 _) (by decide) (by decide) (by decide) 3 (.slice Fw D.post.atoms.length fw)).setT ((((pv.set_ 0 _).set_ 1 _).set_ 2 _).set_ 3 _) (by decide) (by decide) (by decide) 4 (.slice Gw D.changes.length gw))
      rw [← hV] at goz
      obtain ⟨P, hP⟩ : ∃ P, P = us0.heap.size := ⟨_, rfl⟩
      have zP : ws1.heap.size ≤ P := by omega
      have zV : us2.heap.size ≤ V.heap.size := by rw [hV]; (try simp) <;> omega
      obtain ⟨lo, hlo⟩ : ∃ lo, lo = us1.heap.size := ⟨_, rfl⟩
      obtain ⟨hi, hhi⟩ : ∃ hi, hi = us2.heap.size := ⟨_, rfl⟩
      have zlo : ws1.heap.size ≤ lo := by omega
      have zhi : hi ≤ V.heap.size := by omega
      have zd : P < lo ∨ hi ≤ P := by omega
      rw [← hlo, ← hhi] at goz
      rw [← hP] at fv ⊢
      clear zV hV hP hlo hhi oz os0 os1 zus0 zus1 zus2 hHeld p0 p1 hB pv qpv rpv lpv
      revert V P lo hi ys0 ys1 Aw cw Bw dw Ew ew Fw fw Gw gw f0 fp0 fp1 fv goz zP zlo zhi zd
      exact key.out
  · skip
    try simp only [List.getElem_toArray, List.getElem_cons_zero, List.getElem_cons_succ]
    go_simp
    refine hK.out _ _ (⟨Blk.cell blks, Blk.cell blks⟩) (fun hHeldN => ?_)
    clear hHeld hK K
    have hHeld := hHeldN
    clear hHeldN
    try simp only [Act.put, List.getElem_toArray, List.getElem_cons_zero, List.getElem_cons_succ, List.setIfInBounds_toArray, List.set_cons_zero, List.set_cons_succ]
    refine wpAnyH_ready (rs := [1]) (by kernel_rfl) (by simp) ?_
    refine AllReadyH.cons rfl (fun K hK => ?_) AllReadyH.nil
    try simp only [List.getElem_toArray, List.getElem_cons_zero, List.getElem_cons_succ]
    (go_simp; refine (to_ctr _ a0 _ (hV0.out.below bel)).mono ?_; rintro e us0 ⟨ys0, rfl, os0, hBx⟩; have zus0 : ws1.heap.size + 1 ≤ us0.heap.size := (by have := hBx.size; simpa using this); have hS := bgo (w := ws1) bel hBx; replace hB := bgo hB hS; replace p0 := p0.next hS; replace p1 := p1.next hS; have pv := Blk.next (g := ws1.heap.size) (t := 62) (cs := #[.slice none 0 0, .slice none 0 0, .slice none 0 0, .slice none 0 0, .slice none 0 0]) blks hBx; (replace qpv := pv.cell; replace rpv := pv.frozen; replace lpv := pv.lt); clear hS hBx)
    refine hK.out _ _ (⟨Blk.cell blks, Blk.cell blks⟩) (fun hHeldN => ?_)
    clear hHeld hK K
    have hHeld := hHeldN
    clear hHeldN
    try simp only [Act.put, List.getElem_toArray, List.getElem_cons_zero, List.getElem_cons_succ, List.setIfInBounds_toArray, List.set_cons_zero, List.set_cons_succ]
    refine wpAnyH_ready (rs := [3]) (by kernel_rfl) (by simp) ?_
    refine AllReadyH.cons rfl (fun K hK => ?_) AllReadyH.nil
    try simp only [List.getElem_toArray, List.getElem_cons_zero, List.getElem_cons_succ]
    (go_simp; refine (to_asn _ a1 _ (hV1.out.below bel)).mono ?_; rintro e us1 ⟨ys1, rfl, os1, hBx⟩; have zus1 : us0.heap.size ≤ us1.heap.size := (by have := hBx.size; simpa using this); have hS := bgo (w := us0) bel hBx; replace hB := bgo hB hS; replace p0 := p0.next hS; replace p1 := p1.next hS; replace os0 := os0.below hS; replace pv := pv.next hS; (replace qpv := pv.cell; replace rpv := pv.frozen; replace lpv := pv.lt); clear hS hBx)
    refine hK.out _ _ (⟨Blk.cell blks, Blk.cell blks⟩) (fun hHeldN => ?_)
    clear hHeld hK K
    have hHeld := hHeldN
    clear hHeldN
    try simp only [Act.put, List.getElem_toArray, List.getElem_cons_zero, List.getElem_cons_succ, List.setIfInBounds_toArray, List.set_cons_zero, List.set_cons_succ]
    refine wpAnyH_ready (rs := [4]) (by kernel_rfl) (by simp) ?_
    refine AllReadyH.cons rfl (fun K hK => ?_) AllReadyH.nil
    try simp only [List.getElem_toArray, List.getElem_cons_zero, List.getElem_cons_succ]
    (go_simp; refine (c_spec_FrameContract _ _ a0 a1 _ (os0.below bel).reads (os1.below bel).reads).mono ?_; rintro e us2 ⟨rz, rfl, oX, hBx⟩; have zus2 : us1.heap.size ≤ us2.heap.size := (by have := hBx.size; simpa using this); have hS := bgo (w := us1) bel hBx; replace hB := bgo hB hS; replace p0 := p0.next hS; replace p1 := p1.next hS; replace os0 := os0.below hS; replace os1 := os1.below hS; replace pv := pv.next hS; (replace qpv := pv.cell; replace rpv := pv.frozen; replace lpv := pv.lt); have oz := oX.lower (base' := us1.heap.size) (by (try simp) <;> omega); clear oX; clear hS hBx); rw [HD.out] at oz; rw [HSB.out]; replace oz := oz.I; obtain ⟨Aw, cw, Bw, dw, Ew, ew, Fw, fw, Gw, gw, rfl⟩ := oz.form
    refine hK.out _ _ (⟨Blk.cell blks, Blk.cell blks⟩) (fun hHeldN => ?_)
    clear hHeld hK K
    have hHeld := hHeldN
    clear hHeldN
    try simp only [Act.put, List.getElem_toArray, List.getElem_cons_zero, List.getElem_cons_succ, List.setIfInBounds_toArray, List.set_cons_zero, List.set_cons_succ]
    refine wpAnyH_take (i := 5) (v := ?_) rfl (by kernel_rfl) (by kernel_rfl) (by kernel_rfl) (fun _ _ _ h => h) (Or.inl ⟨by rfl, fun w hSw => ?_⟩) hHeld ?_
    rotate_left
    · ((try dsimp only at hSw); go_split_ands; go_simp; (try with_reducible rfl))
    try simp only [Act.put, List.getElem_toArray, List.getElem_cons_zero, List.getElem_cons_succ, List.setIfInBounds_toArray, List.set_cons_zero, List.set_cons_succ]
    refine wpAnyH_take (i := 6) (v := ?_) rfl (by kernel_rfl) (by kernel_rfl) (by kernel_rfl) (fun _ _ _ h => h) (Or.inl ⟨by rfl, fun w hSw => ?_⟩) hHeld ?_
    rotate_left
    · ((try dsimp only at hSw); go_split_ands; go_simp; (try with_reducible rfl))
    try simp only [Act.put, List.getElem_toArray, List.getElem_cons_zero, List.getElem_cons_succ, List.setIfInBounds_toArray, List.set_cons_zero, List.set_cons_succ]
    refine wpAnyH_take (i := 7) (v := ?_) rfl (by kernel_rfl) (by kernel_rfl) (by kernel_rfl) (fun _ _ _ h => h) (Or.inl ⟨by rfl, fun w hSw => ?_⟩) hHeld ?_
    rotate_left
    · ((try dsimp only at hSw); go_split_ands; go_simp; (try with_reducible rfl))
    try simp only [Act.put, List.getElem_toArray, List.getElem_cons_zero, List.getElem_cons_succ, List.setIfInBounds_toArray, List.set_cons_zero, List.set_cons_succ]
    refine wpAnyH_ready (rs := [9]) (by kernel_rfl) (by simp) ?_
    refine AllReadyH.cons rfl (fun K hK => ?_) AllReadyH.nil
    try simp only [List.getElem_toArray, List.getElem_cons_zero, List.getElem_cons_succ]
    go_simp
    refine hK.out _ _ (⟨Blk.cell blks, Blk.cell blks⟩) (fun hHeldN => ?_)
    clear hHeld hK K
    have hHeld := hHeldN
    clear hHeldN
    try simp only [Act.put, List.getElem_toArray, List.getElem_cons_zero, List.getElem_cons_succ, List.setIfInBounds_toArray, List.set_cons_zero, List.set_cons_succ]
    refine wpAnyH_take (i := 10) (v := ?_) rfl (by kernel_rfl) (by kernel_rfl) (by kernel_rfl) (fun _ _ _ h => h) (Or.inl ⟨by rfl, fun w hSw => ?_⟩) hHeld ?_
    rotate_left
    · ((try dsimp only at hSw); go_split_ands; go_simp; (try with_reducible rfl))
    try simp only [Act.put, List.getElem_toArray, List.getElem_cons_zero, List.getElem_cons_succ, List.setIfInBounds_toArray, List.set_cons_zero, List.set_cons_succ]
    refine wpAnyH_done (by kernel_rfl) ?_ _
    refine NoPanic.normal ?_
    refine absThen ?_
    intro V hV
    have f0 : Below w.heap.size w V := by rw [hV]; exact bel
    have fp0 : Blk V (w.heap.size) 58 #[.slice A0 a0.pre.facts.length c0, .slice B0 a0.pre.atoms.length d0, .slice E0 a0.post.facts.length e0, .slice F0 a0.post.atoms.length fz0, .slice G0 a0.changes.length g0] := by rw [hV]; exact blks
    have fp1 : Blk V (w.heap.size + 1) 56 #[.slice A1 a1.facts.length c1, .slice B1 a1.atoms.length d1] := by rw [hV]; exact blks
    have fv : Blk V (ws1.heap.size) 62 #[.slice Aw D.pre.facts.length cw, .slice Bw D.pre.atoms.length dw, .slice Ew D.post.facts.length ew, .slice Fw D.post.atoms.length fw, .slice Gw D.changes.length gw] := by rw [hV]; exact (((((pv.set_ 0 _).set_ 1 _).set_ 2 _).set_ 3 _).set_ 4 _)
    have goz := ((((((oz).setT pv (by decide) (by decide) (by decide) 0 (.slice Aw D.pre.facts.length cw)).setT (pv.set_ 0 _) (by decide) (by decide) (by decide) 1 (.slice Bw D.pre.atoms.length dw)).setT ((pv.set_ 0 _).set_ 1 _) (by decide) (by decide) (by decide) 2 (.slice Ew D.post.facts.length ew)).setT (((pv.set_ 0 _).set_ 1 _).set_ 2 _) (by decide) (by decide) (by decide) 3 (.slice Fw D.post.atoms.length fw)).setT ((((pv.set_ 0 _).set_ 1 _).set_ 2 _).set_ 3 _) (by decide) (by decide) (by decide) 4 (.slice Gw D.changes.length gw))
    rw [← hV] at goz
    obtain ⟨P, hP⟩ : ∃ P, P = ws1.heap.size := ⟨_, rfl⟩
    have zP : ws1.heap.size ≤ P := by omega
    have zV : us2.heap.size ≤ V.heap.size := by rw [hV]; (try simp) <;> omega
    obtain ⟨lo, hlo⟩ : ∃ lo, lo = us1.heap.size := ⟨_, rfl⟩
    obtain ⟨hi, hhi⟩ : ∃ hi, hi = us2.heap.size := ⟨_, rfl⟩
    have zlo : ws1.heap.size ≤ lo := by omega
    have zhi : hi ≤ V.heap.size := by omega
    have zd : P < lo ∨ hi ≤ P := by omega
    rw [← hlo, ← hhi] at goz
    rw [← hP] at fv ⊢
    clear zV hV hP hlo hhi oz os0 os1 zus0 zus1 zus2 hHeld p0 p1 hB pv qpv rpv lpv
    revert V P lo hi ys0 ys1 Aw cw Bw dw Ew ew Fw fw Gw gw f0 fp0 fp1 fv goz zP zlo zhi zd
    exact key.out
  skip
  intro ys0 ys1 Aw cw Bw dw Ew ew Fw fw Gw gw Ws hB2 fp0 fp1  Ps pw zWsp ls hs Xw zWslo zWshi zWsd
  replace p0 := fp0
  clear fp0
  replace p1 := fp1
  clear fp1
  clear hB
  have hB := hB2
  clear hB2
  (replace qp0 := p0.cell; replace rp0 := p0.frozen; replace lp0 := p0.lt)
  (replace qp1 := p1.cell; replace rp1 := p1.frozen; replace lp1 := p1.lt)
  (replace qpw := pw.cell; replace rpw := pw.frozen; replace lpw := pw.lt)
  have zWsl := lpw
  go_wp2_with fail
  refine (to_ctr _ a0 _ (hV0.out.below bel)).mono ?_
  rintro e w1 ⟨y, rfl, X0, hBx⟩
  have hS := bgo (w := Ws) bel hBx
  have zw1 := hBx.size
  replace hB := bgo hB hS
  replace p0 := p0.next hS
  replace p1 := p1.next hS
  replace pw := pw.next hS
  replace Xw := Xw.below hS
  clear hS hBx
  (replace qp0 := p0.cell; replace rp0 := p0.frozen; replace lp0 := p0.lt)
  (replace qp1 := p1.cell; replace rp1 := p1.frozen; replace lp1 := p1.lt)
  (replace qpw := pw.cell; replace rpw := pw.frozen; replace lpw := pw.lt)
  obtain ⟨Ax0, cx0, Bx0, dx0, Ex0, ex0, Fx0, fx0, Gx0, gx0, rfl⟩ := X0.form
  go_wp2_with fail
  refine (to_asn _ a1 _ (hV1.out.below bel)).mono ?_
  rintro e w2 ⟨y, rfl, X1, hBx⟩
  rw [World.size_alloc] at X1
  have hS := bgo (w := w1) bel hBx
  have zw2 := hBx.size
  simp only [World.size_alloc] at zw2
  replace hB := bgo hB hS
  replace p0 := p0.next hS
  replace p1 := p1.next hS
  replace pw := pw.next hS
  replace Xw := Xw.below hS
  replace X0 := X0.below hS
  have px0 := Blk.next (g := w1.heap.size) (t := 62) (cs := #[.slice Ax0 a0.pre.facts.length cx0, .slice Bx0 a0.pre.atoms.length dx0, .slice Ex0 a0.post.facts.length ex0, .slice Fx0 a0.post.atoms.length fx0, .slice Gx0 a0.changes.length gx0]) blks hBx
  clear hS hBx
  (replace qp0 := p0.cell; replace rp0 := p0.frozen; replace lp0 := p0.lt)
  (replace qp1 := p1.cell; replace rp1 := p1.frozen; replace lp1 := p1.lt)
  (replace qpw := pw.cell; replace rpw := pw.frozen; replace lpw := pw.lt)
  (replace qpx0 := px0.cell; replace rpx0 := px0.frozen; replace lpx0 := px0.lt)
  obtain ⟨Ax1, cx1, Bx1, dx1, rfl⟩ := X1.form
  go_wp2_with fail
  refine (c_impl_FrameContract _ _ a0 a1 _ (X0.below bel).reads (X1.below bel).reads).mono ?_
  rintro e w3 ⟨rg0, rfl, org0, hBx⟩
  rw [World.size_alloc] at org0
  rw [HD.out] at org0
  have Xg := org0.I
  clear org0
  rw [HSB.out]
  have hS := bgo (w := w2) bel hBx
  have zw3 := hBx.size
  simp only [World.size_alloc] at zw3
  replace hB := bgo hB hS
  replace p0 := p0.next hS
  replace p1 := p1.next hS
  replace pw := pw.next hS
  replace px0 := px0.next hS
  replace Xw := Xw.below hS
  replace X0 := X0.below hS
  replace X1 := X1.below hS
  have px1 := Blk.next (g := w2.heap.size) (t := 26) (cs := #[.slice Ax1 a1.facts.length cx1, .slice Bx1 a1.atoms.length dx1]) blks hBx
  clear hS hBx
  (replace qp0 := p0.cell; replace rp0 := p0.frozen; replace lp0 := p0.lt)
  (replace qp1 := p1.cell; replace rp1 := p1.frozen; replace lp1 := p1.lt)
  (replace qpw := pw.cell; replace rpw := pw.frozen; replace lpw := pw.lt)
  (replace qpx0 := px0.cell; replace rpx0 := px0.frozen; replace lpx0 := px0.lt)
  (replace qpx1 := px1.cell; replace rpx1 := px1.frozen; replace lpx1 := px1.lt)
  obtain ⟨Ag, cg, Bg, dg, Eg, eg, Fg, fg, Gg, gg, rfl⟩ := Xg.form
  have hLD := Xg.len
  go_wp2_with fail
  refine (t_ctr _ _ D _ (Xg.below bel).reads (Xw.below bel).reads).mono ?_
  rintro e w4 ⟨rfl, hBx⟩
  have hS := bgo (w := w3) bel hBx
  have zw4 := hBx.size
  simp only [World.size_alloc] at zw4
  replace hB := bgo hB hS
  replace p0 := p0.next hS
  replace p1 := p1.next hS
  replace pw := pw.next hS
  replace px0 := px0.next hS
  replace px1 := px1.next hS
  replace Xw := Xw.below hS
  replace X0 := X0.below hS
  replace X1 := X1.below hS
  replace Xg := Xg.below hS
  have pg := Blk.next (g := w3.heap.size) (t := 62) (cs := #[.slice Ag D.pre.facts.length cg, .slice Bg D.pre.atoms.length dg, .slice Eg D.post.facts.length eg, .slice Fg D.post.atoms.length fg, .slice Gg D.changes.length gg]) blks hBx
  clear hS hBx
  (replace qp0 := p0.cell; replace rp0 := p0.frozen; replace lp0 := p0.lt)
  (replace qp1 := p1.cell; replace rp1 := p1.frozen; replace lp1 := p1.lt)
  (replace qpw := pw.cell; replace rpw := pw.frozen; replace lpw := pw.lt)
  (replace qpx0 := px0.cell; replace rpx0 := px0.frozen; replace lpx0 := px0.lt)
  (replace qpx1 := px1.cell; replace rpx1 := px1.frozen; replace lpx1 := px1.lt)
  (replace qpg := pg.cell; replace rpg := pg.frozen; replace lpg := pg.lt)
  go_wp2_with fail
  go_region_held3 (fun w' => (∀ i, w'.cell? ⟨w.heap.size, i, none⟩ = #[.slice A0 a0.pre.facts.length c0, .slice B0 a0.pre.atoms.length d0, .slice E0 a0.post.facts.length e0, .slice F0 a0.post.atoms.length fz0, .slice G0 a0.changes.length g0][i]?) ∧ (∀ i, w'.cell? ⟨w1.heap.size, i, none⟩ = #[.slice Ax0 a0.pre.facts.length cx0, .slice Bx0 a0.pre.atoms.length dx0, .slice Ex0 a0.post.facts.length ex0, .slice Fx0 a0.post.atoms.length fx0, .slice Gx0 a0.changes.length gx0][i]?))
    (first | exact ⟨p0.cell, px0.cell⟩ | exact ⟨p0.drew.cell, px0.drew.cell⟩)
    (first
      | (go_at_call 39; refine (to_ctr _ a0 _ (hV0.out.below bel)).mono ?_; rintro e w5 ⟨y, rfl, oz, hBx⟩; have hS : Below w4.heap.size w4 w5 := bgo (Below.refl w4.heap.size w4).drew hBx; replace hB := bgo hB hS; replace p0 := p0.drew.next hBx; replace p1 := p1.drew.next hBx; replace pw := pw.drew.next hBx; replace px0 := px0.drew.next hBx; replace px1 := px1.drew.next hBx; replace pg := pg.drew.next hBx)
      | (go_at_call 42; refine (t_ctr _ _ a0 _ (X0.below hS).reads oz.reads).mono ?_; rintro e w6 ⟨rfl, hBx⟩; replace hS := bgo hS hBx; replace hB := bgo hB hBx; replace p0 := p0.next hBx; replace p1 := p1.next hBx; replace pw := pw.next hBx; replace px0 := px0.next hBx; replace px1 := px1.next hBx; replace pg := pg.next hBx))
  have zw6 := hS.size
  replace Xw := Xw.below hS
  replace X0 := X0.below hS
  replace X1 := X1.below hS
  replace Xg := Xg.below hS
  clear hS oz
  (replace qp0 := p0.cell; replace rp0 := p0.frozen; replace lp0 := p0.lt)
  (replace qp1 := p1.cell; replace rp1 := p1.frozen; replace lp1 := p1.lt)
  (replace qpw := pw.cell; replace rpw := pw.frozen; replace lpw := pw.lt)
  (replace qpx0 := px0.cell; replace rpx0 := px0.frozen; replace lpx0 := px0.lt)
  (replace qpx1 := px1.cell; replace rpx1 := px1.frozen; replace lpx1 := px1.lt)
  (replace qpg := pg.cell; replace rpg := pg.frozen; replace lpg := pg.lt)
  go_wp2_with fail
  go_region_held3 (fun w' => (∀ i, w'.cell? ⟨w.heap.size + 1, i, none⟩ = #[.slice A1 a1.facts.length c1, .slice B1 a1.atoms.length d1][i]?) ∧ (∀ i, w'.cell? ⟨w2.heap.size, i, none⟩ = #[.slice Ax1 a1.facts.length cx1, .slice Bx1 a1.atoms.length dx1][i]?))
    (first | exact ⟨p1.cell, px1.cell⟩ | exact ⟨p1.drew.cell, px1.drew.cell⟩)
    (first
      | (go_at_call 40; refine (to_asn _ a1 _ (hV1.out.below bel)).mono ?_; rintro e w7 ⟨y, rfl, oz, hBx⟩; have hS : Below w6.heap.size w6 w7 := bgo (Below.refl w6.heap.size w6).drew hBx; replace hB := bgo hB hS; replace p0 := p0.drew.next hBx; replace p1 := p1.drew.next hBx; replace pw := pw.drew.next hBx; replace px0 := px0.drew.next hBx; replace px1 := px1.drew.next hBx; replace pg := pg.drew.next hBx)
      | (go_at_call 43; refine (t_asn _ _ a1 _ (X1.below hS).reads oz.reads).mono ?_; rintro e w8 ⟨rfl, hBx⟩; replace hS := bgo hS hBx; replace hB := bgo hB hBx; replace p0 := p0.next hBx; replace p1 := p1.next hBx; replace pw := pw.next hBx; replace px0 := px0.next hBx; replace px1 := px1.next hBx; replace pg := pg.next hBx))
  have zw8 := hS.size
  replace Xw := Xw.below hS
  replace X0 := X0.below hS
  replace X1 := X1.below hS
  replace Xg := Xg.below hS
  clear hS oz
  (replace qp0 := p0.cell; replace rp0 := p0.frozen; replace lp0 := p0.lt)
  (replace qp1 := p1.cell; replace rp1 := p1.frozen; replace lp1 := p1.lt)
  (replace qpw := pw.cell; replace rpw := pw.frozen; replace lpw := pw.lt)
  (replace qpx0 := px0.cell; replace rpx0 := px0.frozen; replace lpx0 := px0.lt)
  (replace qpx1 := px1.cell; replace rpx1 := px1.frozen; replace lpx1 := px1.lt)
  (replace qpg := pg.cell; replace rpg := pg.frozen; replace lpg := pg.lt)
  go_wp2_with fail
  refine (m_ctr _ a0 _ _ _ _ X0 (by omega) (by omega)).mono ?_
  rintro e w9 ⟨rfl, X0m, hM⟩
  have hsz := hM.size
  replace hB := Mk.keepB hB hM (by omega) (by have := hB.size; omega)
  replace p0 := hM.blk p0 (by omega)
  replace p1 := hM.blk p1 (by omega)
  replace pw := hM.blk pw (by omega)
  replace px0 := hM.blk px0 (by omega)
  replace px1 := hM.blk px1 (by omega)
  replace pg := hM.blk pg (by omega)
  replace Xw := Xw.mk hM (by omega)
  replace X1 := X1.mk hM (by omega)
  replace Xg := Xg.mk hM (by omega)
  clear X0 hM
  have zw9 := hsz
  clear hsz
  (replace qp0 := p0.cell; replace rp0 := p0.frozen; replace lp0 := p0.lt)
  (replace qp1 := p1.cell; replace rp1 := p1.frozen; replace lp1 := p1.lt)
  (replace qpw := pw.cell; replace rpw := pw.frozen; replace lpw := pw.lt)
  (replace qpx0 := px0.cell; replace rpx0 := px0.frozen; replace lpx0 := px0.lt)
  (replace qpx1 := px1.cell; replace rpx1 := px1.frozen; replace lpx1 := px1.lt)
  (replace qpg := pg.cell; replace rpg := pg.frozen; replace lpg := pg.lt)
  clear X0m
  go_wp2_with fail
  refine (m_asn _ a1 _ _ _ _ X1 (by omega) (by omega)).mono ?_
  rintro e w10 ⟨rfl, X1m, hM⟩
  have hsz := hM.size
  replace hB := Mk.keepB hB hM (by omega) (by have := hB.size; omega)
  replace p0 := hM.blk p0 (by omega)
  replace p1 := hM.blk p1 (by omega)
  replace pw := hM.blk pw (by omega)
  replace px0 := hM.blk px0 (by omega)
  replace px1 := hM.blk px1 (by omega)
  replace pg := hM.blk pg (by omega)
  replace Xw := Xw.mk hM (by omega)
  replace Xg := Xg.mk hM (by omega)
  clear X1 hM
  have zw10 := hsz
  clear hsz
  (replace qp0 := p0.cell; replace rp0 := p0.frozen; replace lp0 := p0.lt)
  (replace qp1 := p1.cell; replace rp1 := p1.frozen; replace lp1 := p1.lt)
  (replace qpw := pw.cell; replace rpw := pw.frozen; replace lpw := pw.lt)
  (replace qpx0 := px0.cell; replace rpx0 := px0.frozen; replace lpx0 := px0.lt)
  (replace qpx1 := px1.cell; replace rpx1 := px1.frozen; replace lpx1 := px1.lt)
  (replace qpg := pg.cell; replace rpg := pg.frozen; replace lpg := pg.lt)
  clear X1m
  go_wp2_with fail
  refine (t_ctr _ _ D _ (Xg.below bel).reads (Xw.below bel).reads).mono ?_
  rintro e w11 ⟨rfl, hBx⟩
  have hS := bgo (w := w10) bel hBx
  have zw11 := hBx.size
  replace hB := bgo hB hS
  replace p0 := p0.next hS
  replace p1 := p1.next hS
  replace pw := pw.next hS
  replace px0 := px0.next hS
  replace px1 := px1.next hS
  replace pg := pg.next hS
  replace Xw := Xw.below hS
  replace Xg := Xg.below hS
  clear hS hBx
  (replace qp0 := p0.cell; replace rp0 := p0.frozen; replace lp0 := p0.lt)
  (replace qp1 := p1.cell; replace rp1 := p1.frozen; replace lp1 := p1.lt)
  (replace qpw := pw.cell; replace rpw := pw.frozen; replace lpw := pw.lt)
  (replace qpx0 := px0.cell; replace rpx0 := px0.frozen; replace lpx0 := px0.lt)
  (replace qpx1 := px1.cell; replace rpx1 := px1.frozen; replace lpx1 := px1.lt)
  (replace qpg := pg.cell; replace rpg := pg.frozen; replace lpg := pg.lt)
  go_wp2_with fail
  refine (m_ctr _ D _ _ _ _ Xg (by omega) (by omega)).mono ?_
  rintro e w12 ⟨rfl, Xgm, hM⟩
  have hsz := hM.size
  replace hB := Mk.keepB hB hM (by omega) (by have := hB.size; omega)
  replace p0 := hM.blk p0 (by omega)
  replace p1 := hM.blk p1 (by omega)
  replace pw := hM.blk pw (by omega)
  replace px0 := hM.blk px0 (by omega)
  replace px1 := hM.blk px1 (by omega)
  replace pg := hM.blk pg (by omega)
  replace Xw := Xw.mk hM (by omega)
  clear Xg hM
  have zw12 := hsz
  clear hsz
  (replace qp0 := p0.cell; replace rp0 := p0.frozen; replace lp0 := p0.lt)
  (replace qp1 := p1.cell; replace rp1 := p1.frozen; replace lp1 := p1.lt)
  (replace qpw := pw.cell; replace rpw := pw.frozen; replace lpw := pw.lt)
  (replace qpx0 := px0.cell; replace rpx0 := px0.frozen; replace lpx0 := px0.lt)
  (replace qpx1 := px1.cell; replace rpx1 := px1.frozen; replace lpx1 := px1.lt)
  (replace qpg := pg.cell; replace rpg := pg.frozen; replace lpg := pg.lt)
  go_wp2_with fail
  refine (h_ctr D 1 _ (Xgm.below bel) (by omega) (by omega)).mono ?_
  rintro e w13 ⟨rfl, hBx⟩
  have hS := bgo (w := w12) bel hBx
  have zw13 := hBx.size
  replace hB := bgo hB hS
  replace p0 := p0.next hS
  replace p1 := p1.next hS
  replace pw := pw.next hS
  replace px0 := px0.next hS
  replace px1 := px1.next hS
  replace pg := pg.next hS
  replace Xw := Xw.below hS
  replace Xgm := Xgm.below hS
  clear hS hBx
  (replace qp0 := p0.cell; replace rp0 := p0.frozen; replace lp0 := p0.lt)
  (replace qp1 := p1.cell; replace rp1 := p1.frozen; replace lp1 := p1.lt)
  (replace qpw := pw.cell; replace rpw := pw.frozen; replace lpw := pw.lt)
  (replace qpx0 := px0.cell; replace rpx0 := px0.frozen; replace lpx0 := px0.lt)
  (replace qpx1 := px1.cell; replace rpx1 := px1.frozen; replace lpx1 := px1.lt)
  (replace qpg := pg.cell; replace rpg := pg.frozen; replace lpg := pg.lt)
  go_wp2_with fail
  apply Merge
  rotate_left
  intro key
  refine wp_region_noPanic ?_
  refine wp_region_held_drew (S := (fun w' => (∀ i, w'.cell? ⟨w.heap.size, i, none⟩ = #[.slice A0 a0.pre.facts.length c0, .slice B0 a0.pre.atoms.length d0, .slice E0 a0.post.facts.length e0, .slice F0 a0.post.atoms.length fz0, .slice G0 a0.changes.length g0][i]?) ∧ (∀ i, w'.cell? ⟨w.heap.size + 1, i, none⟩ = #[.slice A1 a1.facts.length c1, .slice B1 a1.atoms.length d1][i]?))) (by kernel_rfl) (⟨Blk.cell blks, Blk.cell blks⟩) (fun hHeld => ?_)
  refine wpAnyH_take (i := 0) (v := ?_) rfl (by kernel_rfl) (by kernel_rfl) (by kernel_rfl) (fun _ _ _ h => h) (Or.inl ⟨by rfl, fun w hSw => ?_⟩) hHeld ?_
  rotate_left
  · ((try dsimp only at hSw); go_split_ands; go_simp; (try with_reducible rfl))
  try simp only [Act.put, List.getElem_toArray, List.getElem_cons_zero, List.getElem_cons_succ, List.setIfInBounds_toArray, List.set_cons_zero, List.set_cons_succ]
  refine wpAnyH_take (i := 2) (v := ?_) rfl (by kernel_rfl) (by kernel_rfl) (by kernel_rfl) (fun _ _ _ h => h) (Or.inl ⟨by rfl, fun w hSw => ?_⟩) hHeld ?_
  rotate_left
  · ((try dsimp only at hSw); go_split_ands; go_simp; (try with_reducible rfl))
  try simp only [Act.put, List.getElem_toArray, List.getElem_cons_zero, List.getElem_cons_succ, List.setIfInBounds_toArray, List.set_cons_zero, List.set_cons_succ]
  refine wpAnyH_ready (rs := [1, 8]) (by kernel_rfl) (by simp) ?_
  refine AllReadyH.cons rfl (fun K hK => ?_) (AllReadyH.cons rfl (fun K hK => ?_) AllReadyH.nil)
  · skip
    try simp only [List.getElem_toArray, List.getElem_cons_zero, List.getElem_cons_succ]
    (go_simp; refine (to_ctr _ a0 _ (hV0.out.below bel)).mono ?_; rintro e uh0 ⟨yh0, rfl, oh0, hBx⟩; have zuh0 : w13.heap.size ≤ uh0.heap.size := (by have := hBx.size; simpa using this); have hS := bgo (w := w13) bel hBx; replace hB := bgo hB hS; replace p0 := p0.next hS; replace p1 := p1.next hS; replace pw := pw.next hS; replace px0 := px0.next hS; replace px1 := px1.next hS; replace pg := pg.next hS; replace Xw := Xw.below hS; replace Xgm := Xgm.below hS; clear hS hBx)
    refine hK.out _ _ (⟨Blk.cell blks, Blk.cell blks⟩) (fun hHeldN => ?_)
    clear hHeld hK K
    have hHeld := hHeldN
    clear hHeldN
    try simp only [Act.put, List.getElem_toArray, List.getElem_cons_zero, List.getElem_cons_succ, List.setIfInBounds_toArray, List.set_cons_zero, List.set_cons_succ]
    refine wpAnyH_ready (rs := [3, 8]) (by kernel_rfl) (by simp) ?_
    refine AllReadyH.cons rfl (fun K hK => ?_) (AllReadyH.cons rfl (fun K hK => ?_) AllReadyH.nil)
    · skip
      try simp only [List.getElem_toArray, List.getElem_cons_zero, List.getElem_cons_succ]
      (go_simp; refine (to_asn _ a1 _ (hV1.out.below bel)).mono ?_; rintro e uh1 ⟨yh1, rfl, oh1, hBx⟩; have zuh1 : uh0.heap.size ≤ uh1.heap.size := (by have := hBx.size; simpa using this); have hS := bgo (w := uh0) bel hBx; replace hB := bgo hB hS; replace p0 := p0.next hS; replace p1 := p1.next hS; replace pw := pw.next hS; replace px0 := px0.next hS; replace px1 := px1.next hS; replace pg := pg.next hS; replace Xw := Xw.below hS; replace Xgm := Xgm.below hS; replace oh0 := oh0.below hS; clear hS hBx)
      refine hK.out _ _ (⟨Blk.cell blks, Blk.cell blks⟩) (fun hHeldN => ?_)
      clear hHeld hK K
      have hHeld := hHeldN
      clear hHeldN
      try simp only [Act.put, List.getElem_toArray, List.getElem_cons_zero, List.getElem_cons_succ, List.setIfInBounds_toArray, List.set_cons_zero, List.set_cons_succ]
      refine wpAnyH_ready (rs := [4, 8]) (by kernel_rfl) (by simp) ?_
      refine AllReadyH.cons rfl (fun K hK => ?_) (AllReadyH.cons rfl (fun K hK => ?_) AllReadyH.nil)
      · skip
        try simp only [List.getElem_toArray, List.getElem_cons_zero, List.getElem_cons_succ]
        (go_simp; refine (c_impl_FrameContract _ _ a0 a1 _ (oh0.below bel).reads (oh1.below bel).reads).mono ?_; rintro e uh2 ⟨rz, rfl, oX, hBx⟩; have zuh2 : uh1.heap.size ≤ uh2.heap.size := (by have := hBx.size; simpa using this); have hS := bgo (w := uh1) bel hBx; replace hB := bgo hB hS; replace p0 := p0.next hS; replace p1 := p1.next hS; replace pw := pw.next hS; replace px0 := px0.next hS; replace px1 := px1.next hS; replace pg := pg.next hS; replace Xw := Xw.below hS; replace Xgm := Xgm.below hS; replace oh0 := oh0.below hS; replace oh1 := oh1.below hS; have oz := oX.lower (base' := uh1.heap.size) (by (try simp) <;> omega); clear oX; clear hS hBx); rw [HD.out] at oz; rw [HSB.out]; replace oz := oz.I; obtain ⟨Ah, ch, Bh, dh, Eh, eh, Fh, fh, Gh, gh, rfl⟩ := oz.form
        refine hK.out _ _ (⟨Blk.cell blks, Blk.cell blks⟩) (fun hHeldN => ?_)
        clear hHeld hK K
        have hHeld := hHeldN
        clear hHeldN
        try simp only [Act.put, List.getElem_toArray, List.getElem_cons_zero, List.getElem_cons_succ, List.setIfInBounds_toArray, List.set_cons_zero, List.set_cons_succ]
        refine wpAnyH_take (i := 5) (v := ?_) rfl (by kernel_rfl) (by kernel_rfl) (by kernel_rfl) (fun _ _ _ h => h) (Or.inl ⟨by rfl, fun w hSw => ?_⟩) hHeld ?_
        rotate_left
        · ((try dsimp only at hSw); go_split_ands; go_simp; (try with_reducible rfl))
        try simp only [Act.put, List.getElem_toArray, List.getElem_cons_zero, List.getElem_cons_succ, List.setIfInBounds_toArray, List.set_cons_zero, List.set_cons_succ]
        refine wpAnyH_take (i := 6) (v := ?_) rfl (by kernel_rfl) (by kernel_rfl) (by kernel_rfl) (fun _ _ _ h => h) (Or.inl ⟨by rfl, fun w hSw => ?_⟩) hHeld ?_
        rotate_left
        · ((try dsimp only at hSw); go_split_ands; go_simp; (try with_reducible rfl))
        try simp only [Act.put, List.getElem_toArray, List.getElem_cons_zero, List.getElem_cons_succ, List.setIfInBounds_toArray, List.set_cons_zero, List.set_cons_succ]
        refine wpAnyH_take (i := 7) (v := ?_) rfl (by kernel_rfl) (by kernel_rfl) (by kernel_rfl) (fun _ _ _ h => h) (Or.inl ⟨by rfl, fun w hSw => ?_⟩) hHeld ?_
        rotate_left
        · ((try dsimp only at hSw); go_split_ands; go_simp; (try with_reducible rfl))
        try simp only [Act.put, List.getElem_toArray, List.getElem_cons_zero, List.getElem_cons_succ, List.setIfInBounds_toArray, List.set_cons_zero, List.set_cons_succ]
        refine wpAnyH_ready (rs := [8]) (by kernel_rfl) (by simp) ?_
        refine AllReadyH.cons rfl (fun K hK => ?_) AllReadyH.nil
        try simp only [List.getElem_toArray, List.getElem_cons_zero, List.getElem_cons_succ]
        go_simp
        refine hK.out _ _ (⟨Blk.cell blks, Blk.cell blks⟩) (fun hHeldN => ?_)
        clear hHeld hK K
        have hHeld := hHeldN
        clear hHeldN
        try simp only [Act.put, List.getElem_toArray, List.getElem_cons_zero, List.getElem_cons_succ, List.setIfInBounds_toArray, List.set_cons_zero, List.set_cons_succ]
        refine wpAnyH_ready (rs := [9]) (by kernel_rfl) (by simp) ?_
        refine AllReadyH.cons rfl (fun K hK => ?_) AllReadyH.nil
        try simp only [List.getElem_toArray, List.getElem_cons_zero, List.getElem_cons_succ]
        go_simp
        refine hK.out _ _ (⟨Blk.cell blks, Blk.cell blks⟩) (fun hHeldN => ?_)
        clear hHeld hK K
        have hHeld := hHeldN
        clear hHeldN
        try simp only [Act.put, List.getElem_toArray, List.getElem_cons_zero, List.getElem_cons_succ, List.setIfInBounds_toArray, List.set_cons_zero, List.set_cons_succ]
        refine wpAnyH_take (i := 10) (v := ?_) rfl (by kernel_rfl) (by kernel_rfl) (by kernel_rfl) (fun _ _ _ h => h) (Or.inl ⟨by rfl, fun w hSw => ?_⟩) hHeld ?_
        rotate_left
        · ((try dsimp only at hSw); go_split_ands; go_simp; (try with_reducible rfl))
        try simp only [Act.put, List.getElem_toArray, List.getElem_cons_zero, List.getElem_cons_succ, List.setIfInBounds_toArray, List.set_cons_zero, List.set_cons_succ]
        refine wpAnyH_done (by kernel_rfl) ?_ _
        refine NoPanic.normal ?_
        refine absThen ?_
        intro V hV
        have f0 : Below w.heap.size w V := by rw [hV]; exact bel
        have fp0 : Blk V (w.heap.size) 58 #[.slice A0 a0.pre.facts.length c0, .slice B0 a0.pre.atoms.length d0, .slice E0 a0.post.facts.length e0, .slice F0 a0.post.atoms.length fz0, .slice G0 a0.changes.length g0] := by rw [hV]; exact blks
        have fp1 : Blk V (w.heap.size + 1) 56 #[.slice A1 a1.facts.length c1, .slice B1 a1.atoms.length d1] := by rw [hV]; exact blks
        have fpw : Blk V (Ps) 62 #[.slice Aw D.pre.facts.length cw, .slice Bw D.pre.atoms.length dw, .slice Ew D.post.facts.length ew, .slice Fw D.post.atoms.length fw, .slice Gw D.changes.length gw] := by rw [hV]; exact blks
        have fpx0 : Blk V (w1.heap.size) 62 #[.slice Ax0 a0.pre.facts.length cx0, .slice Bx0 a0.pre.atoms.length dx0, .slice Ex0 a0.post.facts.length ex0, .slice Fx0 a0.post.atoms.length fx0, .slice Gx0 a0.changes.length gx0] := by rw [hV]; exact blks
        have fpx1 : Blk V (w2.heap.size) 26 #[.slice Ax1 a1.facts.length cx1, .slice Bx1 a1.atoms.length dx1] := by rw [hV]; exact blks
        have fpg : Blk V (w3.heap.size) 62 #[.slice Ag D.pre.facts.length cg, .slice Bg D.pre.atoms.length dg, .slice Eg D.post.facts.length eg, .slice Fg D.post.atoms.length fg, .slice Gg D.changes.length gg] := by rw [hV]; exact blks
        have fv : Blk V (uh2.heap.size) 62 #[.slice Ah D.pre.facts.length ch, .slice Bh D.pre.atoms.length dh, .slice Eh D.post.facts.length eh, .slice Fh D.post.atoms.length fh, .slice Gh D.changes.length gh] := by rw [hV]; exact blks
        have gXw := Xw.below (bbox (Below.refl uh2.heap.size uh2) (.cells #[.slice Ah D.pre.facts.length ch, .slice Bh D.pre.atoms.length dh, .slice Eh D.post.facts.length eh, .slice Fh D.post.atoms.length fh, .slice Gh D.changes.length gh] 62))
        rw [← hV] at gXw
        have gXgm := Xgm.below (bbox (Below.refl uh2.heap.size uh2) (.cells #[.slice Ah D.pre.facts.length ch, .slice Bh D.pre.atoms.length dh, .slice Eh D.post.facts.length eh, .slice Fh D.post.atoms.length fh, .slice Gh D.changes.length gh] 62))
        rw [← hV] at gXgm
        have goz := oz.below (bbox (Below.refl uh2.heap.size uh2) (.cells #[.slice Ah D.pre.facts.length ch, .slice Bh D.pre.atoms.length dh, .slice Eh D.post.facts.length eh, .slice Fh D.post.atoms.length fh, .slice Gh D.changes.length gh] 62))
        rw [← hV] at goz
        obtain ⟨P, hP⟩ : ∃ P, P = uh2.heap.size := ⟨_, rfl⟩
        have zP : w13.heap.size ≤ P := by omega
        have zV : uh2.heap.size ≤ V.heap.size := by rw [hV]; (try simp) <;> omega
        obtain ⟨lo, hlo⟩ : ∃ lo, lo = uh1.heap.size := ⟨_, rfl⟩
        obtain ⟨hi, hhi⟩ : ∃ hi, hi = uh2.heap.size := ⟨_, rfl⟩
        have zlo : w13.heap.size ≤ lo := by omega
        have zhi : hi ≤ V.heap.size := by omega
        have zd : P < lo ∨ hi ≤ P := by omega
        rw [← hlo, ← hhi] at goz
        rw [← hP] at fv ⊢
        clear zV hV hP hlo hhi oz oh0 oh1 zuh0 zuh1 zuh2 hHeld p0 p1 pw px0 px1 pg Xw Xgm hB
        revert V P lo hi yh0 yh1 Ah ch Bh dh Eh eh Fh fh Gh gh f0 fp0 fp1 fpw fpx0 fpx1 fpg fv gXw gXgm goz zP zlo zhi zd
        exact key.out
      · skip
        try simp only [List.getElem_toArray, List.getElem_cons_zero, List.getElem_cons_succ]
        go_simp
        refine hK.out _ _ (⟨Blk.cell blks, Blk.cell blks⟩) (fun hHeldN => ?_)
        clear hHeld hK K
        have hHeld := hHeldN
        clear hHeldN
        try simp only [Act.put, List.getElem_toArray, List.getElem_cons_zero, List.getElem_cons_succ, List.setIfInBounds_toArray, List.set_cons_zero, List.set_cons_succ]
        refine wpAnyH_ready (rs := [4]) (by kernel_rfl) (by simp) ?_
        refine AllReadyH.cons rfl (fun K hK => ?_) AllReadyH.nil
        try simp only [List.getElem_toArray, List.getElem_cons_zero, List.getElem_cons_succ]
        (go_simp; refine (c_impl_FrameContract _ _ a0 a1 _ (oh0.below bel).reads (oh1.below bel).reads).mono ?_; rintro e uh2 ⟨rz, rfl, oX, hBx⟩; have zuh2 : uh1.heap.size + 1 ≤ uh2.heap.size := (by have := hBx.size; simpa using this); have hS := bgo (w := uh1) bel hBx; replace hB := bgo hB hS; replace p0 := p0.next hS; replace p1 := p1.next hS; replace pw := pw.next hS; replace px0 := px0.next hS; replace px1 := px1.next hS; replace pg := pg.next hS; replace Xw := Xw.below hS; replace Xgm := Xgm.below hS; replace oh0 := oh0.below hS; replace oh1 := oh1.below hS; have pv := Blk.next (g := uh1.heap.size) (t := 62) (cs := #[.slice none 0 0, .slice none 0 0, .slice none 0 0, .slice none 0 0, .slice none 0 0]) blks hBx; (replace qpv := pv.cell; replace rpv := pv.frozen; replace lpv := pv.lt); have oz := oX.lower (base' := uh1.heap.size + 1) (by (try simp) <;> omega); clear oX; clear hS hBx); rw [HD.out] at oz; rw [HSB.out]; replace oz := oz.I; obtain ⟨Ah, ch, Bh, dh, Eh, eh, Fh, fh, Gh, gh, rfl⟩ := oz.form
        refine hK.out _ _ (⟨Blk.cell blks, Blk.cell blks⟩) (fun hHeldN => ?_)
        clear hHeld hK K
        have hHeld := hHeldN
        clear hHeldN
        try simp only [Act.put, List.getElem_toArray, List.getElem_cons_zero, List.getElem_cons_succ, List.setIfInBounds_toArray, List.set_cons_zero, List.set_cons_succ]
        refine wpAnyH_take (i := 5) (v := ?_) rfl (by kernel_rfl) (by kernel_rfl) (by kernel_rfl) (fun _ _ _ h => h) (Or.inl ⟨by rfl, fun w hSw => ?_⟩) hHeld ?_
        rotate_left
        · ((try dsimp only at hSw); go_split_ands; go_simp; (try with_reducible rfl))
        try simp only [Act.put, List.getElem_toArray, List.getElem_cons_zero, List.getElem_cons_succ, List.setIfInBounds_toArray, List.set_cons_zero, List.set_cons_succ]
        refine wpAnyH_take (i := 6) (v := ?_) rfl (by kernel_rfl) (by kernel_rfl) (by kernel_rfl) (fun _ _ _ h => h) (Or.inl ⟨by rfl, fun w hSw => ?_⟩) hHeld ?_
        rotate_left
        · ((try dsimp only at hSw); go_split_ands; go_simp; (try with_reducible rfl))
        try simp only [Act.put, List.getElem_toArray, List.getElem_cons_zero, List.getElem_cons_succ, List.setIfInBounds_toArray, List.set_cons_zero, List.set_cons_succ]
        refine wpAnyH_take (i := 7) (v := ?_) rfl (by kernel_rfl) (by kernel_rfl) (by kernel_rfl) (fun _ _ _ h => h) (Or.inl ⟨by rfl, fun w hSw => ?_⟩) hHeld ?_
        rotate_left
        · ((try dsimp only at hSw); go_split_ands; go_simp; (try with_reducible rfl))
        try simp only [Act.put, List.getElem_toArray, List.getElem_cons_zero, List.getElem_cons_succ, List.setIfInBounds_toArray, List.set_cons_zero, List.set_cons_succ]
        refine wpAnyH_ready (rs := [9]) (by kernel_rfl) (by simp) ?_
        refine AllReadyH.cons rfl (fun K hK => ?_) AllReadyH.nil
        try simp only [List.getElem_toArray, List.getElem_cons_zero, List.getElem_cons_succ]
        go_simp
        refine hK.out _ _ (⟨Blk.cell blks, Blk.cell blks⟩) (fun hHeldN => ?_)
        clear hHeld hK K
        have hHeld := hHeldN
        clear hHeldN
        try simp only [Act.put, List.getElem_toArray, List.getElem_cons_zero, List.getElem_cons_succ, List.setIfInBounds_toArray, List.set_cons_zero, List.set_cons_succ]
        refine wpAnyH_take (i := 10) (v := ?_) rfl (by kernel_rfl) (by kernel_rfl) (by kernel_rfl) (fun _ _ _ h => h) (Or.inl ⟨by rfl, fun w hSw => ?_⟩) hHeld ?_
        rotate_left
        · ((try dsimp only at hSw); go_split_ands; go_simp; (try with_reducible rfl))
        try simp only [Act.put, List.getElem_toArray, List.getElem_cons_zero, List.getElem_cons_succ, List.setIfInBounds_toArray, List.set_cons_zero, List.set_cons_succ]
        refine wpAnyH_done (by kernel_rfl) ?_ _
        refine NoPanic.normal ?_
        refine absThen ?_
        intro V hV
        have f0 : Below w.heap.size w V := by rw [hV]; exact bel
        have fp0 : Blk V (w.heap.size) 58 #[.slice A0 a0.pre.facts.length c0, .slice B0 a0.pre.atoms.length d0, .slice E0 a0.post.facts.length e0, .slice F0 a0.post.atoms.length fz0, .slice G0 a0.changes.length g0] := by rw [hV]; exact blks
        have fp1 : Blk V (w.heap.size + 1) 56 #[.slice A1 a1.facts.length c1, .slice B1 a1.atoms.length d1] := by rw [hV]; exact blks
        have fpw : Blk V (Ps) 62 #[.slice Aw D.pre.facts.length cw, .slice Bw D.pre.atoms.length dw, .slice Ew D.post.facts.length ew, .slice Fw D.post.atoms.length fw, .slice Gw D.changes.length gw] := by rw [hV]; exact blks
        have fpx0 : Blk V (w1.heap.size) 62 #[.slice Ax0 a0.pre.facts.length cx0, .slice Bx0 a0.pre.atoms.length dx0, .slice Ex0 a0.post.facts.length ex0, .slice Fx0 a0.post.atoms.length fx0, .slice Gx0 a0.changes.length gx0] := by rw [hV]; exact blks
        have fpx1 : Blk V (w2.heap.size) 26 #[.slice Ax1 a1.facts.length cx1, .slice Bx1 a1.atoms.length dx1] := by rw [hV]; exact blks
        have fpg : Blk V (w3.heap.size) 62 #[.slice Ag D.pre.facts.length cg, .slice Bg D.pre.atoms.length dg, .slice Eg D.post.facts.length eg, .slice Fg D.post.atoms.length fg, .slice Gg D.changes.length gg] := by rw [hV]; exact blks
        have fv : Blk V (uh1.heap.size) 62 #[.slice Ah D.pre.facts.length ch, .slice Bh D.pre.atoms.length dh, .slice Eh D.post.facts.length eh, .slice Fh D.post.atoms.length fh, .slice Gh D.changes.length gh] := by rw [hV]; exact (((((pv.set_ 0 _).set_ 1 _).set_ 2 _).set_ 3 _).set_ 4 _)
        have gXw := ((((((Xw).setT pv (by decide) (by decide) (by decide) 0 (.slice Ah D.pre.facts.length ch)).setT (pv.set_ 0 _) (by decide) (by decide) (by decide) 1 (.slice Bh D.pre.atoms.length dh)).setT ((pv.set_ 0 _).set_ 1 _) (by decide) (by decide) (by decide) 2 (.slice Eh D.post.facts.length eh)).setT (((pv.set_ 0 _).set_ 1 _).set_ 2 _) (by decide) (by decide) (by decide) 3 (.slice Fh D.post.atoms.length fh)).setT ((((pv.set_ 0 _).set_ 1 _).set_ 2 _).set_ 3 _) (by decide) (by decide) (by decide) 4 (.slice Gh D.changes.length gh))
        rw [← hV] at gXw
        have gXgm := ((((((Xgm).setT pv (by decide) (by decide) (by decide) 0 (.slice Ah D.pre.facts.length ch)).setT (pv.set_ 0 _) (by decide) (by decide) (by decide) 1 (.slice Bh D.pre.atoms.length dh)).setT ((pv.set_ 0 _).set_ 1 _) (by decide) (by decide) (by decide) 2 (.slice Eh D.post.facts.length eh)).setT (((pv.set_ 0 _).set_ 1 _).set_ 2 _) (by decide) (by decide) (by decide) 3 (.slice Fh D.post.atoms.length fh)).setT ((((pv.set_ 0 _).set_ 1 _).set_ 2 _).set_ 3 _) (by decide) (by decide) (by decide) 4 (.slice Gh D.changes.length gh))
        rw [← hV] at gXgm
        have goz := ((((((oz).setT pv (by decide) (by decide) (by decide) 0 (.slice Ah D.pre.facts.length ch)).setT (pv.set_ 0 _) (by decide) (by decide) (by decide) 1 (.slice Bh D.pre.atoms.length dh)).setT ((pv.set_ 0 _).set_ 1 _) (by decide) (by decide) (by decide) 2 (.slice Eh D.post.facts.length eh)).setT (((pv.set_ 0 _).set_ 1 _).set_ 2 _) (by decide) (by decide) (by decide) 3 (.slice Fh D.post.atoms.length fh)).setT ((((pv.set_ 0 _).set_ 1 _).set_ 2 _).set_ 3 _) (by decide) (by decide) (by decide) 4 (.slice Gh D.changes.length gh))
        rw [← hV] at goz
        obtain ⟨P, hP⟩ : ∃ P, P = uh1.heap.size := ⟨_, rfl⟩
        have zP : w13.heap.size ≤ P := by omega
        have zV : uh2.heap.size ≤ V.heap.size := by rw [hV]; (try simp) <;> omega
        obtain ⟨lo, hlo⟩ : ∃ lo, lo = uh1.heap.size + 1 := ⟨_, rfl⟩
        obtain ⟨hi, hhi⟩ : ∃ hi, hi = uh2.heap.size := ⟨_, rfl⟩
        have zlo : w13.heap.size ≤ lo := by omega
        have zhi : hi ≤ V.heap.size := by omega
        have zd : P < lo ∨ hi ≤ P := by omega
        rw [← hlo, ← hhi] at goz
        rw [← hP] at fv ⊢
        clear zV hV hP hlo hhi oz oh0 oh1 zuh0 zuh1 zuh2 hHeld p0 p1 pw px0 px1 pg Xw Xgm hB pv qpv rpv lpv
        revert V P lo hi yh0 yh1 Ah ch Bh dh Eh eh Fh fh Gh gh f0 fp0 fp1 fpw fpx0 fpx1 fpg fv gXw gXgm goz zP zlo zhi zd
        exact key.out
    · skip
      try simp only [List.getElem_toArray, List.getElem_cons_zero, List.getElem_cons_succ]
      go_simp
      refine hK.out _ _ (⟨Blk.cell blks, Blk.cell blks⟩) (fun hHeldN => ?_)
      clear hHeld hK K
      have hHeld := hHeldN
      clear hHeldN
      try simp only [Act.put, List.getElem_toArray, List.getElem_cons_zero, List.getElem_cons_succ, List.setIfInBounds_toArray, List.set_cons_zero, List.set_cons_succ]
      refine wpAnyH_ready (rs := [3]) (by kernel_rfl) (by simp) ?_
      refine AllReadyH.cons rfl (fun K hK => ?_) AllReadyH.nil
      try simp only [List.getElem_toArray, List.getElem_cons_zero, List.getElem_cons_succ]
      (go_simp; refine (to_asn _ a1 _ (hV1.out.below bel)).mono ?_; rintro e uh1 ⟨yh1, rfl, oh1, hBx⟩; have zuh1 : uh0.heap.size + 1 ≤ uh1.heap.size := (by have := hBx.size; simpa using this); have hS := bgo (w := uh0) bel hBx; replace hB := bgo hB hS; replace p0 := p0.next hS; replace p1 := p1.next hS; replace pw := pw.next hS; replace px0 := px0.next hS; replace px1 := px1.next hS; replace pg := pg.next hS; replace Xw := Xw.below hS; replace Xgm := Xgm.below hS; replace oh0 := oh0.below hS; have pv := Blk.next (g := uh0.heap.size) (t := 62) (cs := #[.slice none 0 0, .slice none 0 0, .slice none 0 0, .slice none 0 0, .slice none 0 0]) blks hBx; (replace qpv := pv.cell; replace rpv := pv.frozen; replace lpv := pv.lt); clear hS hBx)
      refine hK.out _ _ (⟨Blk.cell blks, Blk.cell blks⟩) (fun hHeldN => ?_)
      clear hHeld hK K
      have hHeld := hHeldN
      clear hHeldN
      try simp only [Act.put, List.getElem_toArray, List.getElem_cons_zero, List.getElem_cons_succ, List.setIfInBounds_toArray, List.set_cons_zero, List.set_cons_succ]
      refine wpAnyH_ready (rs := [4]) (by kernel_rfl) (by simp) ?_
      refine AllReadyH.cons rfl (fun K hK => ?_) AllReadyH.nil
      try simp only [List.getElem_toArray, List.getElem_cons_zero, List.getElem_cons_succ]
      (go_simp; refine (c_impl_FrameContract _ _ a0 a1 _ (oh0.below bel).reads (oh1.below bel).reads).mono ?_; rintro e uh2 ⟨rz, rfl, oX, hBx⟩; have zuh2 : uh1.heap.size ≤ uh2.heap.size := (by have := hBx.size; simpa using this); have hS := bgo (w := uh1) bel hBx; replace hB := bgo hB hS; replace p0 := p0.next hS; replace p1 := p1.next hS; replace pw := pw.next hS; replace px0 := px0.next hS; replace px1 := px1.next hS; replace pg := pg.next hS; replace Xw := Xw.below hS; replace Xgm := Xgm.below hS; replace oh0 := oh0.below hS; replace oh1 := oh1.below hS; replace pv := pv.next hS; (replace qpv := pv.cell; replace rpv := pv.frozen; replace lpv := pv.lt); have oz := oX.lower (base' := uh1.heap.size) (by (try simp) <;> omega); clear oX; clear hS hBx); rw [HD.out] at oz; rw [HSB.out]; replace oz := oz.I; obtain ⟨Ah, ch, Bh, dh, Eh, eh, Fh, fh, Gh, gh, rfl⟩ := oz.form
      refine hK.out _ _ (⟨Blk.cell blks, Blk.cell blks⟩) (fun hHeldN => ?_)
      clear hHeld hK K
      have hHeld := hHeldN
      clear hHeldN
      try simp only [Act.put, List.getElem_toArray, List.getElem_cons_zero, List.getElem_cons_succ, List.setIfInBounds_toArray, List.set_cons_zero, List.set_cons_succ]
      refine wpAnyH_take (i := 5) (v := ?_) rfl (by kernel_rfl) (by kernel_rfl) (by kernel_rfl) (fun _ _ _ h => h) (Or.inl ⟨by rfl, fun w hSw => ?_⟩) hHeld ?_
      rotate_left
      · ((try dsimp only at hSw); go_split_ands; go_simp; (try with_reducible rfl))
      try simp only [Act.put, List.getElem_toArray, List.getElem_cons_zero, List.getElem_cons_succ, List.setIfInBounds_toArray, List.set_cons_zero, List.set_cons_succ]
      refine wpAnyH_take (i := 6) (v := ?_) rfl (by kernel_rfl) (by kernel_rfl) (by kernel_rfl) (fun _ _ _ h => h) (Or.inl ⟨by rfl, fun w hSw => ?_⟩) hHeld ?_
      rotate_left
      · ((try dsimp only at hSw); go_split_ands; go_simp; (try with_reducible rfl))
      try simp only [Act.put, List.getElem_toArray, List.getElem_cons_zero, List.getElem_cons_succ, List.setIfInBounds_toArray, List.set_cons_zero, List.set_cons_succ]
      refine wpAnyH_take (i := 7) (v := ?_) rfl (by kernel_rfl) (by kernel_rfl) (by kernel_rfl) (fun _ _ _ h => h) (Or.inl ⟨by rfl, fun w hSw => ?_⟩) hHeld ?_
      rotate_left
      · ((try dsimp only at hSw); go_split_ands; go_simp; (try with_reducible rfl))
      try simp only [Act.put, List.getElem_toArray, List.getElem_cons_zero, List.getElem_cons_succ, List.setIfInBounds_toArray, List.set_cons_zero, List.set_cons_succ]
      refine wpAnyH_ready (rs := [9]) (by kernel_rfl) (by simp) ?_
      refine AllReadyH.cons rfl (fun K hK => ?_) AllReadyH.nil
      try simp only [List.getElem_toArray, List.getElem_cons_zero, List.getElem_cons_succ]
      go_simp
      refine hK.out _ _ (⟨Blk.cell blks, Blk.cell blks⟩) (fun hHeldN => ?_)
      clear hHeld hK K
      have hHeld := hHeldN
      clear hHeldN
      try simp only [Act.put, List.getElem_toArray, List.getElem_cons_zero, List.getElem_cons_succ, List.setIfInBounds_toArray, List.set_cons_zero, List.set_cons_succ]
      refine wpAnyH_take (i := 10) (v := ?_) rfl (by kernel_rfl) (by kernel_rfl) (by kernel_rfl) (fun _ _ _ h => h) (Or.inl ⟨by rfl, fun w hSw => ?_⟩) hHeld ?_
      rotate_left
      · ((try dsimp only at hSw); go_split_ands; go_simp; (try with_reducible rfl))
      try simp only [Act.put, List.getElem_toArray, List.getElem_cons_zero, List.getElem_cons_succ, List.setIfInBounds_toArray, List.set_cons_zero, List.set_cons_succ]
      refine wpAnyH_done (by kernel_rfl) ?_ _
      refine NoPanic.normal ?_
      refine absThen ?_
      intro V hV
      have f0 : Below w.heap.size w V := by rw [hV]; exact bel
      have fp0 : Blk V (w.heap.size) 58 #[.slice A0 a0.pre.facts.length c0, .slice B0 a0.pre.atoms.length d0, .slice E0 a0.post.facts.length e0, .slice F0 a0.post.atoms.length fz0, .slice G0 a0.changes.length g0] := by rw [hV]; exact blks
      have fp1 : Blk V (w.heap.size + 1) 56 #[.slice A1 a1.facts.length c1, .slice B1 a1.atoms.length d1] := by rw [hV]; exact blks
      have fpw : Blk V (Ps) 62 #[.slice Aw D.pre.facts.length cw, .slice Bw D.pre.atoms.length dw, .slice Ew D.post.facts.length ew, .slice Fw D.post.atoms.length fw, .slice Gw D.changes.length gw] := by rw [hV]; exact blks
      have fpx0 : Blk V (w1.heap.size) 62 #[.slice Ax0 a0.pre.facts.length cx0, .slice Bx0 a0.pre.atoms.length dx0, .slice Ex0 a0.post.facts.length ex0, .slice Fx0 a0.post.atoms.length fx0, .slice Gx0 a0.changes.length gx0] := by rw [hV]; exact blks
      have fpx1 : Blk V (w2.heap.size) 26 #[.slice Ax1 a1.facts.length cx1, .slice Bx1 a1.atoms.length dx1] := by rw [hV]; exact blks
      have fpg : Blk V (w3.heap.size) 62 #[.slice Ag D.pre.facts.length cg, .slice Bg D.pre.atoms.length dg, .slice Eg D.post.facts.length eg, .slice Fg D.post.atoms.length fg, .slice Gg D.changes.length gg] := by rw [hV]; exact blks
      have fv : Blk V (uh0.heap.size) 62 #[.slice Ah D.pre.facts.length ch, .slice Bh D.pre.atoms.length dh, .slice Eh D.post.facts.length eh, .slice Fh D.post.atoms.length fh, .slice Gh D.changes.length gh] := by rw [hV]; exact (((((pv.set_ 0 _).set_ 1 _).set_ 2 _).set_ 3 _).set_ 4 _)
      have gXw := ((((((Xw).setT pv (by decide) (by decide) (by decide) 0 (.slice Ah D.pre.facts.length ch)).setT (pv.set_ 0 _) (by decide) (by decide) (by decide) 1 (.slice Bh D.pre.atoms.length dh)).setT ((pv.set_ 0 _).set_ 1 _) (by decide) (by decide) (by decide) 2 (.slice Eh D.post.facts.length eh)).setT (((pv.set_ 0 _).set_ 1 _).set_ 2 _) (by decide) (by decide) (by decide) 3 (.slice Fh D.post.atoms.length fh)).setT ((((pv.set_ 0 _).set_ 1 _).set_ 2 _).set_ 3 _) (by decide) (by decide) (by decide) 4 (.slice Gh D.changes.length gh))
      rw [← hV] at gXw
      have gXgm := ((((((Xgm).setT pv (by decide) (by decide) (by decide) 0 (.slice Ah D.pre.facts.length ch)).setT (pv.set_ 0 _) (by decide) (by decide) (by decide) 1 (.slice Bh D.pre.atoms.length dh)).setT ((pv.set_ 0 _).set_ 1 _) (by decide) (by decide) (by decide) 2 (.slice Eh D.post.facts.length eh)).setT (((pv.set_ 0 _).set_ 1 _).set_ 2 _) (by decide) (by decide) (by decide) 3 (.slice Fh D.post.atoms.length fh)).setT ((((pv.set_ 0 _).set_ 1 _).set_ 2 _).set_ 3 _) (by decide) (by decide) (by decide) 4 (.slice Gh D.changes.length gh))
      rw [← hV] at gXgm
      have goz := ((((((oz).setT pv (by decide) (by decide) (by decide) 0 (.slice Ah D.pre.facts.length ch)).setT (pv.set_ 0 _) (by decide) (by decide) (by decide) 1 (.slice Bh D.pre.atoms.length dh)).setT ((pv.set_ 0 _).set_ 1 _) (by decide) (by decide) (by decide) 2 (.slice Eh D.post.facts.length eh)).setT (((pv.set_ 0 _).set_ 1 _).set_ 2 _) (by decide) (by decide) (by decide) 3 (.slice Fh D.post.atoms.length fh)).setT ((((pv.set_ 0 _).set_ 1 _).set_ 2 _).set_ 3 _) (by decide) (by decide) (by decide) 4 (.slice Gh D.changes.length gh))
      rw [← hV] at goz
      obtain ⟨P, hP⟩ : ∃ P, P = uh0.heap.size := ⟨_, rfl⟩
      have zP : w13.heap.size ≤ P := by omega
      have zV : uh2.heap.size ≤ V.heap.size := by rw [hV]; (try simp) <;> omega
      obtain ⟨lo, hlo⟩ : ∃ lo, lo = uh1.heap.size := ⟨_, rfl⟩
      obtain ⟨hi, hhi⟩ : ∃ hi, hi = uh2.heap.size := ⟨_, rfl⟩
      have zlo : w13.heap.size ≤ lo := by omega
      have zhi : hi ≤ V.heap.size := by omega
      have zd : P < lo ∨ hi ≤ P := by omega
      rw [← hlo, ← hhi] at goz
      rw [← hP] at fv ⊢
      clear zV hV hP hlo hhi oz oh0 oh1 zuh0 zuh1 zuh2 hHeld p0 p1 pw px0 px1 pg Xw Xgm hB pv qpv rpv lpv
      revert V P lo hi yh0 yh1 Ah ch Bh dh Eh eh Fh fh Gh gh f0 fp0 fp1 fpw fpx0 fpx1 fpg fv gXw gXgm goz zP zlo zhi zd
      exact key.out
  · skip
    try simp only [List.getElem_toArray, List.getElem_cons_zero, List.getElem_cons_succ]
    go_simp
    refine hK.out _ _ (⟨Blk.cell blks, Blk.cell blks⟩) (fun hHeldN => ?_)
    clear hHeld hK K
    have hHeld := hHeldN
    clear hHeldN
    try simp only [Act.put, List.getElem_toArray, List.getElem_cons_zero, List.getElem_cons_succ, List.setIfInBounds_toArray, List.set_cons_zero, List.set_cons_succ]
    refine wpAnyH_ready (rs := [1]) (by kernel_rfl) (by simp) ?_
    refine AllReadyH.cons rfl (fun K hK => ?_) AllReadyH.nil
    try simp only [List.getElem_toArray, List.getElem_cons_zero, List.getElem_cons_succ]
    (go_simp; refine (to_ctr _ a0 _ (hV0.out.below bel)).mono ?_; rintro e uh0 ⟨yh0, rfl, oh0, hBx⟩; have zuh0 : w13.heap.size + 1 ≤ uh0.heap.size := (by have := hBx.size; simpa using this); have hS := bgo (w := w13) bel hBx; replace hB := bgo hB hS; replace p0 := p0.next hS; replace p1 := p1.next hS; replace pw := pw.next hS; replace px0 := px0.next hS; replace px1 := px1.next hS; replace pg := pg.next hS; replace Xw := Xw.below hS; replace Xgm := Xgm.below hS; have pv := Blk.next (g := w13.heap.size) (t := 62) (cs := #[.slice none 0 0, .slice none 0 0, .slice none 0 0, .slice none 0 0, .slice none 0 0]) blks hBx; (replace qpv := pv.cell; replace rpv := pv.frozen; replace lpv := pv.lt); clear hS hBx)
    refine hK.out _ _ (⟨Blk.cell blks, Blk.cell blks⟩) (fun hHeldN => ?_)
    clear hHeld hK K
    have hHeld := hHeldN
    clear hHeldN
    try simp only [Act.put, List.getElem_toArray, List.getElem_cons_zero, List.getElem_cons_succ, List.setIfInBounds_toArray, List.set_cons_zero, List.set_cons_succ]
    refine wpAnyH_ready (rs := [3]) (by kernel_rfl) (by simp) ?_
    refine AllReadyH.cons rfl (fun K hK => ?_) AllReadyH.nil
    try simp only [List.getElem_toArray, List.getElem_cons_zero, List.getElem_cons_succ]
    (go_simp; refine (to_asn _ a1 _ (hV1.out.below bel)).mono ?_; rintro e uh1 ⟨yh1, rfl, oh1, hBx⟩; have zuh1 : uh0.heap.size ≤ uh1.heap.size := (by have := hBx.size; simpa using this); have hS := bgo (w := uh0) bel hBx; replace hB := bgo hB hS; replace p0 := p0.next hS; replace p1 := p1.next hS; replace pw := pw.next hS; replace px0 := px0.next hS; replace px1 := px1.next hS; replace pg := pg.next hS; replace Xw := Xw.below hS; replace Xgm := Xgm.below hS; replace oh0 := oh0.below hS; replace pv := pv.next hS; (replace qpv := pv.cell; replace rpv := pv.frozen; replace lpv := pv.lt); clear hS hBx)
    refine hK.out _ _ (⟨Blk.cell blks, Blk.cell blks⟩) (fun hHeldN => ?_)
    clear hHeld hK K
    have hHeld := hHeldN
    clear hHeldN
    try simp only [Act.put, List.getElem_toArray, List.getElem_cons_zero, List.getElem_cons_succ, List.setIfInBounds_toArray, List.set_cons_zero, List.set_cons_succ]
    refine wpAnyH_ready (rs := [4]) (by kernel_rfl) (by simp) ?_
    refine AllReadyH.cons rfl (fun K hK => ?_) AllReadyH.nil
    try simp only [List.getElem_toArray, List.getElem_cons_zero, List.getElem_cons_succ]
    (go_simp; refine (c_impl_FrameContract _ _ a0 a1 _ (oh0.below bel).reads (oh1.below bel).reads).mono ?_; rintro e uh2 ⟨rz, rfl, oX, hBx⟩; have zuh2 : uh1.heap.size ≤ uh2.heap.size := (by have := hBx.size; simpa using this); have hS := bgo (w := uh1) bel hBx; replace hB := bgo hB hS; replace p0 := p0.next hS; replace p1 := p1.next hS; replace pw := pw.next hS; replace px0 := px0.next hS; replace px1 := px1.next hS; replace pg := pg.next hS; replace Xw := Xw.below hS; replace Xgm := Xgm.below hS; replace oh0 := oh0.below hS; replace oh1 := oh1.below hS; replace pv := pv.next hS; (replace qpv := pv.cell; replace rpv := pv.frozen; replace lpv := pv.lt); have oz := oX.lower (base' := uh1.heap.size) (by (try simp) <;> omega); clear oX; clear hS hBx); rw [HD.out] at oz; rw [HSB.out]; replace oz := oz.I; obtain ⟨Ah, ch, Bh, dh, Eh, eh, Fh, fh, Gh, gh, rfl⟩ := oz.form
    refine hK.out _ _ (⟨Blk.cell blks, Blk.cell blks⟩) (fun hHeldN => ?_)
    clear hHeld hK K
    have hHeld := hHeldN
    clear hHeldN
    try simp only [Act.put, List.getElem_toArray, List.getElem_cons_zero, List.getElem_cons_succ, List.setIfInBounds_toArray, List.set_cons_zero, List.set_cons_succ]
    refine wpAnyH_take (i := 5) (v := ?_) rfl (by kernel_rfl) (by kernel_rfl) (by kernel_rfl) (fun _ _ _ h => h) (Or.inl ⟨by rfl, fun w hSw => ?_⟩) hHeld ?_
    rotate_left
    · ((try dsimp only at hSw); go_split_ands; go_simp; (try with_reducible rfl))
    try simp only [Act.put, List.getElem_toArray, List.getElem_cons_zero, List.getElem_cons_succ, List.setIfInBounds_toArray, List.set_cons_zero, List.set_cons_succ]
    refine wpAnyH_take (i := 6) (v := ?_) rfl (by kernel_rfl) (by kernel_rfl) (by kernel_rfl) (fun _ _ _ h => h) (Or.inl ⟨by rfl, fun w hSw => ?_⟩) hHeld ?_
    rotate_left
    · ((try dsimp only at hSw); go_split_ands; go_simp; (try with_reducible rfl))
    try simp only [Act.put, List.getElem_toArray, List.getElem_cons_zero, List.getElem_cons_succ, List.setIfInBounds_toArray, List.set_cons_zero, List.set_cons_succ]
    refine wpAnyH_take (i := 7) (v := ?_) rfl (by kernel_rfl) (by kernel_rfl) (by kernel_rfl) (fun _ _ _ h => h) (Or.inl ⟨by rfl, fun w hSw => ?_⟩) hHeld ?_
    rotate_left
    · ((try dsimp only at hSw); go_split_ands; go_simp; (try with_reducible rfl))
    try simp only [Act.put, List.getElem_toArray, List.getElem_cons_zero, List.getElem_cons_succ, List.setIfInBounds_toArray, List.set_cons_zero, List.set_cons_succ]
    refine wpAnyH_ready (rs := [9]) (by kernel_rfl) (by simp) ?_
    refine AllReadyH.cons rfl (fun K hK => ?_) AllReadyH.nil
    try simp only [List.getElem_toArray, List.getElem_cons_zero, List.getElem_cons_succ]
    go_simp
    refine hK.out _ _ (⟨Blk.cell blks, Blk.cell blks⟩) (fun hHeldN => ?_)
    clear hHeld hK K
    have hHeld := hHeldN
    clear hHeldN
    try simp only [Act.put, List.getElem_toArray, List.getElem_cons_zero, List.getElem_cons_succ, List.setIfInBounds_toArray, List.set_cons_zero, List.set_cons_succ]
    refine wpAnyH_take (i := 10) (v := ?_) rfl (by kernel_rfl) (by kernel_rfl) (by kernel_rfl) (fun _ _ _ h => h) (Or.inl ⟨by rfl, fun w hSw => ?_⟩) hHeld ?_
    rotate_left
    · ((try dsimp only at hSw); go_split_ands; go_simp; (try with_reducible rfl))
    try simp only [Act.put, List.getElem_toArray, List.getElem_cons_zero, List.getElem_cons_succ, List.setIfInBounds_toArray, List.set_cons_zero, List.set_cons_succ]
    refine wpAnyH_done (by kernel_rfl) ?_ _
    refine NoPanic.normal ?_
    refine absThen ?_
    intro V hV
    have f0 : Below w.heap.size w V := by rw [hV]; exact bel
    have fp0 : Blk V (w.heap.size) 58 #[.slice A0 a0.pre.facts.length c0, .slice B0 a0.pre.atoms.length d0, .slice E0 a0.post.facts.length e0, .slice F0 a0.post.atoms.length fz0, .slice G0 a0.changes.length g0] := by rw [hV]; exact blks
    have fp1 : Blk V (w.heap.size + 1) 56 #[.slice A1 a1.facts.length c1, .slice B1 a1.atoms.length d1] := by rw [hV]; exact blks
    have fpw : Blk V (Ps) 62 #[.slice Aw D.pre.facts.length cw, .slice Bw D.pre.atoms.length dw, .slice Ew D.post.facts.length ew, .slice Fw D.post.atoms.length fw, .slice Gw D.changes.length gw] := by rw [hV]; exact blks
    have fpx0 : Blk V (w1.heap.size) 62 #[.slice Ax0 a0.pre.facts.length cx0, .slice Bx0 a0.pre.atoms.length dx0, .slice Ex0 a0.post.facts.length ex0, .slice Fx0 a0.post.atoms.length fx0, .slice Gx0 a0.changes.length gx0] := by rw [hV]; exact blks
    have fpx1 : Blk V (w2.heap.size) 26 #[.slice Ax1 a1.facts.length cx1, .slice Bx1 a1.atoms.length dx1] := by rw [hV]; exact blks
    have fpg : Blk V (w3.heap.size) 62 #[.slice Ag D.pre.facts.length cg, .slice Bg D.pre.atoms.length dg, .slice Eg D.post.facts.length eg, .slice Fg D.post.atoms.length fg, .slice Gg D.changes.length gg] := by rw [hV]; exact blks
    have fv : Blk V (w13.heap.size) 62 #[.slice Ah D.pre.facts.length ch, .slice Bh D.pre.atoms.length dh, .slice Eh D.post.facts.length eh, .slice Fh D.post.atoms.length fh, .slice Gh D.changes.length gh] := by rw [hV]; exact (((((pv.set_ 0 _).set_ 1 _).set_ 2 _).set_ 3 _).set_ 4 _)
    have gXw := ((((((Xw).setT pv (by decide) (by decide) (by decide) 0 (.slice Ah D.pre.facts.length ch)).setT (pv.set_ 0 _) (by decide) (by decide) (by decide) 1 (.slice Bh D.pre.atoms.length dh)).setT ((pv.set_ 0 _).set_ 1 _) (by decide) (by decide) (by decide) 2 (.slice Eh D.post.facts.length eh)).setT (((pv.set_ 0 _).set_ 1 _).set_ 2 _) (by decide) (by decide) (by decide) 3 (.slice Fh D.post.atoms.length fh)).setT ((((pv.set_ 0 _).set_ 1 _).set_ 2 _).set_ 3 _) (by decide) (by decide) (by decide) 4 (.slice Gh D.changes.length gh))
    rw [← hV] at gXw
    have gXgm := ((((((Xgm).setT pv (by decide) (by decide) (by decide) 0 (.slice Ah D.pre.facts.length ch)).setT (pv.set_ 0 _) (by decide) (by decide) (by decide) 1 (.slice Bh D.pre.atoms.length dh)).setT ((pv.set_ 0 _).set_ 1 _) (by decide) (by decide) (by decide) 2 (.slice Eh D.post.facts.length eh)).setT (((pv.set_ 0 _).set_ 1 _).set_ 2 _) (by decide) (by decide) (by decide) 3 (.slice Fh D.post.atoms.length fh)).setT ((((pv.set_ 0 _).set_ 1 _).set_ 2 _).set_ 3 _) (by decide) (by decide) (by decide) 4 (.slice Gh D.changes.length gh))
    rw [← hV] at gXgm
    have goz := ((((((oz).setT pv (by decide) (by decide) (by decide) 0 (.slice Ah D.pre.facts.length ch)).setT (pv.set_ 0 _) (by decide) (by decide) (by decide) 1 (.slice Bh D.pre.atoms.length dh)).setT ((pv.set_ 0 _).set_ 1 _) (by decide) (by decide) (by decide) 2 (.slice Eh D.post.facts.length eh)).setT (((pv.set_ 0 _).set_ 1 _).set_ 2 _) (by decide) (by decide) (by decide) 3 (.slice Fh D.post.atoms.length fh)).setT ((((pv.set_ 0 _).set_ 1 _).set_ 2 _).set_ 3 _) (by decide) (by decide) (by decide) 4 (.slice Gh D.changes.length gh))
    rw [← hV] at goz
    obtain ⟨P, hP⟩ : ∃ P, P = w13.heap.size := ⟨_, rfl⟩
    have zP : w13.heap.size ≤ P := by omega
    have zV : uh2.heap.size ≤ V.heap.size := by rw [hV]; (try simp) <;> omega
    obtain ⟨lo, hlo⟩ : ∃ lo, lo = uh1.heap.size := ⟨_, rfl⟩
    obtain ⟨hi, hhi⟩ : ∃ hi, hi = uh2.heap.size := ⟨_, rfl⟩
    have zlo : w13.heap.size ≤ lo := by omega
    have zhi : hi ≤ V.heap.size := by omega
    have zd : P < lo ∨ hi ≤ P := by omega
    rw [← hlo, ← hhi] at goz
    rw [← hP] at fv ⊢
    clear zV hV hP hlo hhi oz oh0 oh1 zuh0 zuh1 zuh2 hHeld p0 p1 pw px0 px1 pg Xw Xgm hB pv qpv rpv lpv
    revert V P lo hi yh0 yh1 Ah ch Bh dh Eh eh Fh fh Gh gh f0 fp0 fp1 fpw fpx0 fpx1 fpg fv gXw gXgm goz zP zlo zhi zd
    exact key.out
  skip
  intro yh0 yh1 Ah ch Bh dh Eh eh Fh fh Gh gh Wh hB2 fp0 fp1 fpw fpx0 fpx1 fpg gXw gXgm Ph ph zWhp lh hh Xh zWhlo zWhhi zWhd
  replace p0 := fp0
  clear fp0
  replace p1 := fp1
  clear fp1
  replace pw := fpw
  clear fpw
  replace px0 := fpx0
  clear fpx0
  replace px1 := fpx1
  clear fpx1
  replace pg := fpg
  clear fpg
  replace Xw := gXw
  clear gXw
  replace Xgm := gXgm
  clear gXgm
  clear hB
  have hB := hB2
  clear hB2
  (replace qp0 := p0.cell; replace rp0 := p0.frozen; replace lp0 := p0.lt)
  (replace qp1 := p1.cell; replace rp1 := p1.frozen; replace lp1 := p1.lt)
  (replace qpw := pw.cell; replace rpw := pw.frozen; replace lpw := pw.lt)
  (replace qpx0 := px0.cell; replace rpx0 := px0.frozen; replace lpx0 := px0.lt)
  (replace qpx1 := px1.cell; replace rpx1 := px1.frozen; replace lpx1 := px1.lt)
  (replace qpg := pg.cell; replace rpg := pg.frozen; replace lpg := pg.lt)
  (replace qph := ph.cell; replace rph := ph.frozen; replace lph := ph.lt)
  have zWhl := lph
  go_wp2_with fail
  refine (t_ctr _ _ D _ (Xh.below bel).reads (Xw.below bel).reads).mono ?_
  rintro e w14 ⟨rfl, hBx⟩
  have hS := bgo (w := Wh) bel hBx
  have zw14 := hBx.size
  replace hB := bgo hB hS
  replace p0 := p0.next hS
  replace p1 := p1.next hS
  replace pw := pw.next hS
  replace px0 := px0.next hS
  replace px1 := px1.next hS
  replace pg := pg.next hS
  replace ph := ph.next hS
  replace Xw := Xw.below hS
  replace Xgm := Xgm.below hS
  replace Xh := Xh.below hS
  clear hS hBx
  (replace qp0 := p0.cell; replace rp0 := p0.frozen; replace lp0 := p0.lt)
  (replace qp1 := p1.cell; replace rp1 := p1.frozen; replace lp1 := p1.lt)
  (replace qpw := pw.cell; replace rpw := pw.frozen; replace lpw := pw.lt)
  (replace qpx0 := px0.cell; replace rpx0 := px0.frozen; replace lpx0 := px0.lt)
  (replace qpx1 := px1.cell; replace rpx1 := px1.frozen; replace lpx1 := px1.lt)
  (replace qpg := pg.cell; replace rpg := pg.frozen; replace lpg := pg.lt)
  (replace qph := ph.cell; replace rph := ph.frozen; replace lph := ph.lt)
  go_wp2_with fail
  refine (h_ctr D 1 _ (Xgm.below bel) (by omega) (by omega)).mono ?_
  rintro e w15 ⟨rfl, hBx⟩
  have hS := bgo (w := w14) bel hBx
  have zw15 := hBx.size
  replace hB := bgo hB hS
  replace p0 := p0.next hS
  replace p1 := p1.next hS
  replace pw := pw.next hS
  replace px0 := px0.next hS
  replace px1 := px1.next hS
  replace pg := pg.next hS
  replace ph := ph.next hS
  replace Xw := Xw.below hS
  replace Xgm := Xgm.below hS
  replace Xh := Xh.below hS
  clear hS hBx
  (replace qp0 := p0.cell; replace rp0 := p0.frozen; replace lp0 := p0.lt)
  (replace qp1 := p1.cell; replace rp1 := p1.frozen; replace lp1 := p1.lt)
  (replace qpw := pw.cell; replace rpw := pw.frozen; replace lpw := pw.lt)
  (replace qpx0 := px0.cell; replace rpx0 := px0.frozen; replace lpx0 := px0.lt)
  (replace qpx1 := px1.cell; replace rpx1 := px1.frozen; replace lpx1 := px1.lt)
  (replace qpg := pg.cell; replace rpg := pg.frozen; replace lpg := pg.lt)
  (replace qph := ph.cell; replace rph := ph.frozen; replace lph := ph.lt)
  go_wp2_with fail
  go_ret
  exact ⟨rfl, hB⟩
end Go.Proofs.Ytmjgcdolnkdfoaa
