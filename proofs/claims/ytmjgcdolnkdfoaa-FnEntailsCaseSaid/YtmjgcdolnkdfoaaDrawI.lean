/- What the reader draws: the arguments of Entails and of FailingCase. -/
import Derived.Test.YtmjgcdolnkdfoaaDrawH
import Derived.Test.YtmjgcdolnkdfoaaDrawD
set_option linter.unusedSimpArgs false
set_option linter.unusedVariables false
namespace Go.Proofs.Ytmjgcdolnkdfoaa
open Go Go.RowKit Go.Proofs
attribute [local go_sem ↓] Go.wp_at_zero Go.wp_at_succ

--@ spec.DrawEntails
theorem AsnV.frI {g lo hi : Nat} {a b : World} {v : Value} {x : Asn} (h : AsnV a lo hi v x) (hf : Fr g a b) (hg : g < lo) : AsnV b lo hi v x := by
  obtain ⟨A1, c1, A2, c2, e, h1, h2⟩ := h
  exact ⟨A1, c1, A2, c2, e, Rd.fr h1 hf (Or.inl hg), Rd.fr h2 hf (Or.inl hg)⟩
theorem AsnV.keepI {lo hi B : Nat} {w w' : World} {v : Value} {x : Asn} (h : AsnV w lo hi v x) (hb : Below B w w') (hh : hi ≤ B) : AsnV w' lo hi v x := by
  obtain ⟨A1, c1, A2, c2, e, h1, h2⟩ := h
  exact ⟨A1, c1, A2, c2, e, h1.keepB hb hh, h2.keepB hb hh⟩
theorem AsnO.readsI2 {w : World} {b : Nat} {v : Value} {x : Asn} (h : AsnO w b v x) : AsnV w b w.heap.size v x := AsnO.reads h
set_option maxRecDepth 100000 in
set_option maxHeartbeats 12800000 in
theorem c_DrawEntails (A : Option Addr) (n c : Nat) (w : World) (h : BytesR w A n c) :
    Calls Try.prog 83 #[.slice A n c] w fun e w' => ∃ r1 r2 a b, e = .returned (.tuple #[r1, r2]) ∧ AsnO w' w.heap.size r1 a ∧ AsnO w' w.heap.size r2 b ∧ Below w.heap.size w w' := by
  have HR0 : Hid (BytesR ((w.alloc (.cells #[.slice none 0 0, .slice none 0 0] tAs)).alloc (.cells #[.slice none 0 0, .slice none 0 0] tAs)) A n c) := by
    obtain ⟨bs, h1, h2, h3⟩ := h
    exact ⟨bs, h1, (h2.below (bbox (bbox (Below.refl _ _) _) _)).mono (Nat.le_refl _) (by simp; omega), h3⟩
  clear h
  go_enter Try.func83, Try.ntmps83
  have k0 : Blk ((w.alloc (.cells #[.slice none 0 0, .slice none 0 0] tAs)).alloc (.cells #[.slice none 0 0, .slice none 0 0] tAs)) w.heap.size tAs #[.slice none 0 0, .slice none 0 0] := blks
  have k1 : Blk ((w.alloc (.cells #[.slice none 0 0, .slice none 0 0] tAs)).alloc (.cells #[.slice none 0 0, .slice none 0 0] tAs)) (w.heap.size + 1) tAs #[.slice none 0 0, .slice none 0 0] := blks
  have hB0 : Below w.heap.size w ((w.alloc (.cells #[.slice none 0 0, .slice none 0 0] tAs)).alloc (.cells #[.slice none 0 0, .slice none 0 0] tAs)) := bel
  have hs0 : w.heap.size + 2 ≤ ((w.alloc (.cells #[.slice none 0 0, .slice none 0 0] tAs)).alloc (.cells #[.slice none 0 0, .slice none 0 0] tAs)).heap.size := by simp
  go_wp2_with fail
  generalize ((w.alloc (.cells #[.slice none 0 0, .slice none 0 0] tAs)).alloc (.cells #[.slice none 0 0, .slice none 0 0] tAs)) = W0 at k0 k1 hB0 hs0 HR0 ⊢
  refine (c_l18Open A n c _ HR0.out).mono ?_
  rintro e w1 ⟨g, rfl, hg, hR, hB1⟩
  replace k0 := k0.next hB1
  replace k1 := k1.next hB1
  have HB1 := Lib.hid (bgo hB0 hB1)
  have HR1 := Lib.hid hR
  have lg := hR.lt
  have hgw : w.heap.size + 1 < g := by omega
  clear hR hB1 HR0 hB0 hs0 hg
  go_wp2_with fail
  refine (c_l6Chains g 0 _ HR1.out (by omega)).mono ?_
  rintro e w2 ⟨r2, a2, q2, rfl, o2, -, hl2, hl3, hR, hq, hF⟩
  replace k0 := k0.fr hF (by omega)
  replace k1 := k1.fr hF (by omega)
  have hz2 := hF.size
  have hav := AsnO.readsI2 o2
  obtain ⟨F2, f2, G2, g2, rfl, -, -⟩ := id hav
  obtain ⟨X, hX⟩ : ∃ X, X = w2.heap.size := ⟨_, rfl⟩
  have kx : Blk (w2.alloc (.cells #[.slice F2 a2.facts.length f2, .slice G2 a2.atoms.length g2] tAs)) X tAs #[.slice F2 a2.facts.length f2, .slice G2 a2.atoms.length g2] := by rw [hX]; exact Blk.new _ _ _
  have hBx : Below w2.heap.size w2 (w2.alloc (.cells #[.slice F2 a2.facts.length f2, .slice G2 a2.atoms.length g2] tAs)) := bbox (Below.refl _ _) _
  replace k0 := k0.next hBx
  replace k1 := k1.next hBx
  have HF := Lib.hid (hF.go hBx)
  have HR := Lib.hid (hR.below hBx)
  have HA := Lib.hid (hav.below hBx)
  have hsx : w2.heap.size + 1 ≤ (w2.alloc (.cells #[.slice F2 a2.facts.length f2, .slice G2 a2.atoms.length g2] tAs)).heap.size := by simp
  have hX2 : w2.heap.size ≤ X := by omega
  clear hR hF hBx o2 hav HR1
  go_wp2_with fail
  rw [← hX]
  generalize (w2.alloc (.cells #[.slice F2 a2.facts.length f2, .slice G2 a2.atoms.length g2] tAs)) = W2 at k0 k1 kx HF HR HA hsx ⊢
  have hlA : a2.facts.length ≤ 20 ∧ a2.atoms.length ≤ 20 := by omega
  have hXl : X < W2.heap.size := by omega
  clear hX hl2 hl3
  obtain ⟨hiA, hhA⟩ : ∃ hiA, hiA = w2.heap.size := ⟨_, rfl⟩
  rw [← hhA] at HA
  have hhX : hiA ≤ X := by omega
  have hw1X : w1.heap.size ≤ X := by omega
  clear hhA hsx hX2 hz2
  refine (c_pick g q2 3 _ HR.out (by omega)).mono ?_
  rintro e w3 ⟨m3, rfl, -, hR, hF⟩
  replace k0 := k0.fr hF (by omega)
  replace k1 := k1.fr hF (by omega)
  replace kx := kx.fr hF (by omega)
  replace HF := Lib.hid (HF.out.trans hF)
  replace HA := Lib.hid (HA.out.frI hF lg)
  have hsw3 := hF.size
  replace HR := Lib.hid hR
  obtain ⟨q, hqe⟩ : ∃ q, q = q2 + 1 := ⟨_, rfl⟩
  rw [← hqe] at HR
  replace hq : q ≤ 40 := by omega
  clear hqe hR hF
  by_cases hm3 : (m3 : Int) = 0
  · have hm3b : ((m3 : Int) == 0) = true := by simpa using hm3
    clear hm3
    go_wp2_with fail
    refine (c_l3Draw g q _ HR.out (by omega)).mono ?_
    rintro e w5' ⟨r4, a4, q4, rfl, o4, -, hl4, hl4', hR, hq4, hF⟩
    replace k0 := k0.fr hF (by omega)
    replace k1 := k1.fr hF (by omega)
    have kX := kx.fr hF (by omega)
    replace HF := Lib.hid (HF.out.trans hF)
    have hsw5 := hF.size
    have hlX := kX.lt
    obtain ⟨fv4, av4, rfl, o41, o42⟩ := o4
    obtain ⟨F4, f4, rfl, -⟩ := o41.reads
    obtain ⟨G4, g4, rfl, -⟩ := o42.reads
    obtain ⟨w5, hw5⟩ : ∃ w5, w5 = (w5'.setCell ⟨X, 0, none⟩ (.slice F4 a4.facts.length f4)).setCell ⟨X, 1, none⟩ (.slice G4 a4.atoms.length g4) := ⟨_, rfl⟩
    have hBz : Below X w5' w5 := by rw [hw5]; exact (Below.setCell (p := ⟨X, 0, none⟩) (Below.refl _ _) (Nat.le_refl _) _).setCell (p := ⟨X, 1, none⟩) (Nat.le_refl _) _
    have hswz : w3.heap.size ≤ w5.heap.size := Nat.le_trans hsw5 hBz.size
    (replace qkX := kX.cell; replace rkX := kX.frozen; replace lkX := kX.lt)
    have kX4 : Blk w5 X tAs #[.slice F4 a4.facts.length f4, .slice G4 a4.atoms.length g4] := by rw [hw5]; simpa using (kX.set_ 0 (.slice F4 a4.facts.length f4)).set_ 1 (.slice G4 a4.atoms.length g4)
    have o1 : FactsO w5 w3.heap.size (.slice F4 a4.facts.length f4) a4.facts := by rw [hw5]; exact (o41.setT kX (by decide) 0 _).setT (kX.set_ 0 _) (by decide) 1 _
    have o2 : AtomsO w5 w3.heap.size (.slice G4 a4.atoms.length g4) a4.atoms := by rw [hw5]; exact (o42.setT kX (by decide) 0 _).setT (kX.set_ 0 _) (by decide) 1 _
    have HN : Hid (AsnV w5 w3.heap.size w5.heap.size (.agg #[.slice F4 a4.facts.length f4, .slice G4 a4.atoms.length g4]) a4) := AsnO.readsI2 ⟨_, _, rfl, o1, o2⟩
    have hR4 : Rdr w5 g q4 := hR.belowB hBz (by omega)
    replace k0 := k0.below hBz (by omega)
    replace k1 := k1.below hBz (by omega)
    replace HF := Lib.hid (HF.out.goB hBz (by omega))
    replace HR := Lib.hid hR4
    clear hR4 hF hR o1 o2 o41 o42 HA hBz kx
    obtain ⟨aa, haa⟩ : ∃ aa, aa = a4 := ⟨_, rfl⟩
    rw [← haa] at kX4 HN hl4 hl4'
    have kx := kX4
    have HA := HN
    clear hlA
    have hlA : aa.facts.length ≤ 20 ∧ aa.atoms.length ≤ 20 := by omega
    have hgA : g < w3.heap.size := by omega
    go_wp2_with fail
    rw [← haa] at hw5
    rw [← haa, ← hw5]
    clear hw5 haa HN kX4 kX qkX rkX lkX
    have hq44 : q4 ≤ 80 := by omega
    clear hq
    obtain ⟨q, hqe⟩ : ∃ q, q = q4 := ⟨_, rfl⟩
    rw [← hqe] at HR
    have hq : q ≤ 80 := by omega
    (replace qkx := kx.cell; replace rkx := kx.frozen; replace lkx := kx.lt)
    refine (c_l6Weak g q _ aa _ HR.out (by omega) HA.out hlA.1 hlA.2).mono ?_
    rintro e w6 ⟨r6, b6, q6, rfl, hbv, hlb1, hlb2, hR, hq6, hF⟩
    have hsw6 := hF.size
    have hq66 : q6 ≤ 90 := by omega
    replace k0 := k0.fr hF (by omega)
    replace k1 := k1.fr hF (by omega)
    replace kx := kx.fr hF (by omega)
    replace HF := Lib.hid (HF.out.trans hF)
    replace HA := Lib.hid (HA.out.frI hF hgA)
    obtain ⟨F6, f6, G6, g6, rfl, -, -⟩ := id hbv
    obtain ⟨Y, hY⟩ : ∃ Y, Y = w6.heap.size := ⟨_, rfl⟩
    have ky : Blk (w6.alloc (.cells #[.slice F6 b6.facts.length f6, .slice G6 b6.atoms.length g6] tAs)) Y tAs #[.slice F6 b6.facts.length f6, .slice G6 b6.atoms.length g6] := by rw [hY]; exact Blk.new _ _ _
    have hBy : Below w6.heap.size w6 (w6.alloc (.cells #[.slice F6 b6.facts.length f6, .slice G6 b6.atoms.length g6] tAs)) := bbox (Below.refl _ _) _
    replace k0 := k0.next hBy
    replace k1 := k1.next hBy
    replace kx := kx.next hBy
    replace HF := Lib.hid (HF.out.go hBy)
    replace HR := Lib.hid (hR.below hBy)
    replace HA := Lib.hid (HA.out.below hBy)
    have HV := Lib.hid (hbv.below hBy)
    have hsy : w6.heap.size + 1 ≤ (w6.alloc (.cells #[.slice F6 b6.facts.length f6, .slice G6 b6.atoms.length g6] tAs)).heap.size := by simp
    have hY2 : w6.heap.size ≤ Y := by omega
    have hXY : X < Y := by omega
    have hwY : w5.heap.size ≤ Y := by omega
    clear hR hF hBy hbv
    go_wp2_with fail
    rw [← hY]
    generalize (w6.alloc (.cells #[.slice F6 b6.facts.length f6, .slice G6 b6.atoms.length g6] tAs)) = W6 at k0 k1 kx ky HF HR HA HV hsy ⊢
    have hYl : Y < W6.heap.size := by omega
    obtain ⟨hiB, hhB⟩ : ∃ hiB, hiB = w6.heap.size := ⟨_, rfl⟩
    rw [← hhB] at HV
    have hhY : hiB ≤ Y := by omega
    clear hY hhB hY2
    refine (c_pick g q6 8 _ HR.out (by omega)).mono ?_
    rintro e w7 ⟨m7, rfl, -, hR, hF⟩
    replace k0 := k0.fr hF (by omega)
    replace k1 := k1.fr hF (by omega)
    replace kx := kx.fr hF (by omega)
    replace ky := ky.fr hF (by omega)
    replace HF := Lib.hid (HF.out.trans hF)
    replace HA := Lib.hid (HA.out.frI hF hgA)
    replace HV := Lib.hid (HV.out.frI hF (by omega))
    have hsw7 := hF.size
    replace HR := Lib.hid hR
    clear hR hF
    clear hq
    obtain ⟨q, hqe⟩ : ∃ q, q = q6 + 1 := ⟨_, rfl⟩
    rw [← hqe] at HR
    have hq : q ≤ 100 := by omega
    clear hqe
    by_cases hm7 : (m7 : Int) = 0
    · have hm7b : ((m7 : Int) == 0) = true := by simpa using hm7
      clear hm7
      go_wp2_with fail
      refine (c_l3Draw g q _ HR.out (by omega)).mono ?_
      rintro e w8' ⟨r4, a4, q4, rfl, o4, -, hl4, hl4', hR, hq4, hF⟩
      replace k0 := k0.fr hF (by omega)
      replace k1 := k1.fr hF (by omega)
      replace kx := kx.fr hF (by omega)
      have kY := ky.fr hF (by omega)
      replace HF := Lib.hid (HF.out.trans hF)
      replace HA := Lib.hid (HA.out.frI hF hgA)
      have hsw8 := hF.size
      have hlY := kY.lt
      obtain ⟨fv4, av4, rfl, o41, o42⟩ := o4
      obtain ⟨F8, f8, rfl, -⟩ := o41.reads
      obtain ⟨G8, g8, rfl, -⟩ := o42.reads
      obtain ⟨w8, hw8⟩ : ∃ w8, w8 = (w8'.setCell ⟨Y, 0, none⟩ (.slice F8 a4.facts.length f8)).setCell ⟨Y, 1, none⟩ (.slice G8 a4.atoms.length g8) := ⟨_, rfl⟩
      have hBz : Below Y w8' w8 := by rw [hw8]; exact (Below.setCell (p := ⟨Y, 0, none⟩) (Below.refl _ _) (Nat.le_refl _) _).setCell (p := ⟨Y, 1, none⟩) (Nat.le_refl _) _
      have hswz : w7.heap.size ≤ w8.heap.size := Nat.le_trans hsw8 hBz.size
      (replace qkY := kY.cell; replace rkY := kY.frozen; replace lkY := kY.lt)
      have kY4 : Blk w8 Y tAs #[.slice F8 a4.facts.length f8, .slice G8 a4.atoms.length g8] := by rw [hw8]; simpa using (kY.set_ 0 (.slice F8 a4.facts.length f8)).set_ 1 (.slice G8 a4.atoms.length g8)
      have o1 : FactsO w8 w7.heap.size (.slice F8 a4.facts.length f8) a4.facts := by rw [hw8]; exact (o41.setT kY (by decide) 0 _).setT (kY.set_ 0 _) (by decide) 1 _
      have o2 : AtomsO w8 w7.heap.size (.slice G8 a4.atoms.length g8) a4.atoms := by rw [hw8]; exact (o42.setT kY (by decide) 0 _).setT (kY.set_ 0 _) (by decide) 1 _
      have HN : Hid (AsnV w8 w7.heap.size w8.heap.size (.agg #[.slice F8 a4.facts.length f8, .slice G8 a4.atoms.length g8]) a4) := AsnO.readsI2 ⟨_, _, rfl, o1, o2⟩
      have hR4 : Rdr w8 g q4 := hR.belowB hBz (by omega)
      replace k0 := k0.below hBz (by omega)
      replace k1 := k1.below hBz (by omega)
      replace kx := kx.below hBz hXY
      replace HF := Lib.hid (HF.out.goB hBz (by omega))
      replace HA := Lib.hid (HA.out.keepI hBz (by omega))
      replace HR := Lib.hid hR4
      clear hR4 hF hR o1 o2 o41 o42 HV hBz
      obtain ⟨bb, hbb⟩ : ∃ bb, bb = a4 := ⟨_, rfl⟩
      rw [← hbb] at kY4 HN hl4 hl4'
      have ky := kY4
      have HV := HN
      have hlB : bb.facts.length ≤ 20 ∧ bb.atoms.length ≤ 20 := by omega
      have hgB : g < w7.heap.size := by omega
      have hsz9 : w1.heap.size ≤ w8.heap.size := HF.out.size
      go_wp2_with fail
      rw [← hbb] at hw8
      rw [← hbb, ← hw8]
      clear hw8 hbb HN kY4 kY qkY rkY lkY
      replace hq : q4 ≤ 140 := by omega
      (replace qkx := kx.cell; replace rkx := kx.frozen; replace lkx := kx.lt; replace qky := ky.cell; replace rky := ky.frozen; replace lky := ky.lt)
      go_wp2_with fail
      refine wp_region_noPanic ?_
      refine wp_region_held_drew (S := (fun w' => (∀ i, w'.cell? ⟨X, i, none⟩ = #[.slice F4 aa.facts.length f4, .slice G4 aa.atoms.length g4][i]?) ∧ (∀ i, w'.cell? ⟨Y, i, none⟩ = #[.slice F8 bb.facts.length f8, .slice G8 bb.atoms.length g8][i]?))) (by kernel_rfl) (⟨Blk.cell blks, Blk.cell blks⟩) (fun hHeld => ?_)
      refine wpAnyH_take (i := 0) (v := ?_) rfl (by kernel_rfl) (by kernel_rfl) (by kernel_rfl) (fun _ _ _ h => h) (Or.inl ⟨by rfl, fun w hSw => ?_⟩) hHeld ?_
      rotate_left
      · ((try dsimp only at hSw); go_split_ands; go_simp; (try with_reducible rfl))
      try simp only [Act.put, List.getElem_toArray, List.getElem_cons_zero, List.getElem_cons_succ, List.setIfInBounds_toArray, List.set_cons_zero, List.set_cons_succ]
      refine wpAnyH_take (i := 1) (v := ?_) rfl (by kernel_rfl) (by kernel_rfl) (by kernel_rfl) (fun _ _ _ h => h) (Or.inl ⟨by rfl, fun w hSw => ?_⟩) hHeld ?_
      rotate_left
      · ((try dsimp only at hSw); go_split_ands; go_simp; (try with_reducible rfl))
      try simp only [Act.put, List.getElem_toArray, List.getElem_cons_zero, List.getElem_cons_succ, List.setIfInBounds_toArray, List.set_cons_zero, List.set_cons_succ]
      refine wpAnyH_take (i := 3) (v := ?_) rfl (by kernel_rfl) (by kernel_rfl) (by kernel_rfl) (fun _ _ _ h => h) (Or.inl ⟨by rfl, fun w hSw => ?_⟩) hHeld ?_
      rotate_left
      · ((try dsimp only at hSw); go_split_ands; go_simp; (try with_reducible rfl))
      try simp only [Act.put, List.getElem_toArray, List.getElem_cons_zero, List.getElem_cons_succ, List.setIfInBounds_toArray, List.set_cons_zero, List.set_cons_succ]
      refine wpAnyH_take (i := 4) (v := ?_) rfl (by kernel_rfl) (by kernel_rfl) (by kernel_rfl) (fun _ _ _ h => h) (Or.inl ⟨by rfl, fun w hSw => ?_⟩) hHeld ?_
      rotate_left
      · ((try dsimp only at hSw); go_split_ands; go_simp; (try with_reducible rfl))
      try simp only [Act.put, List.getElem_toArray, List.getElem_cons_zero, List.getElem_cons_succ, List.setIfInBounds_toArray, List.set_cons_zero, List.set_cons_succ]
      refine wpAnyH_ready (rs := [2]) (by kernel_rfl) (by simp) ?_
      refine AllReadyH.cons rfl (fun K hK => ?_) AllReadyH.nil
      try simp only [List.getElem_toArray, List.getElem_cons_zero, List.getElem_cons_succ]
      (go_simp; refine (c_l3Mutate g q4 _ aa _ (HR.out.below bel) (by omega) (HA.out.below bel) (by omega) (by omega)).mono ?_; rintro e w9 ⟨r9, a9, q9, rfl, o9, -, -, hR9, hq9, hF9⟩; have kx9 := kx.drew.fr hF9 (by omega); have ky9 := ky.drew.fr hF9 (by omega); have k09 := k0.drew.fr hF9 (by omega); have k19 := k1.drew.fr hF9 (by omega); have HF9 := Lib.hid (HF.out.drew.trans hF9); have HV9 := Lib.hid ((HV.out.below (Below.drew (Below.refl _ _))).frI hF9 hgB))
      refine hK.out _ _ (⟨kx9.cell, ky9.cell⟩) (fun hHeldN => ?_)
      clear hHeld hK K
      have hHeld := hHeldN
      clear hHeldN
      try simp only [Act.put, List.getElem_toArray, List.getElem_cons_zero, List.getElem_cons_succ, List.setIfInBounds_toArray, List.set_cons_zero, List.set_cons_succ]
      refine wpAnyH_ready (rs := [5]) (by kernel_rfl) (by simp) ?_
      refine AllReadyH.cons rfl (fun K hK => ?_) AllReadyH.nil
      try simp only [List.getElem_toArray, List.getElem_cons_zero, List.getElem_cons_succ]
      (go_simp; refine (c_l3Mutate g q9 _ bb _ hR9 (by omega) HV9.out (by omega) (by omega)).mono ?_; rintro e w10 ⟨r10, b10, q10, rfl, o10, -, -, -, -, hF10⟩; have kx10 := kx9.fr hF10 (by omega); have ky10 := ky9.fr hF10 (by omega); have k010 := k09.fr hF10 (by omega); have k110 := k19.fr hF10 (by omega); have HF10 := Lib.hid (HF9.out.trans hF10))
      refine hK.out _ _ (⟨kx10.cell, ky10.cell⟩) (fun hHeldN => ?_)
      clear hHeld hK K
      have hHeld := hHeldN
      clear hHeldN
      try simp only [Act.put, List.getElem_toArray, List.getElem_cons_zero, List.getElem_cons_succ, List.setIfInBounds_toArray, List.set_cons_zero, List.set_cons_succ]
      have hsz10 : w8.heap.size ≤ w9.heap.size := by have := hF9.size; simpa using this
      obtain ⟨fv9, av9, rfl, o91, o92⟩ := o9
      obtain ⟨F9, f9, rfl, -⟩ := o91.reads
      obtain ⟨G9, g9, rfl, -⟩ := o92.reads
      obtain ⟨fv10, av10, rfl, o101, o102⟩ := o10
      obtain ⟨F10, f10, rfl, -⟩ := o101.reads
      obtain ⟨G10, g10, rfl, -⟩ := o102.reads
      have P1 := Lib.hid ((o91.fr hF10 (by simp; omega)).lower (base' := w.heap.size) (by simp; omega))
      have P2 := Lib.hid ((o92.fr hF10 (by simp; omega)).lower (base' := w.heap.size) (by simp; omega))
      have P3 := Lib.hid (o101.lower (base' := w.heap.size) (by omega))
      have P4 := Lib.hid (o102.lower (base' := w.heap.size) (by omega))
      have HBE : Hid (Below w.heap.size w w10) := Below.trans HB1.out (HF10.out.below (by omega) (by omega))
      clear o91 o92 o101 o102 hR9 hF9 hF10 HV9 HF9
      (replace qk010 := k010.cell; replace rk010 := k010.frozen; replace lk010 := k010.lt; replace qk110 := k110.cell; replace rk110 := k110.frozen; replace lk110 := k110.lt)
      refine wpAnyH_ready (rs := [6]) (by kernel_rfl) (by simp) ?_
      refine AllReadyH.cons rfl (fun K hK => ?_) AllReadyH.nil
      try simp only [List.getElem_toArray, List.getElem_cons_zero, List.getElem_cons_succ]
      go_simp
      refine hK.out _ _ (⟨(kx10.far (p := ⟨w.heap.size, 0, none⟩) (by simp only; omega) _).far (p := ⟨w.heap.size, 1, none⟩) (by simp only; omega) _ |>.cell, (ky10.far (p := ⟨w.heap.size, 0, none⟩) (by simp only; omega) _).far (p := ⟨w.heap.size, 1, none⟩) (by simp only; omega) _ |>.cell⟩) (fun hHeldN => ?_)
      clear hHeld hK K
      have hHeld := hHeldN
      clear hHeldN
      try simp only [Act.put, List.getElem_toArray, List.getElem_cons_zero, List.getElem_cons_succ, List.setIfInBounds_toArray, List.set_cons_zero, List.set_cons_succ]
      refine wpAnyH_ready (rs := [7]) (by kernel_rfl) (by simp) ?_
      refine AllReadyH.cons rfl (fun K hK => ?_) AllReadyH.nil
      try simp only [List.getElem_toArray, List.getElem_cons_zero, List.getElem_cons_succ]
      go_simp
      refine hK.out _ _ (⟨Blk.cell blks, Blk.cell blks⟩) (fun hHeldN => ?_)
      clear hHeld hK K
      have hHeld := hHeldN
      clear hHeldN
      try simp only [Act.put, List.getElem_toArray, List.getElem_cons_zero, List.getElem_cons_succ, List.setIfInBounds_toArray, List.set_cons_zero, List.set_cons_succ]
      refine wpAnyH_done (by kernel_rfl) ?_ _
      refine NoPanic.normal ?_
      go_wp2_with fail
      have j1 := (k110.far (p := ⟨w.heap.size, 0, none⟩) (by simp only; omega) (.slice F9 a9.facts.length f9)).far (p := ⟨w.heap.size, 1, none⟩) (by simp only; omega) (.slice G9 a9.atoms.length g9)
      have hne01 : w.heap.size ≠ w.heap.size + 1 := by omega
      refine bodyPost_ret (v := .tuple #[.agg #[.slice F9 a9.facts.length f9, .slice G9 a9.atoms.length g9], .agg #[.slice F10 b10.facts.length f10, .slice G10 b10.atoms.length g10]]) (by simp [results, Try.results83, go_sem, qk010, qk110, lk010, lk110]) rfl ⟨_, _, a9, b10, rfl, ⟨_, _, rfl, ?_, ?_⟩, ⟨_, _, rfl, ?_, ?_⟩, ?_⟩
      · exact (((P1.out.setT k010 (by decide) 0 _).setT (k010.set_ 0 _) (by decide) 1 _).setT j1 (by decide) 0 _).setT (j1.set_ 0 _) (by decide) 1 _
      · exact (((P2.out.setT k010 (by decide) 0 _).setT (k010.set_ 0 _) (by decide) 1 _).setT j1 (by decide) 0 _).setT (j1.set_ 0 _) (by decide) 1 _
      · exact (((P3.out.setT k010 (by decide) 0 _).setT (k010.set_ 0 _) (by decide) 1 _).setT j1 (by decide) 0 _).setT (j1.set_ 0 _) (by decide) 1 _
      · exact (((P4.out.setT k010 (by decide) 0 _).setT (k010.set_ 0 _) (by decide) 1 _).setT j1 (by decide) 0 _).setT (j1.set_ 0 _) (by decide) 1 _
      · exact (((HBE.out.setCell (p := ⟨w.heap.size, 0, none⟩) (by simp only; omega) _).setCell (p := ⟨w.heap.size, 1, none⟩) (by simp only; omega) _).setCell (p := ⟨w.heap.size + 1, 0, none⟩) (by simp only; omega) _).setCell (p := ⟨w.heap.size + 1, 1, none⟩) (by simp only; omega) _
    have hm7b : ((m7 : Int) == 0) = false := by simpa using hm7
    clear hm7
    obtain ⟨bb, hbb⟩ : ∃ bb, bb = b6 := ⟨_, rfl⟩
    rw [← hbb] at ky HV hlb1 hlb2 ⊢
    clear hbb
    have hlB : bb.facts.length ≤ 20 ∧ bb.atoms.length ≤ 20 := by omega
    have hgB : g < w5.heap.size := by omega
    have hsz9 : w1.heap.size ≤ w7.heap.size := HF.out.size
    (replace qkx := kx.cell; replace rkx := kx.frozen; replace lkx := kx.lt; replace qky := ky.cell; replace rky := ky.frozen; replace lky := ky.lt)
    go_wp2_with fail
    refine wp_region_noPanic ?_
    refine wp_region_held_drew (S := (fun w' => (∀ i, w'.cell? ⟨X, i, none⟩ = #[.slice F4 aa.facts.length f4, .slice G4 aa.atoms.length g4][i]?) ∧ (∀ i, w'.cell? ⟨Y, i, none⟩ = #[.slice F6 bb.facts.length f6, .slice G6 bb.atoms.length g6][i]?))) (by kernel_rfl) (⟨Blk.cell blks, Blk.cell blks⟩) (fun hHeld => ?_)
    refine wpAnyH_take (i := 0) (v := ?_) rfl (by kernel_rfl) (by kernel_rfl) (by kernel_rfl) (fun _ _ _ h => h) (Or.inl ⟨by rfl, fun w hSw => ?_⟩) hHeld ?_
    rotate_left
    · ((try dsimp only at hSw); go_split_ands; go_simp; (try with_reducible rfl))
    try simp only [Act.put, List.getElem_toArray, List.getElem_cons_zero, List.getElem_cons_succ, List.setIfInBounds_toArray, List.set_cons_zero, List.set_cons_succ]
    refine wpAnyH_take (i := 1) (v := ?_) rfl (by kernel_rfl) (by kernel_rfl) (by kernel_rfl) (fun _ _ _ h => h) (Or.inl ⟨by rfl, fun w hSw => ?_⟩) hHeld ?_
    rotate_left
    · ((try dsimp only at hSw); go_split_ands; go_simp; (try with_reducible rfl))
    try simp only [Act.put, List.getElem_toArray, List.getElem_cons_zero, List.getElem_cons_succ, List.setIfInBounds_toArray, List.set_cons_zero, List.set_cons_succ]
    refine wpAnyH_take (i := 3) (v := ?_) rfl (by kernel_rfl) (by kernel_rfl) (by kernel_rfl) (fun _ _ _ h => h) (Or.inl ⟨by rfl, fun w hSw => ?_⟩) hHeld ?_
    rotate_left
    · ((try dsimp only at hSw); go_split_ands; go_simp; (try with_reducible rfl))
    try simp only [Act.put, List.getElem_toArray, List.getElem_cons_zero, List.getElem_cons_succ, List.setIfInBounds_toArray, List.set_cons_zero, List.set_cons_succ]
    refine wpAnyH_take (i := 4) (v := ?_) rfl (by kernel_rfl) (by kernel_rfl) (by kernel_rfl) (fun _ _ _ h => h) (Or.inl ⟨by rfl, fun w hSw => ?_⟩) hHeld ?_
    rotate_left
    · ((try dsimp only at hSw); go_split_ands; go_simp; (try with_reducible rfl))
    try simp only [Act.put, List.getElem_toArray, List.getElem_cons_zero, List.getElem_cons_succ, List.setIfInBounds_toArray, List.set_cons_zero, List.set_cons_succ]
    refine wpAnyH_ready (rs := [2]) (by kernel_rfl) (by simp) ?_
    refine AllReadyH.cons rfl (fun K hK => ?_) AllReadyH.nil
    try simp only [List.getElem_toArray, List.getElem_cons_zero, List.getElem_cons_succ]
    (go_simp; refine (c_l3Mutate g q _ aa _ (HR.out.below bel) (by omega) (HA.out.below bel) (by omega) (by omega)).mono ?_; rintro e w9 ⟨r9, a9, q9, rfl, o9, -, -, hR9, hq9, hF9⟩; have kx9 := kx.drew.fr hF9 (by omega); have ky9 := ky.drew.fr hF9 (by omega); have k09 := k0.drew.fr hF9 (by omega); have k19 := k1.drew.fr hF9 (by omega); have HF9 := Lib.hid (HF.out.drew.trans hF9); have HV9 := Lib.hid ((HV.out.below (Below.drew (Below.refl _ _))).frI hF9 hgB))
    refine hK.out _ _ (⟨kx9.cell, ky9.cell⟩) (fun hHeldN => ?_)
    clear hHeld hK K
    have hHeld := hHeldN
    clear hHeldN
    try simp only [Act.put, List.getElem_toArray, List.getElem_cons_zero, List.getElem_cons_succ, List.setIfInBounds_toArray, List.set_cons_zero, List.set_cons_succ]
    refine wpAnyH_ready (rs := [5]) (by kernel_rfl) (by simp) ?_
    refine AllReadyH.cons rfl (fun K hK => ?_) AllReadyH.nil
    try simp only [List.getElem_toArray, List.getElem_cons_zero, List.getElem_cons_succ]
    (go_simp; refine (c_l3Mutate g q9 _ bb _ hR9 (by omega) HV9.out (by omega) (by omega)).mono ?_; rintro e w10 ⟨r10, b10, q10, rfl, o10, -, -, -, -, hF10⟩; have kx10 := kx9.fr hF10 (by omega); have ky10 := ky9.fr hF10 (by omega); have k010 := k09.fr hF10 (by omega); have k110 := k19.fr hF10 (by omega); have HF10 := Lib.hid (HF9.out.trans hF10))
    refine hK.out _ _ (⟨kx10.cell, ky10.cell⟩) (fun hHeldN => ?_)
    clear hHeld hK K
    have hHeld := hHeldN
    clear hHeldN
    try simp only [Act.put, List.getElem_toArray, List.getElem_cons_zero, List.getElem_cons_succ, List.setIfInBounds_toArray, List.set_cons_zero, List.set_cons_succ]
    have hsz10 : w7.heap.size ≤ w9.heap.size := by have := hF9.size; simpa using this
    obtain ⟨fv9, av9, rfl, o91, o92⟩ := o9
    obtain ⟨F9, f9, rfl, -⟩ := o91.reads
    obtain ⟨G9, g9, rfl, -⟩ := o92.reads
    obtain ⟨fv10, av10, rfl, o101, o102⟩ := o10
    obtain ⟨F10, f10, rfl, -⟩ := o101.reads
    obtain ⟨G10, g10, rfl, -⟩ := o102.reads
    have P1 := Lib.hid ((o91.fr hF10 (by simp; omega)).lower (base' := w.heap.size) (by simp; omega))
    have P2 := Lib.hid ((o92.fr hF10 (by simp; omega)).lower (base' := w.heap.size) (by simp; omega))
    have P3 := Lib.hid (o101.lower (base' := w.heap.size) (by omega))
    have P4 := Lib.hid (o102.lower (base' := w.heap.size) (by omega))
    have HBE : Hid (Below w.heap.size w w10) := Below.trans HB1.out (HF10.out.below (by omega) (by omega))
    clear o91 o92 o101 o102 hR9 hF9 hF10 HV9 HF9
    (replace qk010 := k010.cell; replace rk010 := k010.frozen; replace lk010 := k010.lt; replace qk110 := k110.cell; replace rk110 := k110.frozen; replace lk110 := k110.lt)
    refine wpAnyH_ready (rs := [6]) (by kernel_rfl) (by simp) ?_
    refine AllReadyH.cons rfl (fun K hK => ?_) AllReadyH.nil
    try simp only [List.getElem_toArray, List.getElem_cons_zero, List.getElem_cons_succ]
    go_simp
    refine hK.out _ _ (⟨(kx10.far (p := ⟨w.heap.size, 0, none⟩) (by simp only; omega) _).far (p := ⟨w.heap.size, 1, none⟩) (by simp only; omega) _ |>.cell, (ky10.far (p := ⟨w.heap.size, 0, none⟩) (by simp only; omega) _).far (p := ⟨w.heap.size, 1, none⟩) (by simp only; omega) _ |>.cell⟩) (fun hHeldN => ?_)
    clear hHeld hK K
    have hHeld := hHeldN
    clear hHeldN
    try simp only [Act.put, List.getElem_toArray, List.getElem_cons_zero, List.getElem_cons_succ, List.setIfInBounds_toArray, List.set_cons_zero, List.set_cons_succ]
    refine wpAnyH_ready (rs := [7]) (by kernel_rfl) (by simp) ?_
    refine AllReadyH.cons rfl (fun K hK => ?_) AllReadyH.nil
    try simp only [List.getElem_toArray, List.getElem_cons_zero, List.getElem_cons_succ]
    go_simp
    refine hK.out _ _ (⟨Blk.cell blks, Blk.cell blks⟩) (fun hHeldN => ?_)
    clear hHeld hK K
    have hHeld := hHeldN
    clear hHeldN
    try simp only [Act.put, List.getElem_toArray, List.getElem_cons_zero, List.getElem_cons_succ, List.setIfInBounds_toArray, List.set_cons_zero, List.set_cons_succ]
    refine wpAnyH_done (by kernel_rfl) ?_ _
    refine NoPanic.normal ?_
    go_wp2_with fail
    have j1 := (k110.far (p := ⟨w.heap.size, 0, none⟩) (by simp only; omega) (.slice F9 a9.facts.length f9)).far (p := ⟨w.heap.size, 1, none⟩) (by simp only; omega) (.slice G9 a9.atoms.length g9)
    have hne01 : w.heap.size ≠ w.heap.size + 1 := by omega
    refine bodyPost_ret (v := .tuple #[.agg #[.slice F9 a9.facts.length f9, .slice G9 a9.atoms.length g9], .agg #[.slice F10 b10.facts.length f10, .slice G10 b10.atoms.length g10]]) (by simp [results, Try.results83, go_sem, qk010, qk110, lk010, lk110]) rfl ⟨_, _, a9, b10, rfl, ⟨_, _, rfl, ?_, ?_⟩, ⟨_, _, rfl, ?_, ?_⟩, ?_⟩
    · exact (((P1.out.setT k010 (by decide) 0 _).setT (k010.set_ 0 _) (by decide) 1 _).setT j1 (by decide) 0 _).setT (j1.set_ 0 _) (by decide) 1 _
    · exact (((P2.out.setT k010 (by decide) 0 _).setT (k010.set_ 0 _) (by decide) 1 _).setT j1 (by decide) 0 _).setT (j1.set_ 0 _) (by decide) 1 _
    · exact (((P3.out.setT k010 (by decide) 0 _).setT (k010.set_ 0 _) (by decide) 1 _).setT j1 (by decide) 0 _).setT (j1.set_ 0 _) (by decide) 1 _
    · exact (((P4.out.setT k010 (by decide) 0 _).setT (k010.set_ 0 _) (by decide) 1 _).setT j1 (by decide) 0 _).setT (j1.set_ 0 _) (by decide) 1 _
    · exact (((HBE.out.setCell (p := ⟨w.heap.size, 0, none⟩) (by simp only; omega) _).setCell (p := ⟨w.heap.size, 1, none⟩) (by simp only; omega) _).setCell (p := ⟨w.heap.size + 1, 0, none⟩) (by simp only; omega) _).setCell (p := ⟨w.heap.size + 1, 1, none⟩) (by simp only; omega) _
  have hm3b : ((m3 : Int) == 0) = false := by simpa using hm3
  clear hm3
  obtain ⟨aa, haa⟩ : ∃ aa, aa = a2 := ⟨_, rfl⟩
  obtain ⟨w5, hw5⟩ : ∃ w5, w5 = w3 := ⟨_, rfl⟩
  rw [← haa] at kx HA hlA ⊢
  rw [← hw5] at k0 k1 kx HF HR HA hsw3 ⊢
  clear haa hw5
  have hgA : g < w1.heap.size := lg
  replace hq : q ≤ 80 := by omega
  (replace qkx := kx.cell; replace rkx := kx.frozen; replace lkx := kx.lt)
  go_wp2_with fail
  refine (c_l6Weak g q _ aa _ HR.out (by omega) HA.out hlA.1 hlA.2).mono ?_
  rintro e w6 ⟨r6, b6, q6, rfl, hbv, hlb1, hlb2, hR, hq6, hF⟩
  have hsw6 := hF.size
  have hq66 : q6 ≤ 90 := by omega
  replace k0 := k0.fr hF (by omega)
  replace k1 := k1.fr hF (by omega)
  replace kx := kx.fr hF (by omega)
  replace HF := Lib.hid (HF.out.trans hF)
  replace HA := Lib.hid (HA.out.frI hF hgA)
  obtain ⟨F6, f6, G6, g6, rfl, -, -⟩ := id hbv
  obtain ⟨Y, hY⟩ : ∃ Y, Y = w6.heap.size := ⟨_, rfl⟩
  have ky : Blk (w6.alloc (.cells #[.slice F6 b6.facts.length f6, .slice G6 b6.atoms.length g6] tAs)) Y tAs #[.slice F6 b6.facts.length f6, .slice G6 b6.atoms.length g6] := by rw [hY]; exact Blk.new _ _ _
  have hBy : Below w6.heap.size w6 (w6.alloc (.cells #[.slice F6 b6.facts.length f6, .slice G6 b6.atoms.length g6] tAs)) := bbox (Below.refl _ _) _
  replace k0 := k0.next hBy
  replace k1 := k1.next hBy
  replace kx := kx.next hBy
  replace HF := Lib.hid (HF.out.go hBy)
  replace HR := Lib.hid (hR.below hBy)
  replace HA := Lib.hid (HA.out.below hBy)
  have HV := Lib.hid (hbv.below hBy)
  have hsy : w6.heap.size + 1 ≤ (w6.alloc (.cells #[.slice F6 b6.facts.length f6, .slice G6 b6.atoms.length g6] tAs)).heap.size := by simp
  have hY2 : w6.heap.size ≤ Y := by omega
  have hXY : X < Y := by omega
  have hwY : w5.heap.size ≤ Y := by omega
  clear hR hF hBy hbv
  go_wp2_with fail
  rw [← hY]
  generalize (w6.alloc (.cells #[.slice F6 b6.facts.length f6, .slice G6 b6.atoms.length g6] tAs)) = W6 at k0 k1 kx ky HF HR HA HV hsy ⊢
  have hYl : Y < W6.heap.size := by omega
  obtain ⟨hiB, hhB⟩ : ∃ hiB, hiB = w6.heap.size := ⟨_, rfl⟩
  rw [← hhB] at HV
  have hhY : hiB ≤ Y := by omega
  clear hY hhB hY2
  refine (c_pick g q6 8 _ HR.out (by omega)).mono ?_
  rintro e w7 ⟨m7, rfl, -, hR, hF⟩
  replace k0 := k0.fr hF (by omega)
  replace k1 := k1.fr hF (by omega)
  replace kx := kx.fr hF (by omega)
  replace ky := ky.fr hF (by omega)
  replace HF := Lib.hid (HF.out.trans hF)
  replace HA := Lib.hid (HA.out.frI hF hgA)
  replace HV := Lib.hid (HV.out.frI hF (by omega))
  have hsw7 := hF.size
  replace HR := Lib.hid hR
  clear hR hF
  clear hq
  obtain ⟨q, hqe⟩ : ∃ q, q = q6 + 1 := ⟨_, rfl⟩
  rw [← hqe] at HR
  have hq : q ≤ 100 := by omega
  clear hqe
  by_cases hm7 : (m7 : Int) = 0
  · have hm7b : ((m7 : Int) == 0) = true := by simpa using hm7
    clear hm7
    go_wp2_with fail
    refine (c_l3Draw g q _ HR.out (by omega)).mono ?_
    rintro e w8' ⟨r4, a4, q4, rfl, o4, -, hl4, hl4', hR, hq4, hF⟩
    replace k0 := k0.fr hF (by omega)
    replace k1 := k1.fr hF (by omega)
    replace kx := kx.fr hF (by omega)
    have kY := ky.fr hF (by omega)
    replace HF := Lib.hid (HF.out.trans hF)
    replace HA := Lib.hid (HA.out.frI hF hgA)
    have hsw8 := hF.size
    have hlY := kY.lt
    obtain ⟨fv4, av4, rfl, o41, o42⟩ := o4
    obtain ⟨F8, f8, rfl, -⟩ := o41.reads
    obtain ⟨G8, g8, rfl, -⟩ := o42.reads
    obtain ⟨w8, hw8⟩ : ∃ w8, w8 = (w8'.setCell ⟨Y, 0, none⟩ (.slice F8 a4.facts.length f8)).setCell ⟨Y, 1, none⟩ (.slice G8 a4.atoms.length g8) := ⟨_, rfl⟩
    have hBz : Below Y w8' w8 := by rw [hw8]; exact (Below.setCell (p := ⟨Y, 0, none⟩) (Below.refl _ _) (Nat.le_refl _) _).setCell (p := ⟨Y, 1, none⟩) (Nat.le_refl _) _
    have hswz : w7.heap.size ≤ w8.heap.size := Nat.le_trans hsw8 hBz.size
    (replace qkY := kY.cell; replace rkY := kY.frozen; replace lkY := kY.lt)
    have kY4 : Blk w8 Y tAs #[.slice F8 a4.facts.length f8, .slice G8 a4.atoms.length g8] := by rw [hw8]; simpa using (kY.set_ 0 (.slice F8 a4.facts.length f8)).set_ 1 (.slice G8 a4.atoms.length g8)
    have o1 : FactsO w8 w7.heap.size (.slice F8 a4.facts.length f8) a4.facts := by rw [hw8]; exact (o41.setT kY (by decide) 0 _).setT (kY.set_ 0 _) (by decide) 1 _
    have o2 : AtomsO w8 w7.heap.size (.slice G8 a4.atoms.length g8) a4.atoms := by rw [hw8]; exact (o42.setT kY (by decide) 0 _).setT (kY.set_ 0 _) (by decide) 1 _
    have HN : Hid (AsnV w8 w7.heap.size w8.heap.size (.agg #[.slice F8 a4.facts.length f8, .slice G8 a4.atoms.length g8]) a4) := AsnO.readsI2 ⟨_, _, rfl, o1, o2⟩
    have hR4 : Rdr w8 g q4 := hR.belowB hBz (by omega)
    replace k0 := k0.below hBz (by omega)
    replace k1 := k1.below hBz (by omega)
    replace kx := kx.below hBz hXY
    replace HF := Lib.hid (HF.out.goB hBz (by omega))
    replace HA := Lib.hid (HA.out.keepI hBz (by omega))
    replace HR := Lib.hid hR4
    clear hR4 hF hR o1 o2 o41 o42 HV hBz
    obtain ⟨bb, hbb⟩ : ∃ bb, bb = a4 := ⟨_, rfl⟩
    rw [← hbb] at kY4 HN hl4 hl4'
    have ky := kY4
    have HV := HN
    have hlB : bb.facts.length ≤ 20 ∧ bb.atoms.length ≤ 20 := by omega
    have hgB : g < w7.heap.size := by omega
    have hsz9 : w1.heap.size ≤ w8.heap.size := HF.out.size
    go_wp2_with fail
    rw [← hbb] at hw8
    rw [← hbb, ← hw8]
    clear hw8 hbb HN kY4 kY qkY rkY lkY
    replace hq : q4 ≤ 140 := by omega
    (replace qkx := kx.cell; replace rkx := kx.frozen; replace lkx := kx.lt; replace qky := ky.cell; replace rky := ky.frozen; replace lky := ky.lt)
    go_wp2_with fail
    refine wp_region_noPanic ?_
    refine wp_region_held_drew (S := (fun w' => (∀ i, w'.cell? ⟨X, i, none⟩ = #[.slice F2 aa.facts.length f2, .slice G2 aa.atoms.length g2][i]?) ∧ (∀ i, w'.cell? ⟨Y, i, none⟩ = #[.slice F8 bb.facts.length f8, .slice G8 bb.atoms.length g8][i]?))) (by kernel_rfl) (⟨Blk.cell blks, Blk.cell blks⟩) (fun hHeld => ?_)
    refine wpAnyH_take (i := 0) (v := ?_) rfl (by kernel_rfl) (by kernel_rfl) (by kernel_rfl) (fun _ _ _ h => h) (Or.inl ⟨by rfl, fun w hSw => ?_⟩) hHeld ?_
    rotate_left
    · ((try dsimp only at hSw); go_split_ands; go_simp; (try with_reducible rfl))
    try simp only [Act.put, List.getElem_toArray, List.getElem_cons_zero, List.getElem_cons_succ, List.setIfInBounds_toArray, List.set_cons_zero, List.set_cons_succ]
    refine wpAnyH_take (i := 1) (v := ?_) rfl (by kernel_rfl) (by kernel_rfl) (by kernel_rfl) (fun _ _ _ h => h) (Or.inl ⟨by rfl, fun w hSw => ?_⟩) hHeld ?_
    rotate_left
    · ((try dsimp only at hSw); go_split_ands; go_simp; (try with_reducible rfl))
    try simp only [Act.put, List.getElem_toArray, List.getElem_cons_zero, List.getElem_cons_succ, List.setIfInBounds_toArray, List.set_cons_zero, List.set_cons_succ]
    refine wpAnyH_take (i := 3) (v := ?_) rfl (by kernel_rfl) (by kernel_rfl) (by kernel_rfl) (fun _ _ _ h => h) (Or.inl ⟨by rfl, fun w hSw => ?_⟩) hHeld ?_
    rotate_left
    · ((try dsimp only at hSw); go_split_ands; go_simp; (try with_reducible rfl))
    try simp only [Act.put, List.getElem_toArray, List.getElem_cons_zero, List.getElem_cons_succ, List.setIfInBounds_toArray, List.set_cons_zero, List.set_cons_succ]
    refine wpAnyH_take (i := 4) (v := ?_) rfl (by kernel_rfl) (by kernel_rfl) (by kernel_rfl) (fun _ _ _ h => h) (Or.inl ⟨by rfl, fun w hSw => ?_⟩) hHeld ?_
    rotate_left
    · ((try dsimp only at hSw); go_split_ands; go_simp; (try with_reducible rfl))
    try simp only [Act.put, List.getElem_toArray, List.getElem_cons_zero, List.getElem_cons_succ, List.setIfInBounds_toArray, List.set_cons_zero, List.set_cons_succ]
    refine wpAnyH_ready (rs := [2]) (by kernel_rfl) (by simp) ?_
    refine AllReadyH.cons rfl (fun K hK => ?_) AllReadyH.nil
    try simp only [List.getElem_toArray, List.getElem_cons_zero, List.getElem_cons_succ]
    (go_simp; refine (c_l3Mutate g q4 _ aa _ (HR.out.below bel) (by omega) (HA.out.below bel) (by omega) (by omega)).mono ?_; rintro e w9 ⟨r9, a9, q9, rfl, o9, -, -, hR9, hq9, hF9⟩; have kx9 := kx.drew.fr hF9 (by omega); have ky9 := ky.drew.fr hF9 (by omega); have k09 := k0.drew.fr hF9 (by omega); have k19 := k1.drew.fr hF9 (by omega); have HF9 := Lib.hid (HF.out.drew.trans hF9); have HV9 := Lib.hid ((HV.out.below (Below.drew (Below.refl _ _))).frI hF9 hgB))
    refine hK.out _ _ (⟨kx9.cell, ky9.cell⟩) (fun hHeldN => ?_)
    clear hHeld hK K
    have hHeld := hHeldN
    clear hHeldN
    try simp only [Act.put, List.getElem_toArray, List.getElem_cons_zero, List.getElem_cons_succ, List.setIfInBounds_toArray, List.set_cons_zero, List.set_cons_succ]
    refine wpAnyH_ready (rs := [5]) (by kernel_rfl) (by simp) ?_
    refine AllReadyH.cons rfl (fun K hK => ?_) AllReadyH.nil
    try simp only [List.getElem_toArray, List.getElem_cons_zero, List.getElem_cons_succ]
    (go_simp; refine (c_l3Mutate g q9 _ bb _ hR9 (by omega) HV9.out (by omega) (by omega)).mono ?_; rintro e w10 ⟨r10, b10, q10, rfl, o10, -, -, -, -, hF10⟩; have kx10 := kx9.fr hF10 (by omega); have ky10 := ky9.fr hF10 (by omega); have k010 := k09.fr hF10 (by omega); have k110 := k19.fr hF10 (by omega); have HF10 := Lib.hid (HF9.out.trans hF10))
    refine hK.out _ _ (⟨kx10.cell, ky10.cell⟩) (fun hHeldN => ?_)
    clear hHeld hK K
    have hHeld := hHeldN
    clear hHeldN
    try simp only [Act.put, List.getElem_toArray, List.getElem_cons_zero, List.getElem_cons_succ, List.setIfInBounds_toArray, List.set_cons_zero, List.set_cons_succ]
    have hsz10 : w8.heap.size ≤ w9.heap.size := by have := hF9.size; simpa using this
    obtain ⟨fv9, av9, rfl, o91, o92⟩ := o9
    obtain ⟨F9, f9, rfl, -⟩ := o91.reads
    obtain ⟨G9, g9, rfl, -⟩ := o92.reads
    obtain ⟨fv10, av10, rfl, o101, o102⟩ := o10
    obtain ⟨F10, f10, rfl, -⟩ := o101.reads
    obtain ⟨G10, g10, rfl, -⟩ := o102.reads
    have P1 := Lib.hid ((o91.fr hF10 (by simp; omega)).lower (base' := w.heap.size) (by simp; omega))
    have P2 := Lib.hid ((o92.fr hF10 (by simp; omega)).lower (base' := w.heap.size) (by simp; omega))
    have P3 := Lib.hid (o101.lower (base' := w.heap.size) (by omega))
    have P4 := Lib.hid (o102.lower (base' := w.heap.size) (by omega))
    have HBE : Hid (Below w.heap.size w w10) := Below.trans HB1.out (HF10.out.below (by omega) (by omega))
    clear o91 o92 o101 o102 hR9 hF9 hF10 HV9 HF9
    (replace qk010 := k010.cell; replace rk010 := k010.frozen; replace lk010 := k010.lt; replace qk110 := k110.cell; replace rk110 := k110.frozen; replace lk110 := k110.lt)
    refine wpAnyH_ready (rs := [6]) (by kernel_rfl) (by simp) ?_
    refine AllReadyH.cons rfl (fun K hK => ?_) AllReadyH.nil
    try simp only [List.getElem_toArray, List.getElem_cons_zero, List.getElem_cons_succ]
    go_simp
    refine hK.out _ _ (⟨(kx10.far (p := ⟨w.heap.size, 0, none⟩) (by simp only; omega) _).far (p := ⟨w.heap.size, 1, none⟩) (by simp only; omega) _ |>.cell, (ky10.far (p := ⟨w.heap.size, 0, none⟩) (by simp only; omega) _).far (p := ⟨w.heap.size, 1, none⟩) (by simp only; omega) _ |>.cell⟩) (fun hHeldN => ?_)
    clear hHeld hK K
    have hHeld := hHeldN
    clear hHeldN
    try simp only [Act.put, List.getElem_toArray, List.getElem_cons_zero, List.getElem_cons_succ, List.setIfInBounds_toArray, List.set_cons_zero, List.set_cons_succ]
    refine wpAnyH_ready (rs := [7]) (by kernel_rfl) (by simp) ?_
    refine AllReadyH.cons rfl (fun K hK => ?_) AllReadyH.nil
    try simp only [List.getElem_toArray, List.getElem_cons_zero, List.getElem_cons_succ]
    go_simp
    refine hK.out _ _ (⟨Blk.cell blks, Blk.cell blks⟩) (fun hHeldN => ?_)
    clear hHeld hK K
    have hHeld := hHeldN
    clear hHeldN
    try simp only [Act.put, List.getElem_toArray, List.getElem_cons_zero, List.getElem_cons_succ, List.setIfInBounds_toArray, List.set_cons_zero, List.set_cons_succ]
    refine wpAnyH_done (by kernel_rfl) ?_ _
    refine NoPanic.normal ?_
    go_wp2_with fail
    have j1 := (k110.far (p := ⟨w.heap.size, 0, none⟩) (by simp only; omega) (.slice F9 a9.facts.length f9)).far (p := ⟨w.heap.size, 1, none⟩) (by simp only; omega) (.slice G9 a9.atoms.length g9)
    have hne01 : w.heap.size ≠ w.heap.size + 1 := by omega
    refine bodyPost_ret (v := .tuple #[.agg #[.slice F9 a9.facts.length f9, .slice G9 a9.atoms.length g9], .agg #[.slice F10 b10.facts.length f10, .slice G10 b10.atoms.length g10]]) (by simp [results, Try.results83, go_sem, qk010, qk110, lk010, lk110]) rfl ⟨_, _, a9, b10, rfl, ⟨_, _, rfl, ?_, ?_⟩, ⟨_, _, rfl, ?_, ?_⟩, ?_⟩
    · exact (((P1.out.setT k010 (by decide) 0 _).setT (k010.set_ 0 _) (by decide) 1 _).setT j1 (by decide) 0 _).setT (j1.set_ 0 _) (by decide) 1 _
    · exact (((P2.out.setT k010 (by decide) 0 _).setT (k010.set_ 0 _) (by decide) 1 _).setT j1 (by decide) 0 _).setT (j1.set_ 0 _) (by decide) 1 _
    · exact (((P3.out.setT k010 (by decide) 0 _).setT (k010.set_ 0 _) (by decide) 1 _).setT j1 (by decide) 0 _).setT (j1.set_ 0 _) (by decide) 1 _
    · exact (((P4.out.setT k010 (by decide) 0 _).setT (k010.set_ 0 _) (by decide) 1 _).setT j1 (by decide) 0 _).setT (j1.set_ 0 _) (by decide) 1 _
    · exact (((HBE.out.setCell (p := ⟨w.heap.size, 0, none⟩) (by simp only; omega) _).setCell (p := ⟨w.heap.size, 1, none⟩) (by simp only; omega) _).setCell (p := ⟨w.heap.size + 1, 0, none⟩) (by simp only; omega) _).setCell (p := ⟨w.heap.size + 1, 1, none⟩) (by simp only; omega) _
  have hm7b : ((m7 : Int) == 0) = false := by simpa using hm7
  clear hm7
  obtain ⟨bb, hbb⟩ : ∃ bb, bb = b6 := ⟨_, rfl⟩
  rw [← hbb] at ky HV hlb1 hlb2 ⊢
  clear hbb
  have hlB : bb.facts.length ≤ 20 ∧ bb.atoms.length ≤ 20 := by omega
  have hgB : g < w5.heap.size := by omega
  have hsz9 : w1.heap.size ≤ w7.heap.size := HF.out.size
  (replace qkx := kx.cell; replace rkx := kx.frozen; replace lkx := kx.lt; replace qky := ky.cell; replace rky := ky.frozen; replace lky := ky.lt)
  go_wp2_with fail
  refine wp_region_noPanic ?_
  refine wp_region_held_drew (S := (fun w' => (∀ i, w'.cell? ⟨X, i, none⟩ = #[.slice F2 aa.facts.length f2, .slice G2 aa.atoms.length g2][i]?) ∧ (∀ i, w'.cell? ⟨Y, i, none⟩ = #[.slice F6 bb.facts.length f6, .slice G6 bb.atoms.length g6][i]?))) (by kernel_rfl) (⟨Blk.cell blks, Blk.cell blks⟩) (fun hHeld => ?_)
  refine wpAnyH_take (i := 0) (v := ?_) rfl (by kernel_rfl) (by kernel_rfl) (by kernel_rfl) (fun _ _ _ h => h) (Or.inl ⟨by rfl, fun w hSw => ?_⟩) hHeld ?_
  rotate_left
  · ((try dsimp only at hSw); go_split_ands; go_simp; (try with_reducible rfl))
  try simp only [Act.put, List.getElem_toArray, List.getElem_cons_zero, List.getElem_cons_succ, List.setIfInBounds_toArray, List.set_cons_zero, List.set_cons_succ]
  refine wpAnyH_take (i := 1) (v := ?_) rfl (by kernel_rfl) (by kernel_rfl) (by kernel_rfl) (fun _ _ _ h => h) (Or.inl ⟨by rfl, fun w hSw => ?_⟩) hHeld ?_
  rotate_left
  · ((try dsimp only at hSw); go_split_ands; go_simp; (try with_reducible rfl))
  try simp only [Act.put, List.getElem_toArray, List.getElem_cons_zero, List.getElem_cons_succ, List.setIfInBounds_toArray, List.set_cons_zero, List.set_cons_succ]
  refine wpAnyH_take (i := 3) (v := ?_) rfl (by kernel_rfl) (by kernel_rfl) (by kernel_rfl) (fun _ _ _ h => h) (Or.inl ⟨by rfl, fun w hSw => ?_⟩) hHeld ?_
  rotate_left
  · ((try dsimp only at hSw); go_split_ands; go_simp; (try with_reducible rfl))
  try simp only [Act.put, List.getElem_toArray, List.getElem_cons_zero, List.getElem_cons_succ, List.setIfInBounds_toArray, List.set_cons_zero, List.set_cons_succ]
  refine wpAnyH_take (i := 4) (v := ?_) rfl (by kernel_rfl) (by kernel_rfl) (by kernel_rfl) (fun _ _ _ h => h) (Or.inl ⟨by rfl, fun w hSw => ?_⟩) hHeld ?_
  rotate_left
  · ((try dsimp only at hSw); go_split_ands; go_simp; (try with_reducible rfl))
  try simp only [Act.put, List.getElem_toArray, List.getElem_cons_zero, List.getElem_cons_succ, List.setIfInBounds_toArray, List.set_cons_zero, List.set_cons_succ]
  refine wpAnyH_ready (rs := [2]) (by kernel_rfl) (by simp) ?_
  refine AllReadyH.cons rfl (fun K hK => ?_) AllReadyH.nil
  try simp only [List.getElem_toArray, List.getElem_cons_zero, List.getElem_cons_succ]
  (go_simp; refine (c_l3Mutate g q _ aa _ (HR.out.below bel) (by omega) (HA.out.below bel) (by omega) (by omega)).mono ?_; rintro e w9 ⟨r9, a9, q9, rfl, o9, -, -, hR9, hq9, hF9⟩; have kx9 := kx.drew.fr hF9 (by omega); have ky9 := ky.drew.fr hF9 (by omega); have k09 := k0.drew.fr hF9 (by omega); have k19 := k1.drew.fr hF9 (by omega); have HF9 := Lib.hid (HF.out.drew.trans hF9); have HV9 := Lib.hid ((HV.out.below (Below.drew (Below.refl _ _))).frI hF9 hgB))
  refine hK.out _ _ (⟨kx9.cell, ky9.cell⟩) (fun hHeldN => ?_)
  clear hHeld hK K
  have hHeld := hHeldN
  clear hHeldN
  try simp only [Act.put, List.getElem_toArray, List.getElem_cons_zero, List.getElem_cons_succ, List.setIfInBounds_toArray, List.set_cons_zero, List.set_cons_succ]
  refine wpAnyH_ready (rs := [5]) (by kernel_rfl) (by simp) ?_
  refine AllReadyH.cons rfl (fun K hK => ?_) AllReadyH.nil
  try simp only [List.getElem_toArray, List.getElem_cons_zero, List.getElem_cons_succ]
  (go_simp; refine (c_l3Mutate g q9 _ bb _ hR9 (by omega) HV9.out (by omega) (by omega)).mono ?_; rintro e w10 ⟨r10, b10, q10, rfl, o10, -, -, -, -, hF10⟩; have kx10 := kx9.fr hF10 (by omega); have ky10 := ky9.fr hF10 (by omega); have k010 := k09.fr hF10 (by omega); have k110 := k19.fr hF10 (by omega); have HF10 := Lib.hid (HF9.out.trans hF10))
  refine hK.out _ _ (⟨kx10.cell, ky10.cell⟩) (fun hHeldN => ?_)
  clear hHeld hK K
  have hHeld := hHeldN
  clear hHeldN
  try simp only [Act.put, List.getElem_toArray, List.getElem_cons_zero, List.getElem_cons_succ, List.setIfInBounds_toArray, List.set_cons_zero, List.set_cons_succ]
  have hsz10 : w7.heap.size ≤ w9.heap.size := by have := hF9.size; simpa using this
  obtain ⟨fv9, av9, rfl, o91, o92⟩ := o9
  obtain ⟨F9, f9, rfl, -⟩ := o91.reads
  obtain ⟨G9, g9, rfl, -⟩ := o92.reads
  obtain ⟨fv10, av10, rfl, o101, o102⟩ := o10
  obtain ⟨F10, f10, rfl, -⟩ := o101.reads
  obtain ⟨G10, g10, rfl, -⟩ := o102.reads
  have P1 := Lib.hid ((o91.fr hF10 (by simp; omega)).lower (base' := w.heap.size) (by simp; omega))
  have P2 := Lib.hid ((o92.fr hF10 (by simp; omega)).lower (base' := w.heap.size) (by simp; omega))
  have P3 := Lib.hid (o101.lower (base' := w.heap.size) (by omega))
  have P4 := Lib.hid (o102.lower (base' := w.heap.size) (by omega))
  have HBE : Hid (Below w.heap.size w w10) := Below.trans HB1.out (HF10.out.below (by omega) (by omega))
  clear o91 o92 o101 o102 hR9 hF9 hF10 HV9 HF9
  (replace qk010 := k010.cell; replace rk010 := k010.frozen; replace lk010 := k010.lt; replace qk110 := k110.cell; replace rk110 := k110.frozen; replace lk110 := k110.lt)
  refine wpAnyH_ready (rs := [6]) (by kernel_rfl) (by simp) ?_
  refine AllReadyH.cons rfl (fun K hK => ?_) AllReadyH.nil
  try simp only [List.getElem_toArray, List.getElem_cons_zero, List.getElem_cons_succ]
  go_simp
  refine hK.out _ _ (⟨(kx10.far (p := ⟨w.heap.size, 0, none⟩) (by simp only; omega) _).far (p := ⟨w.heap.size, 1, none⟩) (by simp only; omega) _ |>.cell, (ky10.far (p := ⟨w.heap.size, 0, none⟩) (by simp only; omega) _).far (p := ⟨w.heap.size, 1, none⟩) (by simp only; omega) _ |>.cell⟩) (fun hHeldN => ?_)
  clear hHeld hK K
  have hHeld := hHeldN
  clear hHeldN
  try simp only [Act.put, List.getElem_toArray, List.getElem_cons_zero, List.getElem_cons_succ, List.setIfInBounds_toArray, List.set_cons_zero, List.set_cons_succ]
  refine wpAnyH_ready (rs := [7]) (by kernel_rfl) (by simp) ?_
  refine AllReadyH.cons rfl (fun K hK => ?_) AllReadyH.nil
  try simp only [List.getElem_toArray, List.getElem_cons_zero, List.getElem_cons_succ]
  go_simp
  refine hK.out _ _ (⟨Blk.cell blks, Blk.cell blks⟩) (fun hHeldN => ?_)
  clear hHeld hK K
  have hHeld := hHeldN
  clear hHeldN
  try simp only [Act.put, List.getElem_toArray, List.getElem_cons_zero, List.getElem_cons_succ, List.setIfInBounds_toArray, List.set_cons_zero, List.set_cons_succ]
  refine wpAnyH_done (by kernel_rfl) ?_ _
  refine NoPanic.normal ?_
  go_wp2_with fail
  have j1 := (k110.far (p := ⟨w.heap.size, 0, none⟩) (by simp only; omega) (.slice F9 a9.facts.length f9)).far (p := ⟨w.heap.size, 1, none⟩) (by simp only; omega) (.slice G9 a9.atoms.length g9)
  have hne01 : w.heap.size ≠ w.heap.size + 1 := by omega
  refine bodyPost_ret (v := .tuple #[.agg #[.slice F9 a9.facts.length f9, .slice G9 a9.atoms.length g9], .agg #[.slice F10 b10.facts.length f10, .slice G10 b10.atoms.length g10]]) (by simp [results, Try.results83, go_sem, qk010, qk110, lk010, lk110]) rfl ⟨_, _, a9, b10, rfl, ⟨_, _, rfl, ?_, ?_⟩, ⟨_, _, rfl, ?_, ?_⟩, ?_⟩
  · exact (((P1.out.setT k010 (by decide) 0 _).setT (k010.set_ 0 _) (by decide) 1 _).setT j1 (by decide) 0 _).setT (j1.set_ 0 _) (by decide) 1 _
  · exact (((P2.out.setT k010 (by decide) 0 _).setT (k010.set_ 0 _) (by decide) 1 _).setT j1 (by decide) 0 _).setT (j1.set_ 0 _) (by decide) 1 _
  · exact (((P3.out.setT k010 (by decide) 0 _).setT (k010.set_ 0 _) (by decide) 1 _).setT j1 (by decide) 0 _).setT (j1.set_ 0 _) (by decide) 1 _
  · exact (((P4.out.setT k010 (by decide) 0 _).setT (k010.set_ 0 _) (by decide) 1 _).setT j1 (by decide) 0 _).setT (j1.set_ 0 _) (by decide) 1 _
  · exact (((HBE.out.setCell (p := ⟨w.heap.size, 0, none⟩) (by simp only; omega) _).setCell (p := ⟨w.heap.size, 1, none⟩) (by simp only; omega) _).setCell (p := ⟨w.heap.size + 1, 0, none⟩) (by simp only; omega) _).setCell (p := ⟨w.heap.size + 1, 1, none⟩) (by simp only; omega) _
end Go.Proofs.Ytmjgcdolnkdfoaa
