/- What the reader draws: states and assertions. -/
import Derived.Test.YtmjgcdolnkdfoaaDrawW
import Derived.Test.YtmjgcdolnkdfoaaDrawD
import Derived.Test.YtmjgcdolnkdfoaaDrawE
set_option linter.unusedSimpArgs false
set_option linter.unusedVariables false
namespace Go.Proofs.Ytmjgcdolnkdfoaa
open Go Go.RowKit Go.Proofs
attribute [local go_sem ↓] Go.wp_at_zero Go.wp_at_succ

--@ spec.l4Args
set_option maxRecDepth 100000 in
set_option maxHeartbeats 6400000 in
theorem c_l4Args (g p : Nat) (w : World) (h : Rdr w g p) (hp : p ≤ 999000) :
    Calls Try.prog 186 #[.pointer (some ⟨g, 0, none⟩)] w fun e w' => ∃ r1 r2 s a, e = .returned (.tuple #[r1, r2]) ∧ StateO w' w.heap.size r1 s ∧ AsnO w' w.heap.size r2 a ∧ Fr g w w' := by
  have H := Lib.hid h
  have hlt := h.lt
  clear h
  go_enter Try.func186, Try.ntmps186
  have k0 : Blk ((w.alloc (.cells #[.slice none 0 0, .slice none 0 0] tSt)).alloc (.cells #[.slice none 0 0, .slice none 0 0] 26)) w.heap.size tSt #[.slice none 0 0, .slice none 0 0] := blks
  have k1 : Blk ((w.alloc (.cells #[.slice none 0 0, .slice none 0 0] tSt)).alloc (.cells #[.slice none 0 0, .slice none 0 0] 26)) (w.heap.size + 1) 26 #[.slice none 0 0, .slice none 0 0] := blks
  have hB0 : Below w.heap.size w ((w.alloc (.cells #[.slice none 0 0, .slice none 0 0] tSt)).alloc (.cells #[.slice none 0 0, .slice none 0 0] 26)) := bel
  have hs0 : ((w.alloc (.cells #[.slice none 0 0, .slice none 0 0] tSt)).alloc (.cells #[.slice none 0 0, .slice none 0 0] 26)).heap.size = w.heap.size + 2 := by simp
  go_wp2_with fail
  generalize ((w.alloc (.cells #[.slice none 0 0, .slice none 0 0] tSt)).alloc (.cells #[.slice none 0 0, .slice none 0 0] 26)) = W0 at k0 k1 hB0 hs0 ⊢
  refine (c_l3Draw g p _ (H.out.below hB0) (by omega)).mono ?_
  rintro e w2 ⟨r2, a2, q2, rfl, o2, hv2, hl2, hl3, hR, hq, hF⟩
  replace k0 := k0.fr hF (by omega)
  replace k1 := k1.fr hF (by omega)
  have HV2 := Lib.hid hv2
  have HF2 := Lib.hid ((Fr.ofBelow hB0).trans hF)
  have HR2 := Lib.hid hR
  have hz2 := hF.size
  obtain ⟨fv, av, rfl, of2, oa2⟩ := o2
  obtain ⟨F, e1, rfl, -⟩ := of2.reads
  obtain ⟨G, e2, rfl, -⟩ := oa2.reads
  have HAV : Hid (AsnV w2 W0.heap.size w2.heap.size (.agg #[.slice F a2.facts.length e1, .slice G a2.atoms.length e2]) a2) := AsnO.reads ⟨_, _, rfl, of2, oa2⟩
  have hgb : g < W0.heap.size := by omega
  obtain ⟨X, hX⟩ : ∃ X, X = w2.heap.size := ⟨_, rfl⟩
  have ka : Blk (w2.alloc (.cells #[.slice F a2.facts.length e1, .slice G a2.atoms.length e2] 26)) X 26 #[.slice F a2.facts.length e1, .slice G a2.atoms.length e2] := by rw [hX]; exact Blk.new _ _ _
  replace k0 := k0.alloc (.cells #[.slice F a2.facts.length e1, .slice G a2.atoms.length e2] 26)
  replace k1 := k1.alloc (.cells #[.slice F a2.facts.length e1, .slice G a2.atoms.length e2] 26)
  have hBx : Below w2.heap.size w2 (w2.alloc (.cells #[.slice F a2.facts.length e1, .slice G a2.atoms.length e2] 26)) := bbox (Below.refl _ _) _
  have hsx : (w2.alloc (.cells #[.slice F a2.facts.length e1, .slice G a2.atoms.length e2] 26)).heap.size = w2.heap.size + 1 := by simp
  have HA3 := Lib.hid (HAV.out.below hBx)
  have HR3 := Lib.hid (HR2.out.below hBx)
  have HF3 := Lib.hid (HF2.out.go hBx)
  clear hR hF of2 oa2 hv2 HAV HR2 HF2 H hB0 hBx
  (replace qka := ka.cell; replace rka := ka.frozen; replace lka := ka.lt)
  go_wp2_with fail
  rw [← hX]
  generalize (w2.alloc (.cells #[.slice F a2.facts.length e1, .slice G a2.atoms.length e2] 26)) = W2 at k0 k1 ka HA3 HR3 HF3 hsx qka rka lka ⊢
  have hX2 : w2.heap.size ≤ X := by omega
  have hsx2 : w2.heap.size + 1 ≤ W2.heap.size := by omega
  have hW0 : w.heap.size + 2 ≤ W0.heap.size := by omega
  clear hX hsx hs0
  refine (c_l4Build g q2 _ a2 _ HR3.out (by omega) HA3.out HV2.out hgb).mono ?_
  rintro e w3 ⟨r3, s3, q3, rfl, o3, hs1, hs2, hR, hq3, hF⟩
  replace k0 := k0.fr hF (by omega)
  replace k1 := k1.fr hF (by omega)
  have lka0 := ka.lt
  replace ka := ka.fr hF (by omega)
  have HF4 := Lib.hid (HF3.out.trans hF)
  have hz3 := hF.size
  have HA4 := Lib.hid (HA3.out.frl hF hgb)
  obtain ⟨fv3, av3, rfl, o31, o32, dj3⟩ := o3
  obtain ⟨V3, c3, rfl, -⟩ := o31.reads
  obtain ⟨B3, d3, rfl, -⟩ := o32.reads
  obtain ⟨Y, hY⟩ : ∃ Y, Y = w3.heap.size := ⟨_, rfl⟩
  have ks : Blk (w3.alloc (.cells #[.slice V3 s3.values.length c3, .slice B3 s3.heap.length d3] tSt)) Y tSt #[.slice V3 s3.values.length c3, .slice B3 s3.heap.length d3] := by rw [hY]; exact Blk.new _ _ _
  replace k0 := k0.alloc (.cells #[.slice V3 s3.values.length c3, .slice B3 s3.heap.length d3] tSt)
  replace k1 := k1.alloc (.cells #[.slice V3 s3.values.length c3, .slice B3 s3.heap.length d3] tSt)
  replace ka := ka.alloc (.cells #[.slice V3 s3.values.length c3, .slice B3 s3.heap.length d3] tSt)
  have hBy : Below w3.heap.size w3 (w3.alloc (.cells #[.slice V3 s3.values.length c3, .slice B3 s3.heap.length d3] tSt)) := bbox (Below.refl _ _) _
  have hsy : (w3.alloc (.cells #[.slice V3 s3.values.length c3, .slice B3 s3.heap.length d3] tSt)).heap.size = w3.heap.size + 1 := by simp
  have HA4' := Lib.hid (HA4.out.below hBy)
  have HR4 := Lib.hid (hR.below hBy)
  have HF4' := Lib.hid (HF4.out.go hBy)
  have HO1 := Lib.hid (o31.below hBy)
  have HO2 := Lib.hid (o32.below hBy)
  clear hR hF o31 o32 HA4 HF4 HA3 HR3 HF3 hBy qka rka lka dj3
  go_wp2_with fail
  rw [← hY]
  generalize (w3.alloc (.cells #[.slice V3 s3.values.length c3, .slice B3 s3.heap.length d3] tSt)) = W3 at k0 k1 ka ks HA4' HR4 HF4' HO1 HO2 hsy ⊢
  have hY2 : w3.heap.size ≤ Y := by omega
  have hsy2 : w3.heap.size + 1 ≤ W3.heap.size := by omega
  have hXl : X < w3.heap.size := by have := lka0; omega
  clear hY hsy
  refine (c_pick g q3 8 _ HR4.out (by omega)).mono ?_
  rintro e w4 ⟨m, rfl, -, hR, hF⟩
  replace k0 := k0.fr hF (by omega)
  replace k1 := k1.fr hF (by omega)
  replace ka := ka.fr hF (by omega)
  replace ks := ks.fr hF (by omega)
  have hW2g : g < W2.heap.size := by omega
  have HF5 := Lib.hid (HF4'.out.trans hF)
  have HA5 := Lib.hid (HA4'.out.frl hF hgb)
  have HR5 := Lib.hid hR
  have o1 := HO1.out.fr hF hW2g
  have o2 := HO2.out.fr hF hW2g
  have hz4 := hF.size
  clear hR hF HA4' HR4 HF4' HO1 HO2
  by_cases hm0 : (m : Int) = 0
  · have hmb : ((m : Int) == 0) = true := by simpa using hm0
    clear hm0
    go_wp2_with fail
    refine (c_l2Draw g (q3 + 1) _ HR5.out (by omega)).mono ?_
    rintro e w5' ⟨r5, s, q5, rfl, o5, hsv, hR, hq5, hF⟩
    have k0' := k0.fr hF (by omega)
    have k1' := k1.fr hF (by omega)
    have ka' := ka.fr hF (by omega)
    have ks' := ks.fr hF (by omega)
    have HF6 := Lib.hid (HF5.out.trans hF)
    have HA6 := Lib.hid (HA5.out.frl hF hgb)
    have hR6 := Lib.hid hR
    have hz5 := hF.size
    have hl5 : s.values.length ≤ 900 := by have := (Ste.valid_len hsv).1; omega
    have hl5' : s.heap.length ≤ 900 := by have := (Ste.valid_len hsv).2; omega
    obtain ⟨fv5, av5, rfl, o51, o52, dj5⟩ := o5
    obtain ⟨V5, c5, rfl, -⟩ := o51.reads
    obtain ⟨B5, d5, rfl, -⟩ := o52.reads
    obtain ⟨w5, hw5⟩ : ∃ w5, w5 = (w5'.setCell ⟨Y, 0, none⟩ (.slice V5 s.values.length c5)).setCell ⟨Y, 1, none⟩ (.slice B5 s.heap.length d5) := ⟨_, rfl⟩
    have hYl := ks'.lt
    have hBz : Below Y w5' w5 := by rw [hw5]; exact (Below.setCell (p := ⟨Y, 0, none⟩) (Below.refl _ _) (Nat.le_refl _) _).setCell (p := ⟨Y, 1, none⟩) (Nat.le_refl _) _
    have hXY : X < Y := by omega
    (replace qks' := ks'.cell; replace rks' := ks'.frozen; replace lks' := ks'.lt)
    clear k0 k1 ka ks HF5 HA5 HR5 hR hF hsv
    have k0 : Blk w5 w.heap.size tSt #[.slice none 0 0, .slice none 0 0] := k0'.below hBz (by omega)
    have k1 : Blk w5 (w.heap.size + 1) 26 #[.slice none 0 0, .slice none 0 0] := k1'.below hBz (by omega)
    have ka : Blk w5 X 26 #[.slice F a2.facts.length e1, .slice G a2.atoms.length e2] := ka'.below hBz hXY
    have ks : Blk w5 Y tSt #[.slice V5 s.values.length c5, .slice B5 s.heap.length d5] := by rw [hw5]; simpa using (ks'.set_ 0 (.slice V5 s.values.length c5)).set_ 1 (.slice B5 s.heap.length d5)
    have HF5 : Hid (Fr g w w5) := HF6.out.goB hBz (by omega)
    have HR5 : Hid (Rdr w5 g q5) := hR6.out.belowB hBz (by omega)
    have HA5 : Hid (AsnV w5 W0.heap.size w2.heap.size (.agg #[.slice F a2.facts.length e1, .slice G a2.atoms.length e2]) a2) := by
      obtain ⟨A1, c1, A2, c2, ee, hh1, hh2⟩ := HA6.out
      exact ⟨A1, c1, A2, c2, ee, hh1.keepB hBz (by omega), hh2.keepB hBz (by omega)⟩
    have o1 : IntsO w5 w4.heap.size (.slice V5 s.values.length c5) s.values := by rw [hw5]; exact (o51.setT ks' (by decide) 0 _).setT (ks'.set_ 0 _) (by decide) 1 _
    have o2 : IntsO w5 w4.heap.size (.slice B5 s.heap.length d5) s.heap := by rw [hw5]; exact (o52.setT ks' (by decide) 0 _).setT (ks'.set_ 0 _) (by decide) 1 _
    have hlw5 : w5'.heap.size ≤ w5.heap.size := hBz.size
    clear k0' k1' ka' HF6 hR6 HA6 o51 o52 dj5
    go_wp2_with fail
    rw [← hw5]
    clear hw5 ks' qks' rks' lks'
    have hp5 : q5 ≤ 999800 := by omega
    have HSV : Hid (StateV w5 0 w5.heap.size (.agg #[.slice V5 s.values.length c5, .slice B5 s.heap.length d5]) s) := ⟨V5, c5, B5, d5, rfl, (o1.readsI).2.mono (Nat.zero_le _) (Nat.le_refl _), (o2.readsI).2.mono (Nat.zero_le _) (Nat.le_refl _)⟩
    clear o1 o2
    (replace qka := ka.cell; replace rka := ka.frozen; replace lka := ka.lt; replace qks := ks.cell; replace rks := ks.frozen; replace lks := ks.lt)
    go_wp2_with fail
    refine wp_region_noPanic ?_
    refine wp_region_held_drew (S := (fun w' => (∀ i, w'.cell? ⟨X, i, none⟩ = #[.slice F a2.facts.length e1, .slice G a2.atoms.length e2][i]?) ∧ (∀ i, w'.cell? ⟨Y, i, none⟩ = #[.slice V5 s.values.length c5, .slice B5 s.heap.length d5][i]?))) (by kernel_rfl) (⟨Blk.cell blks, Blk.cell blks⟩) (fun hHeld => ?_)
    refine wpAnyH_take (i := 0) (v := ?_) rfl (by kernel_rfl) (by kernel_rfl) (by kernel_rfl) (fun _ _ _ h => h) (Or.inl ⟨by rfl, fun w hSw => ?_⟩) hHeld ?_
    rotate_left
    · ((try dsimp only at hSw); go_split_ands; go_simp; (try with_reducible rfl))
    try simp only [Act.put, List.getElem_toArray, List.getElem_cons_zero, List.getElem_cons_succ, List.setIfInBounds_toArray, List.set_cons_zero, List.set_cons_succ]
    refine wpAnyH_take (i := 1) (v := ?_) rfl (by kernel_rfl) (by kernel_rfl) (by kernel_rfl) (fun _ _ _ h => h) (Or.inl ⟨by rfl, fun w hSw => ?_⟩) hHeld ?_
    rotate_left
    · ((try dsimp only at hSw); go_split_ands; go_simp; (try with_reducible rfl))
    try simp only [Act.put, List.getElem_toArray, List.getElem_cons_zero, List.getElem_cons_succ, List.setIfInBounds_toArray, List.set_cons_zero, List.set_cons_succ]
    refine wpAnyH_take (i := 3) (v := ?_) rfl (by kernel_rfl) (by kernel_rfl) (by kernel_rfl) (fun _ _ _ h => h) (Or.inl ⟨by rfl, fun w hSw => ?_⟩) hHeld ?_
    rotate_left
    · ((try dsimp only at hSw); go_split_ands; go_simp; (try with_reducible rfl))
    try simp only [Act.put, List.getElem_toArray, List.getElem_cons_zero, List.getElem_cons_succ, List.setIfInBounds_toArray, List.set_cons_zero, List.set_cons_succ]
    refine wpAnyH_take (i := 4) (v := ?_) rfl (by kernel_rfl) (by kernel_rfl) (by kernel_rfl) (fun _ _ _ h => h) (Or.inl ⟨by rfl, fun w hSw => ?_⟩) hHeld ?_
    rotate_left
    · ((try dsimp only at hSw); go_split_ands; go_simp; (try with_reducible rfl))
    try simp only [Act.put, List.getElem_toArray, List.getElem_cons_zero, List.getElem_cons_succ, List.setIfInBounds_toArray, List.set_cons_zero, List.set_cons_succ]
    refine wpAnyH_ready (rs := [2]) (by kernel_rfl) (by simp) ?_
    refine AllReadyH.cons rfl (fun K hK => ?_) AllReadyH.nil
    try simp only [List.getElem_toArray, List.getElem_cons_zero, List.getElem_cons_succ]
    (go_simp; refine (c_l2Mutate g q5 _ s _ (HR5.out.below bel) (by omega) (HSV.out.below bel) hl5 hl5').mono ?_; rintro e w6 ⟨r6, s6, q6, rfl, o6, -, -, hR6, hq6, hF6⟩; have ka6 := ka.drew.fr hF6 (by omega); have ks6 := ks.drew.fr hF6 (by omega); have k06 := k0.drew.fr hF6 (by omega); have k16 := k1.drew.fr hF6 (by omega); have HF6 := Lib.hid (HF5.out.drew.trans hF6); have HA6 := Lib.hid ((HA5.out.below (Below.drew (Below.refl _ _))).frl hF6 hgb); have hz6 := HF5.out.size; have hgw5 : g < w5.heap.size := by omega)
    refine hK.out _ _ (⟨ka6.cell, ks6.cell⟩) (fun hHeldN => ?_)
    clear hHeld hK K
    have hHeld := hHeldN
    clear hHeldN
    try simp only [Act.put, List.getElem_toArray, List.getElem_cons_zero, List.getElem_cons_succ, List.setIfInBounds_toArray, List.set_cons_zero, List.set_cons_succ]
    refine wpAnyH_ready (rs := [5]) (by kernel_rfl) (by simp) ?_
    refine AllReadyH.cons rfl (fun K hK => ?_) AllReadyH.nil
    try simp only [List.getElem_toArray, List.getElem_cons_zero, List.getElem_cons_succ]
    (go_simp; refine (c_l3Mutate g q6 _ a2 _ hR6 (by omega) HA6.out (by omega) (by omega)).mono ?_; rintro e w7 ⟨r7, a7, q7, rfl, o7, -, -, hR7, hq7, hF7⟩; have ka7 := ka6.fr hF7 (by omega); have ks7 := ks6.fr hF7 (by omega); have k07 := k06.fr hF7 (by omega); have k17 := k16.fr hF7 (by omega); have HF7 := Lib.hid (HF6.out.trans hF7); have hz7 := HF6.out.size)
    refine hK.out _ _ (⟨ka7.cell, ks7.cell⟩) (fun hHeldN => ?_)
    clear hHeld hK K
    have hHeld := hHeldN
    clear hHeldN
    try simp only [Act.put, List.getElem_toArray, List.getElem_cons_zero, List.getElem_cons_succ, List.setIfInBounds_toArray, List.set_cons_zero, List.set_cons_succ]
    obtain ⟨fv6, av6, rfl, o61, o62, dj6⟩ := o6
    obtain ⟨V6, c6, rfl, -⟩ := o61.reads
    obtain ⟨B6, d6, rfl, -⟩ := o62.reads
    obtain ⟨fv7, av7, rfl, o71, o72⟩ := o7
    obtain ⟨F7, e7, rfl, -⟩ := o71.reads
    obtain ⟨G7, g7, rfl, -⟩ := o72.reads
    have P1 := Lib.hid ((o61.fr hF7 (by simp; omega)).lower (base' := w.heap.size) (by simp; omega))
    have P2 := Lib.hid ((o62.fr hF7 (by simp; omega)).lower (base' := w.heap.size) (by simp; omega))
    have P3 := Lib.hid (o71.lower (base' := w.heap.size) (by omega))
    have P4 := Lib.hid (o72.lower (base' := w.heap.size) (by omega))
    have DJ := Lib.hid dj6
    clear o61 o62 o71 o72 dj6 hR6 hR7 hF6 hF7 HA6 HF6
    (replace qk07 := k07.cell; replace rk07 := k07.frozen; replace lk07 := k07.lt; replace qk17 := k17.cell; replace rk17 := k17.frozen; replace lk17 := k17.lt)
    refine wpAnyH_ready (rs := [6]) (by kernel_rfl) (by simp) ?_
    refine AllReadyH.cons rfl (fun K hK => ?_) AllReadyH.nil
    try simp only [List.getElem_toArray, List.getElem_cons_zero, List.getElem_cons_succ]
    go_simp
    refine hK.out _ _ (⟨(ka7.far (p := ⟨w.heap.size, 0, none⟩) (by simp only; omega) _).far (p := ⟨w.heap.size, 1, none⟩) (by simp only; omega) _ |>.cell, (ks7.far (p := ⟨w.heap.size, 0, none⟩) (by simp only; omega) _).far (p := ⟨w.heap.size, 1, none⟩) (by simp only; omega) _ |>.cell⟩) (fun hHeldN => ?_)
    clear hHeld hK K
    have hHeld := hHeldN
    clear hHeldN
    try simp only [Act.put, List.getElem_toArray, List.getElem_cons_zero, List.getElem_cons_succ, List.setIfInBounds_toArray, List.set_cons_zero, List.set_cons_succ]
    refine wpAnyH_ready (rs := [7]) (by kernel_rfl) (by simp) ?_
    refine AllReadyH.cons rfl (fun K hK => ?_) AllReadyH.nil
    try simp only [List.getElem_toArray, List.getElem_cons_zero, List.getElem_cons_succ]
    go_simp
    refine hK.out _ _ (⟨Blk.cell blks, Blk.cell blks⟩) (fun hHeldN => ?_)
    clear hHeld hK K
    have hHeld := hHeldN
    clear hHeldN
    try simp only [Act.put, List.getElem_toArray, List.getElem_cons_zero, List.getElem_cons_succ, List.setIfInBounds_toArray, List.set_cons_zero, List.set_cons_succ]
    refine wpAnyH_done (by kernel_rfl) ?_ _
    refine NoPanic.normal ?_
    go_wp2_with fail
    have j1 := (k17.far (p := ⟨w.heap.size, 0, none⟩) (by simp only; omega) (.slice V6 s6.values.length c6)).far (p := ⟨w.heap.size, 1, none⟩) (by simp only; omega) (.slice B6 s6.heap.length d6)
    have hne01 : w.heap.size ≠ w.heap.size + 1 := by omega
    refine bodyPost_ret (v := .tuple #[.agg #[.slice V6 s6.values.length c6, .slice B6 s6.heap.length d6], .agg #[.slice F7 a7.facts.length e7, .slice G7 a7.atoms.length g7]]) (by simp [results, Try.results186, go_sem, qk07, qk17, lk07, lk17]) rfl ⟨_, _, s6, a7, rfl, ⟨_, _, rfl, ?_, ?_, DJ.out⟩, ⟨_, _, rfl, ?_, ?_⟩, ?_⟩
    · exact (((P1.out.setT k07 (by decide) 0 _).setT (k07.set_ 0 _) (by decide) 1 _).setT j1 (by decide) 0 _).setT (j1.set_ 0 _) (by decide) 1 _
    · exact (((P2.out.setT k07 (by decide) 0 _).setT (k07.set_ 0 _) (by decide) 1 _).setT j1 (by decide) 0 _).setT (j1.set_ 0 _) (by decide) 1 _
    · exact (((P3.out.setT k07 (by decide) 0 _).setT (k07.set_ 0 _) (by decide) 1 _).setT j1 (by decide) 0 _).setT (j1.set_ 0 _) (by decide) 1 _
    · exact (((P4.out.setT k07 (by decide) 0 _).setT (k07.set_ 0 _) (by decide) 1 _).setT j1 (by decide) 0 _).setT (j1.set_ 0 _) (by decide) 1 _
    · exact (((HF7.out.set_ (p := ⟨w.heap.size, 0, none⟩) (Or.inr (by simp only; omega)) _).set_ (p := ⟨w.heap.size, 1, none⟩) (Or.inr (by simp only; omega)) _).set_ (p := ⟨w.heap.size + 1, 0, none⟩) (Or.inr (by simp only; omega)) _).set_ (p := ⟨w.heap.size + 1, 1, none⟩) (Or.inr (by simp only; omega)) _
  · have hmb : ((m : Int) == 0) = false := by simpa using hm0
    clear hm0
    obtain ⟨w5, hw5⟩ : ∃ w5, w5 = w4 := ⟨_, rfl⟩
    obtain ⟨s, hss⟩ : ∃ s, s = s3 := ⟨_, rfl⟩
    rw [← hw5] at k0 k1 ka ks HF5 HA5 HR5 o1 o2 hz4 ⊢
    rw [← hss] at o1 o2 ks hs1 hs2 ⊢
    have hl5 := hs1
    have hl5' := hs2
    obtain ⟨q5, hq5⟩ : ∃ q5, q5 = q3 + 1 := ⟨_, rfl⟩
    rw [← hq5] at HR5
    clear hw5 hss
    have hp5 : q5 ≤ 999800 := by omega
    have HSV : Hid (StateV w5 0 w5.heap.size (.agg #[.slice V3 s.values.length c3, .slice B3 s.heap.length d3]) s) := ⟨V3, c3, B3, d3, rfl, (o1.readsI).2.mono (Nat.zero_le _) (Nat.le_refl _), (o2.readsI).2.mono (Nat.zero_le _) (Nat.le_refl _)⟩
    clear o1 o2
    (replace qka := ka.cell; replace rka := ka.frozen; replace lka := ka.lt; replace qks := ks.cell; replace rks := ks.frozen; replace lks := ks.lt)
    go_wp2_with fail
    refine wp_region_noPanic ?_
    refine wp_region_held_drew (S := (fun w' => (∀ i, w'.cell? ⟨X, i, none⟩ = #[.slice F a2.facts.length e1, .slice G a2.atoms.length e2][i]?) ∧ (∀ i, w'.cell? ⟨Y, i, none⟩ = #[.slice V3 s.values.length c3, .slice B3 s.heap.length d3][i]?))) (by kernel_rfl) (⟨Blk.cell blks, Blk.cell blks⟩) (fun hHeld => ?_)
    refine wpAnyH_take (i := 0) (v := ?_) rfl (by kernel_rfl) (by kernel_rfl) (by kernel_rfl) (fun _ _ _ h => h) (Or.inl ⟨by rfl, fun w hSw => ?_⟩) hHeld ?_
    rotate_left
    · ((try dsimp only at hSw); go_split_ands; go_simp; (try with_reducible rfl))
    try simp only [Act.put, List.getElem_toArray, List.getElem_cons_zero, List.getElem_cons_succ, List.setIfInBounds_toArray, List.set_cons_zero, List.set_cons_succ]
    refine wpAnyH_take (i := 1) (v := ?_) rfl (by kernel_rfl) (by kernel_rfl) (by kernel_rfl) (fun _ _ _ h => h) (Or.inl ⟨by rfl, fun w hSw => ?_⟩) hHeld ?_
    rotate_left
    · ((try dsimp only at hSw); go_split_ands; go_simp; (try with_reducible rfl))
    try simp only [Act.put, List.getElem_toArray, List.getElem_cons_zero, List.getElem_cons_succ, List.setIfInBounds_toArray, List.set_cons_zero, List.set_cons_succ]
    refine wpAnyH_take (i := 3) (v := ?_) rfl (by kernel_rfl) (by kernel_rfl) (by kernel_rfl) (fun _ _ _ h => h) (Or.inl ⟨by rfl, fun w hSw => ?_⟩) hHeld ?_
    rotate_left
    · ((try dsimp only at hSw); go_split_ands; go_simp; (try with_reducible rfl))
    try simp only [Act.put, List.getElem_toArray, List.getElem_cons_zero, List.getElem_cons_succ, List.setIfInBounds_toArray, List.set_cons_zero, List.set_cons_succ]
    refine wpAnyH_take (i := 4) (v := ?_) rfl (by kernel_rfl) (by kernel_rfl) (by kernel_rfl) (fun _ _ _ h => h) (Or.inl ⟨by rfl, fun w hSw => ?_⟩) hHeld ?_
    rotate_left
    · ((try dsimp only at hSw); go_split_ands; go_simp; (try with_reducible rfl))
    try simp only [Act.put, List.getElem_toArray, List.getElem_cons_zero, List.getElem_cons_succ, List.setIfInBounds_toArray, List.set_cons_zero, List.set_cons_succ]
    refine wpAnyH_ready (rs := [2]) (by kernel_rfl) (by simp) ?_
    refine AllReadyH.cons rfl (fun K hK => ?_) AllReadyH.nil
    try simp only [List.getElem_toArray, List.getElem_cons_zero, List.getElem_cons_succ]
    (go_simp; refine (c_l2Mutate g q5 _ s _ (HR5.out.below bel) (by omega) (HSV.out.below bel) hl5 hl5').mono ?_; rintro e w6 ⟨r6, s6, q6, rfl, o6, -, -, hR6, hq6, hF6⟩; have ka6 := ka.drew.fr hF6 (by omega); have ks6 := ks.drew.fr hF6 (by omega); have k06 := k0.drew.fr hF6 (by omega); have k16 := k1.drew.fr hF6 (by omega); have HF6 := Lib.hid (HF5.out.drew.trans hF6); have HA6 := Lib.hid ((HA5.out.below (Below.drew (Below.refl _ _))).frl hF6 hgb); have hz6 := HF5.out.size; have hgw5 : g < w5.heap.size := by omega)
    refine hK.out _ _ (⟨ka6.cell, ks6.cell⟩) (fun hHeldN => ?_)
    clear hHeld hK K
    have hHeld := hHeldN
    clear hHeldN
    try simp only [Act.put, List.getElem_toArray, List.getElem_cons_zero, List.getElem_cons_succ, List.setIfInBounds_toArray, List.set_cons_zero, List.set_cons_succ]
    refine wpAnyH_ready (rs := [5]) (by kernel_rfl) (by simp) ?_
    refine AllReadyH.cons rfl (fun K hK => ?_) AllReadyH.nil
    try simp only [List.getElem_toArray, List.getElem_cons_zero, List.getElem_cons_succ]
    (go_simp; refine (c_l3Mutate g q6 _ a2 _ hR6 (by omega) HA6.out (by omega) (by omega)).mono ?_; rintro e w7 ⟨r7, a7, q7, rfl, o7, -, -, hR7, hq7, hF7⟩; have ka7 := ka6.fr hF7 (by omega); have ks7 := ks6.fr hF7 (by omega); have k07 := k06.fr hF7 (by omega); have k17 := k16.fr hF7 (by omega); have HF7 := Lib.hid (HF6.out.trans hF7); have hz7 := HF6.out.size)
    refine hK.out _ _ (⟨ka7.cell, ks7.cell⟩) (fun hHeldN => ?_)
    clear hHeld hK K
    have hHeld := hHeldN
    clear hHeldN
    try simp only [Act.put, List.getElem_toArray, List.getElem_cons_zero, List.getElem_cons_succ, List.setIfInBounds_toArray, List.set_cons_zero, List.set_cons_succ]
    obtain ⟨fv6, av6, rfl, o61, o62, dj6⟩ := o6
    obtain ⟨V6, c6, rfl, -⟩ := o61.reads
    obtain ⟨B6, d6, rfl, -⟩ := o62.reads
    obtain ⟨fv7, av7, rfl, o71, o72⟩ := o7
    obtain ⟨F7, e7, rfl, -⟩ := o71.reads
    obtain ⟨G7, g7, rfl, -⟩ := o72.reads
    have P1 := Lib.hid ((o61.fr hF7 (by simp; omega)).lower (base' := w.heap.size) (by simp; omega))
    have P2 := Lib.hid ((o62.fr hF7 (by simp; omega)).lower (base' := w.heap.size) (by simp; omega))
    have P3 := Lib.hid (o71.lower (base' := w.heap.size) (by omega))
    have P4 := Lib.hid (o72.lower (base' := w.heap.size) (by omega))
    have DJ := Lib.hid dj6
    clear o61 o62 o71 o72 dj6 hR6 hR7 hF6 hF7 HA6 HF6
    (replace qk07 := k07.cell; replace rk07 := k07.frozen; replace lk07 := k07.lt; replace qk17 := k17.cell; replace rk17 := k17.frozen; replace lk17 := k17.lt)
    refine wpAnyH_ready (rs := [6]) (by kernel_rfl) (by simp) ?_
    refine AllReadyH.cons rfl (fun K hK => ?_) AllReadyH.nil
    try simp only [List.getElem_toArray, List.getElem_cons_zero, List.getElem_cons_succ]
    go_simp
    refine hK.out _ _ (⟨(ka7.far (p := ⟨w.heap.size, 0, none⟩) (by simp only; omega) _).far (p := ⟨w.heap.size, 1, none⟩) (by simp only; omega) _ |>.cell, (ks7.far (p := ⟨w.heap.size, 0, none⟩) (by simp only; omega) _).far (p := ⟨w.heap.size, 1, none⟩) (by simp only; omega) _ |>.cell⟩) (fun hHeldN => ?_)
    clear hHeld hK K
    have hHeld := hHeldN
    clear hHeldN
    try simp only [Act.put, List.getElem_toArray, List.getElem_cons_zero, List.getElem_cons_succ, List.setIfInBounds_toArray, List.set_cons_zero, List.set_cons_succ]
    refine wpAnyH_ready (rs := [7]) (by kernel_rfl) (by simp) ?_
    refine AllReadyH.cons rfl (fun K hK => ?_) AllReadyH.nil
    try simp only [List.getElem_toArray, List.getElem_cons_zero, List.getElem_cons_succ]
    go_simp
    refine hK.out _ _ (⟨Blk.cell blks, Blk.cell blks⟩) (fun hHeldN => ?_)
    clear hHeld hK K
    have hHeld := hHeldN
    clear hHeldN
    try simp only [Act.put, List.getElem_toArray, List.getElem_cons_zero, List.getElem_cons_succ, List.setIfInBounds_toArray, List.set_cons_zero, List.set_cons_succ]
    refine wpAnyH_done (by kernel_rfl) ?_ _
    refine NoPanic.normal ?_
    go_wp2_with fail
    have j1 := (k17.far (p := ⟨w.heap.size, 0, none⟩) (by simp only; omega) (.slice V6 s6.values.length c6)).far (p := ⟨w.heap.size, 1, none⟩) (by simp only; omega) (.slice B6 s6.heap.length d6)
    have hne01 : w.heap.size ≠ w.heap.size + 1 := by omega
    refine bodyPost_ret (v := .tuple #[.agg #[.slice V6 s6.values.length c6, .slice B6 s6.heap.length d6], .agg #[.slice F7 a7.facts.length e7, .slice G7 a7.atoms.length g7]]) (by simp [results, Try.results186, go_sem, qk07, qk17, lk07, lk17]) rfl ⟨_, _, s6, a7, rfl, ⟨_, _, rfl, ?_, ?_, DJ.out⟩, ⟨_, _, rfl, ?_, ?_⟩, ?_⟩
    · exact (((P1.out.setT k07 (by decide) 0 _).setT (k07.set_ 0 _) (by decide) 1 _).setT j1 (by decide) 0 _).setT (j1.set_ 0 _) (by decide) 1 _
    · exact (((P2.out.setT k07 (by decide) 0 _).setT (k07.set_ 0 _) (by decide) 1 _).setT j1 (by decide) 0 _).setT (j1.set_ 0 _) (by decide) 1 _
    · exact (((P3.out.setT k07 (by decide) 0 _).setT (k07.set_ 0 _) (by decide) 1 _).setT j1 (by decide) 0 _).setT (j1.set_ 0 _) (by decide) 1 _
    · exact (((P4.out.setT k07 (by decide) 0 _).setT (k07.set_ 0 _) (by decide) 1 _).setT j1 (by decide) 0 _).setT (j1.set_ 0 _) (by decide) 1 _
    · exact (((HF7.out.set_ (p := ⟨w.heap.size, 0, none⟩) (Or.inr (by simp only; omega)) _).set_ (p := ⟨w.heap.size, 1, none⟩) (Or.inr (by simp only; omega)) _).set_ (p := ⟨w.heap.size + 1, 0, none⟩) (Or.inr (by simp only; omega)) _).set_ (p := ⟨w.heap.size + 1, 1, none⟩) (Or.inr (by simp only; omega)) _
end Go.Proofs.Ytmjgcdolnkdfoaa

/- What the reader draws: the arguments of HoldsPart and Holds. -/
namespace Go.Proofs.Ytmjgcdolnkdfoaa
open Go Go.RowKit Go.Proofs
attribute [local go_sem ↓] Go.wp_at_zero Go.wp_at_succ

--@ spec.DrawHolds
set_option maxRecDepth 100000 in
set_option maxHeartbeats 6400000 in
theorem c_DrawHolds (A : Option Addr) (n c : Nat) (w : World) (h : BytesR w A n c) :
    Calls Try.prog 93 #[.slice A n c] w fun e w' => ∃ r1 r2 s a, e = .returned (.tuple #[r1, r2]) ∧ StateO w' w.heap.size r1 s ∧ AsnO w' w.heap.size r2 a ∧ Below w.heap.size w w' := by
  have HR0 : Hid (BytesR ((w.alloc (.cells #[.slice none 0 0, .slice none 0 0] tSt)).alloc (.cells #[.slice none 0 0, .slice none 0 0] 26)) A n c) := by
    obtain ⟨bs, h1, h2, h3⟩ := h
    exact ⟨bs, h1, (h2.below (bbox (bbox (Below.refl _ _) _) _)).mono (Nat.le_refl _) (by simp; omega), h3⟩
  clear h
  go_enter Try.func93, Try.ntmps93
  have k0 : Blk ((w.alloc (.cells #[.slice none 0 0, .slice none 0 0] tSt)).alloc (.cells #[.slice none 0 0, .slice none 0 0] 26)) w.heap.size tSt #[.slice none 0 0, .slice none 0 0] := blks
  have k1 : Blk ((w.alloc (.cells #[.slice none 0 0, .slice none 0 0] tSt)).alloc (.cells #[.slice none 0 0, .slice none 0 0] 26)) (w.heap.size + 1) 26 #[.slice none 0 0, .slice none 0 0] := blks
  have hB0 : Below w.heap.size w ((w.alloc (.cells #[.slice none 0 0, .slice none 0 0] tSt)).alloc (.cells #[.slice none 0 0, .slice none 0 0] 26)) := bel
  have hs0 : w.heap.size + 2 ≤ ((w.alloc (.cells #[.slice none 0 0, .slice none 0 0] tSt)).alloc (.cells #[.slice none 0 0, .slice none 0 0] 26)).heap.size := by simp
  go_wp2_with fail
  generalize ((w.alloc (.cells #[.slice none 0 0, .slice none 0 0] tSt)).alloc (.cells #[.slice none 0 0, .slice none 0 0] 26)) = W0 at k0 k1 hB0 hs0 HR0 ⊢
  refine (c_l18Open A n c _ HR0.out).mono ?_
  rintro e w1 ⟨g, rfl, hg, hR, hB1⟩
  replace k0 := k0.next hB1
  replace k1 := k1.next hB1
  have HB1 := Lib.hid (bgo hB0 hB1)
  have HR1 := Lib.hid hR
  have lg := hR.lt
  have hz1 := hB1.size
  clear hR hB1 HR0 hB0
  go_wp2_with fail
  refine (c_l4Args g 0 _ HR1.out (by omega)).mono ?_
  rintro e w7 ⟨r1, r2, s6, a7, rfl, o6, o7, hF⟩
  have k07 := k0.fr hF (by omega)
  have k17 := k1.fr hF (by omega)
  have HB7 : Hid (Below w.heap.size w w7) := by
    refine Below.trans HB1.out ?_
    exact hF.below (by omega) (by omega)
  clear hF
  obtain ⟨fv6, av6, rfl, o61, o62, dj6⟩ := o6
  obtain ⟨V6, c6, rfl, -⟩ := o61.reads
  obtain ⟨B6, d6, rfl, -⟩ := o62.reads
  obtain ⟨fv7, av7, rfl, o71, o72⟩ := o7
  obtain ⟨F7, e7, rfl, -⟩ := o71.reads
  obtain ⟨G7, g7, rfl, -⟩ := o72.reads
  have P1 := Lib.hid (o61.lower (base' := w.heap.size) (by omega))
  have P2 := Lib.hid (o62.lower (base' := w.heap.size) (by omega))
  have P3 := Lib.hid (o71.lower (base' := w.heap.size) (by omega))
  have P4 := Lib.hid (o72.lower (base' := w.heap.size) (by omega))
  have DJ := Lib.hid dj6
  have hne01 : w.heap.size ≠ w.heap.size + 1 := by omega
  clear o61 o62 o71 o72 dj6 HR1 k0 k1
  (replace qk07 := k07.cell; replace rk07 := k07.frozen; replace lk07 := k07.lt; replace qk17 := k17.cell; replace rk17 := k17.frozen; replace lk17 := k17.lt)
  go_wp2_with fail
  have j1 := (k17.far (p := ⟨w.heap.size, 0, none⟩) (by simp only; omega) (.slice V6 s6.values.length c6)).far (p := ⟨w.heap.size, 1, none⟩) (by simp only; omega) (.slice B6 s6.heap.length d6)
  refine bodyPost_ret (v := .tuple #[.agg #[.slice V6 s6.values.length c6, .slice B6 s6.heap.length d6], .agg #[.slice F7 a7.facts.length e7, .slice G7 a7.atoms.length g7]]) (by simp [results, Try.results93, go_sem, qk07, qk17, lk07, lk17]) rfl ⟨_, _, s6, a7, rfl, ⟨_, _, rfl, ?_, ?_, DJ.out⟩, ⟨_, _, rfl, ?_, ?_⟩, ?_⟩
  · exact (((P1.out.setT k07 (by decide) 0 _).setT (k07.set_ 0 _) (by decide) 1 _).setT j1 (by decide) 0 _).setT (j1.set_ 0 _) (by decide) 1 _
  · exact (((P2.out.setT k07 (by decide) 0 _).setT (k07.set_ 0 _) (by decide) 1 _).setT j1 (by decide) 0 _).setT (j1.set_ 0 _) (by decide) 1 _
  · exact (((P3.out.setT k07 (by decide) 0 _).setT (k07.set_ 0 _) (by decide) 1 _).setT j1 (by decide) 0 _).setT (j1.set_ 0 _) (by decide) 1 _
  · exact (((P4.out.setT k07 (by decide) 0 _).setT (k07.set_ 0 _) (by decide) 1 _).setT j1 (by decide) 0 _).setT (j1.set_ 0 _) (by decide) 1 _
  · exact (((HB7.out.setCell (p := ⟨w.heap.size, 0, none⟩) (by simp only; omega) _).setCell (p := ⟨w.heap.size, 1, none⟩) (by simp only; omega) _).setCell (p := ⟨w.heap.size + 1, 0, none⟩) (by simp only; omega) _).setCell (p := ⟨w.heap.size + 1, 1, none⟩) (by simp only; omega) _
end Go.Proofs.Ytmjgcdolnkdfoaa

/- What the reader draws: the arguments of CaseOf and ModelOf. -/
namespace Go.Proofs.Ytmjgcdolnkdfoaa
open Go Go.RowKit Go.Proofs
attribute [local go_sem ↓] Go.wp_at_zero Go.wp_at_succ

--@ spec.DrawCaseOf
set_option maxRecDepth 100000 in
set_option maxHeartbeats 6400000 in
theorem c_DrawCaseOf (A : Option Addr) (n c : Nat) (w : World) (h : BytesR w A n c) :
    Calls Try.prog 22 #[.slice A n c] w fun e w' => ∃ r1 r2 s a, e = .returned (.tuple #[r1, r2]) ∧ StateO w' w.heap.size r1 s ∧ AsnO w' w.heap.size r2 a ∧ Below w.heap.size w w' := by
  have HR0 : Hid (BytesR ((w.alloc (.cells #[.slice none 0 0, .slice none 0 0] tSt)).alloc (.cells #[.slice none 0 0, .slice none 0 0] 26)) A n c) := by
    obtain ⟨bs, h1, h2, h3⟩ := h
    exact ⟨bs, h1, (h2.below (bbox (bbox (Below.refl _ _) _) _)).mono (Nat.le_refl _) (by simp; omega), h3⟩
  clear h
  go_enter Try.func22, Try.ntmps22
  have k0 : Blk ((w.alloc (.cells #[.slice none 0 0, .slice none 0 0] tSt)).alloc (.cells #[.slice none 0 0, .slice none 0 0] 26)) w.heap.size tSt #[.slice none 0 0, .slice none 0 0] := blks
  have k1 : Blk ((w.alloc (.cells #[.slice none 0 0, .slice none 0 0] tSt)).alloc (.cells #[.slice none 0 0, .slice none 0 0] 26)) (w.heap.size + 1) 26 #[.slice none 0 0, .slice none 0 0] := blks
  have hB0 : Below w.heap.size w ((w.alloc (.cells #[.slice none 0 0, .slice none 0 0] tSt)).alloc (.cells #[.slice none 0 0, .slice none 0 0] 26)) := bel
  have hs0 : w.heap.size + 2 ≤ ((w.alloc (.cells #[.slice none 0 0, .slice none 0 0] tSt)).alloc (.cells #[.slice none 0 0, .slice none 0 0] 26)).heap.size := by simp
  go_wp2_with fail
  generalize ((w.alloc (.cells #[.slice none 0 0, .slice none 0 0] tSt)).alloc (.cells #[.slice none 0 0, .slice none 0 0] 26)) = W0 at k0 k1 hB0 hs0 HR0 ⊢
  refine (c_DrawHolds A n c _ HR0.out).mono ?_
  rintro e w7 ⟨r1, r2, s6, a7, rfl, o6, o7, hB7⟩
  have k07 := k0.next hB7
  have k17 := k1.next hB7
  have HB7 : Hid (Below w.heap.size w w7) := bgo hB0 hB7
  clear hB7 hB0
  obtain ⟨fv6, av6, rfl, o61, o62, dj6⟩ := o6
  obtain ⟨V6, c6, rfl, -⟩ := o61.reads
  obtain ⟨B6, d6, rfl, -⟩ := o62.reads
  obtain ⟨fv7, av7, rfl, o71, o72⟩ := o7
  obtain ⟨F7, e7, rfl, -⟩ := o71.reads
  obtain ⟨G7, g7, rfl, -⟩ := o72.reads
  have P1 := Lib.hid (o61.lower (base' := w.heap.size) (by omega))
  have P2 := Lib.hid (o62.lower (base' := w.heap.size) (by omega))
  have P3 := Lib.hid (o71.lower (base' := w.heap.size) (by omega))
  have P4 := Lib.hid (o72.lower (base' := w.heap.size) (by omega))
  have DJ := Lib.hid dj6
  have hne01 : w.heap.size ≠ w.heap.size + 1 := by omega
  clear o61 o62 o71 o72 dj6 HR0 k0 k1
  (replace qk07 := k07.cell; replace rk07 := k07.frozen; replace lk07 := k07.lt; replace qk17 := k17.cell; replace rk17 := k17.frozen; replace lk17 := k17.lt)
  go_wp2_with fail
  have j1 := (k17.far (p := ⟨w.heap.size, 0, none⟩) (by simp only; omega) (.slice V6 s6.values.length c6)).far (p := ⟨w.heap.size, 1, none⟩) (by simp only; omega) (.slice B6 s6.heap.length d6)
  refine bodyPost_ret (v := .tuple #[.agg #[.slice V6 s6.values.length c6, .slice B6 s6.heap.length d6], .agg #[.slice F7 a7.facts.length e7, .slice G7 a7.atoms.length g7]]) (by simp [results, Try.results22, go_sem, qk07, qk17, lk07, lk17]) rfl ⟨_, _, s6, a7, rfl, ⟨_, _, rfl, ?_, ?_, DJ.out⟩, ⟨_, _, rfl, ?_, ?_⟩, ?_⟩
  · exact (((P1.out.setT k07 (by decide) 0 _).setT (k07.set_ 0 _) (by decide) 1 _).setT j1 (by decide) 0 _).setT (j1.set_ 0 _) (by decide) 1 _
  · exact (((P2.out.setT k07 (by decide) 0 _).setT (k07.set_ 0 _) (by decide) 1 _).setT j1 (by decide) 0 _).setT (j1.set_ 0 _) (by decide) 1 _
  · exact (((P3.out.setT k07 (by decide) 0 _).setT (k07.set_ 0 _) (by decide) 1 _).setT j1 (by decide) 0 _).setT (j1.set_ 0 _) (by decide) 1 _
  · exact (((P4.out.setT k07 (by decide) 0 _).setT (k07.set_ 0 _) (by decide) 1 _).setT j1 (by decide) 0 _).setT (j1.set_ 0 _) (by decide) 1 _
  · exact (((HB7.out.setCell (p := ⟨w.heap.size, 0, none⟩) (by simp only; omega) _).setCell (p := ⟨w.heap.size, 1, none⟩) (by simp only; omega) _).setCell (p := ⟨w.heap.size + 1, 0, none⟩) (by simp only; omega) _).setCell (p := ⟨w.heap.size + 1, 1, none⟩) (by simp only; omega) _

--@ spec.DrawAssertionValid
set_option maxRecDepth 100000 in
set_option maxHeartbeats 6400000 in
theorem c_DrawAssertionValid (A : Option Addr) (n c : Nat) (w : World) (h : BytesR w A n c) :
    Calls Try.prog 105 #[.slice A n c] w fun e w' => ∃ r a, e = .returned r ∧ AsnO w' w.heap.size r a ∧ Below w.heap.size w w' := by
  have HR0 : Hid (BytesR (w.alloc (.cells #[.slice none 0 0, .slice none 0 0] 26)) A n c) := by
    obtain ⟨bs, h1, h2, h3⟩ := h
    exact ⟨bs, h1, (h2.below (bbox (Below.refl _ _) _)).mono (Nat.le_refl _) (by simp), h3⟩
  clear h
  go_enter Try.func105, Try.ntmps105
  have kr : Blk (w.alloc (.cells #[.slice none 0 0, .slice none 0 0] 26)) w.heap.size 26 #[.slice none 0 0, .slice none 0 0] := blks
  go_wp2_with fail
  refine (c_l18Open A n c _ HR0.out).mono ?_
  rintro e w1 ⟨g, rfl, hg, hR, hB1⟩
  have hgw : w.heap.size < g := by rw [World.size_alloc] at hg; omega
  replace kr := kr.next hB1
  have HB1 : Hid (Below w.heap.size w w1) := bgo (w := w) bel hB1
  have HR1 := Lib.hid hR
  have lg := hR.lt
  have hz1 := HB1.out.size
  clear hR hB1 HR0 hg
  go_wp2_with fail
  refine (c_l3Draw g 0 _ HR1.out (by omega)).mono ?_
  rintro e w2 ⟨r2, a2, q2, rfl, o2, hv2, hl2, hl3, hR, hq, hF⟩
  replace kr := kr.fr hF (by omega)
  have HF2 := Lib.hid hF
  have HR2 := Lib.hid hR
  have hgr : g < w2.heap.size := hR.lt
  have HV : Hid (AsnV w2 w1.heap.size w2.heap.size r2 a2) := AsnO.reads o2
  have hsz2 := hF.size
  clear hR hF HR1 o2 hv2
  go_wp2_with fail
  refine (c_l3Mutate g q2 _ a2 _ HR2.out (by omega) HV.out (by omega) (by omega)).mono ?_
  rintro e w6 ⟨r6, a6, q6, rfl, o6, hf6, hx6, hR, hq6, hF⟩
  replace kr := kr.fr hF (by omega)
  have HF6 := Lib.hid (HF2.out.trans hF)
  obtain ⟨fv, av, rfl, of7, oa7⟩ := o6
  obtain ⟨F7, d7, rfl, -⟩ := of7.reads
  obtain ⟨G7, g7, rfl, -⟩ := oa7.reads
  have HOF := Lib.hid (of7.lower (base' := w.heap.size) (by omega))
  have HOA := Lib.hid (oa7.lower (base' := w.heap.size) (by omega))
  have HBB : Hid (Below w.heap.size w w6) := HB1.out.trans (HF6.out.below (by omega) (by omega))
  clear hR hF of7 oa7 HR2 HV HF6 HF2
  (replace qkr := kr.cell; replace rkr := kr.frozen; replace lkr := kr.lt)
  go_wp2_with fail
  refine bodyPost_ret (v := .agg #[.slice F7 a6.facts.length d7, .slice G7 a6.atoms.length g7]) (by simp [results, Try.results105, go_sem, qkr, lkr]) rfl ⟨_, a6, rfl, ⟨_, _, rfl, ?_, ?_⟩, ?_⟩
  · exact (HOF.out.setT kr (by decide) 0 _).setT (kr.set_ 0 _) (by decide) 1 _
  · exact (HOA.out.setT kr (by decide) 0 _).setT (kr.set_ 0 _) (by decide) 1 _
  · exact (HBB.out.setCell (p := ⟨w.heap.size, 0, none⟩) (Nat.le_refl _) _).setCell (p := ⟨w.heap.size, 1, none⟩) (Nat.le_refl _) _

--@ spec.DrawModelOf
set_option maxRecDepth 100000 in
set_option maxHeartbeats 6400000 in
theorem c_DrawModelOf (A : Option Addr) (n c : Nat) (w : World) (h : BytesR w A n c) :
    Calls Try.prog 28 #[.slice A n c] w fun e w' => ∃ r a, e = .returned r ∧ AsnO w' w.heap.size r a ∧ Below w.heap.size w w' := by
  have HR0 : Hid (BytesR (w.alloc (.cells #[.slice none 0 0, .slice none 0 0] 26)) A n c) := by
    obtain ⟨bs, h1, h2, h3⟩ := h
    exact ⟨bs, h1, (h2.below (bbox (Below.refl _ _) _)).mono (Nat.le_refl _) (by simp), h3⟩
  clear h
  go_enter Try.func28, Try.ntmps28
  have kr : Blk (w.alloc (.cells #[.slice none 0 0, .slice none 0 0] 26)) w.heap.size 26 #[.slice none 0 0, .slice none 0 0] := blks
  have hB0 : Below w.heap.size w (w.alloc (.cells #[.slice none 0 0, .slice none 0 0] 26)) := bel
  have hs0 : w.heap.size + 1 ≤ (w.alloc (.cells #[.slice none 0 0, .slice none 0 0] 26)).heap.size := by simp
  go_wp2_with fail
  generalize (w.alloc (.cells #[.slice none 0 0, .slice none 0 0] 26)) = W0 at kr hB0 hs0 HR0 ⊢
  refine (c_DrawAssertionValid A n c _ HR0.out).mono ?_
  rintro e w7 ⟨r, a6, rfl, o6, hB7⟩
  replace kr := kr.next hB7
  have HB7 : Hid (Below w.heap.size w w7) := bgo hB0 hB7
  clear hB7 hB0
  obtain ⟨fv6, av6, rfl, o61, o62⟩ := o6
  obtain ⟨V6, c6, rfl, -⟩ := o61.reads
  obtain ⟨B6, d6, rfl, -⟩ := o62.reads
  have P1 := Lib.hid (o61.lower (base' := w.heap.size) (by omega))
  have P2 := Lib.hid (o62.lower (base' := w.heap.size) (by omega))
  clear o61 o62 HR0
  (replace qkr := kr.cell; replace rkr := kr.frozen; replace lkr := kr.lt)
  go_wp2_with fail
  refine bodyPost_ret (v := .agg #[.slice V6 a6.facts.length c6, .slice B6 a6.atoms.length d6]) (by simp [results, Try.results28, go_sem, qkr, lkr]) rfl ⟨_, a6, rfl, ⟨_, _, rfl, ?_, ?_⟩, ?_⟩
  · exact (P1.out.setT kr (by decide) 0 _).setT (kr.set_ 0 _) (by decide) 1 _
  · exact (P2.out.setT kr (by decide) 0 _).setT (kr.set_ 0 _) (by decide) 1 _
  · exact (HB7.out.setCell (p := ⟨w.heap.size, 0, none⟩) (Nat.le_refl _) _).setCell (p := ⟨w.heap.size, 1, none⟩) (Nat.le_refl _) _
end Go.Proofs.Ytmjgcdolnkdfoaa
