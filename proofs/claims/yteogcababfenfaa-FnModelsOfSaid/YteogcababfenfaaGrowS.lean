/- Contracts: the spec's states of a case whose lists may have two cells. -/
import Derived.Test.YteogcababfenfaaMGrowP
import Derived.Test.YteogcababfenfaaModS
import Derived.Test.YteogcababfenfaaModO
import Derived.Deep.DeepCutAuto
set_option linter.unusedSimpArgs false
set_option linter.unusedVariables false
namespace Go.Proofs.Yteogcababfenfaa
open Go Go.RowKit Go.Proofs
attribute [local go_sem ↓] Go.wp_at_zero Go.wp_at_succ
--@ spec.l6Grow
set_option maxRecDepth 100000 in
set_option maxHeartbeats 6400000 in
theorem c_spec_l6Grow {lo hi lo2 hi2 : Nat} (v : Value) (a : Asn) (S : Nat) (c : List Int) (B : Option Addr) (bc : Nat) (mask : Nat) (last : Bool) (w : World) (h : AsnV w lo hi v a) (h' : IntsV w lo2 hi2 B c) (hv : a.valid = true) (h0 : S.testBit 0 = true) (hS : ∀ t ∈ termsL a, S.testBit t.toNat = true) (hc : c ∈ cases a S) (hm : mask < 4) :
    Calls Try.prog 43 #[v, .slice B 9 bc, .int .i64 mask, .bool last] w fun e w' => ∃ r s, e = .returned (.tuple #[r, .bool (varF a c mask last).isSome]) ∧ StateO w' w.heap.size r s ∧ ((varF a c mask last).isSome = true → varF a c mask last = some s) ∧ Below w.heap.size w w' := by
  have hV := Lib.hid h
  have HI := Lib.hid h'
  have HC := Lib.hid (csd_of h0 hc)
  have HF := Lib.hid (filled_ok hv h0 hS hc)
  have HG := Lib.hid (grow_start hv h0 hS hc)
  have HOK := Lib.hid (Asn.valid_ok hv)
  have HMV := Lib.hid (modV_ok c)
  have HCS := Lib.hid (fun (W : World) hA hI => c_spec_l5Model (lo := lo) (hi := hi) (lo2 := lo2) (hi2 := hi2) v a S c B bc W hA hI hv h0 hS hc)
  obtain ⟨A1, c1, A2, c2, rfl, -, h2⟩ := h
  have H2 := Lib.hid h2
  obtain ⟨R, hR⟩ : ∃ R, R = varF a c mask last := ⟨_, rfl⟩
  have HR : Hid (R = (growF (modV c) mask last (filledL a.atoms c) 0 (modS a c).heap).map fun h => ⟨modV c, h⟩) := Lib.hid hR
  rw [← hR]
  clear h2 hv h0 hS hc hR h'
  go_enter Try.func43, Try.ntmps43
  have k0 : Blk ((w.alloc (.cells #[.slice A1 a.facts.length c1, .slice A2 a.atoms.length c2] tAs)).alloc (.cells #[.slice none 0 0, .slice none 0 0] tSt)) w.heap.size tAs #[.slice A1 a.facts.length c1, .slice A2 a.atoms.length c2] := blks
  have k2 : Blk ((w.alloc (.cells #[.slice A1 a.facts.length c1, .slice A2 a.atoms.length c2] tAs)).alloc (.cells #[.slice none 0 0, .slice none 0 0] tSt)) (w.heap.size + 1) tSt #[.slice none 0 0, .slice none 0 0] := blks
  have hB0 : Below w.heap.size w ((w.alloc (.cells #[.slice A1 a.facts.length c1, .slice A2 a.atoms.length c2] tAs)).alloc (.cells #[.slice none 0 0, .slice none 0 0] tSt)) := bel
  have hs0 : w.heap.size + 2 ≤ ((w.alloc (.cells #[.slice A1 a.facts.length c1, .slice A2 a.atoms.length c2] tAs)).alloc (.cells #[.slice none 0 0, .slice none 0 0] tSt)).heap.size := by simp
  go_wp2_with fail
  generalize ((w.alloc (.cells #[.slice A1 a.facts.length c1, .slice A2 a.atoms.length c2] tAs)).alloc (.cells #[.slice none 0 0, .slice none 0 0] tSt)) = W at k0 k2 hB0 hs0 ⊢
  refine (HCS.out _ (hV.out.below hB0) (HI.out.below hB0)).mono ?_
  rintro e w1 ⟨r1, rfl, o1, hB1⟩
  obtain ⟨fv, av, rfl, oV, oH, dj⟩ := o1
  have oV8 : IntsO w1 W.heap.size fv (modV c) := oV
  obtain ⟨H0, hH0⟩ : ∃ H0, H0 = (modS a c).heap := ⟨_, rfl⟩
  rw [← hH0] at oH HR HG
  obtain ⟨vs, hvs⟩ : ∃ vs, vs = modV c := ⟨_, rfl⟩
  rw [← hvs] at oV8 HR HG HF HMV
  have hz1 := hB1.size
  have HB1 := Lib.hid (bgo hB0 hB1)
  replace k0 := k0.next hB1
  replace k2 := k2.next hB1
  have lV := HMV.out.1
  have lH := HG.out.1
  obtain ⟨V, d1, rfl, -⟩ := oV8.reads
  obtain ⟨H, d2, rfl, -⟩ := oH.reads
  rw [lV] at oV8 dj
  rw [lH] at oH dj
  have OV := Lib.hid (oV8.lower (base' := w.heap.size) (by omega))
  have OH := Lib.hid (oH.lower (base' := w.heap.size) (by omega))
  have DJ := Lib.hid dj
  clear oV oV8 oH dj hB1 hB0 hH0 HCS
  obtain ⟨g, cur, -, rfl, hgb, kg0, -, -⟩ := OH.out.cell_ (k := 0) (by omega)
  have lg1 := kg0.lt
  clear kg0
  rw [lV, lH]
  have k3 : Blk (w1.alloc (.cells #[.slice V 8 d1, .slice (some ⟨g, 0, none⟩) 8 d2] tSt)) w1.heap.size tSt #[.slice V 8 d1, .slice (some ⟨g, 0, none⟩) 8 d2] := Blk.new _ _ _
  have P1 := Lib.hid (OV.out.below (bbox (Below.refl _ _) (.cells #[.slice V 8 d1, .slice (some ⟨g, 0, none⟩) 8 d2] tSt)))
  have P2 := Lib.hid (OH.out.below (bbox (Below.refl _ _) (.cells #[.slice V 8 d1, .slice (some ⟨g, 0, none⟩) 8 d2] tSt)))
  replace k0 := k0.alloc (.cells #[.slice V 8 d1, .slice (some ⟨g, 0, none⟩) 8 d2] tSt)
  replace k2 := k2.alloc (.cells #[.slice V 8 d1, .slice (some ⟨g, 0, none⟩) 8 d2] tSt)
  have HB2 : Hid (Below w.heap.size w (w1.alloc (.cells #[.slice V 8 d1, .slice (some ⟨g, 0, none⟩) 8 d2] tSt))) := Lib.hid (bbox HB1.out _)
  have hz2 : (w1.alloc (.cells #[.slice V 8 d1, .slice (some ⟨g, 0, none⟩) 8 d2] tSt)).heap.size = w1.heap.size + 1 := by simp
  obtain ⟨x3, hx3⟩ : ∃ x3, x3 = w1.heap.size := ⟨_, rfl⟩
  clear OV OH HB1
  (replace qk0 := k0.cell; replace rk0 := k0.frozen; replace lk0 := k0.lt)
  go_wp2_with fail
  clear qk0 rk0 lk0
  rw [← hx3] at k3 hz2 hz1 lg1 ⊢
  clear hx3
  generalize (w1.alloc (.cells #[.slice V 8 d1, .slice (some ⟨g, 0, none⟩) 8 d2] tSt)) = W2 at k0 k2 k3 P1 P2 HB2 hz2 ⊢
  refine (c_filled9 A2 _ c2 bc a.atoms c _ (H2.out.below HB2.out) (HI.out.below HB2.out) HC.out.len HOK.out.2).mono ?_
  rintro e w4 ⟨r4, rfl, o4, hB4⟩
  obtain ⟨A4, c4, rfl, f4⟩ := o4.reads
  have HLV := Lib.hid f4
  replace HB2 := Lib.hid (bgo HB2.out hB4)
  replace P1 := Lib.hid (P1.out.below hB4)
  replace P2 := Lib.hid (P2.out.below hB4)
  replace k2 := k2.next hB4
  replace k3 := k3.next hB4
  have hz4 := hB4.size
  have hL := f4.le
  clear o4 f4 hB4 k0 H2 hV HC HOK HI
  obtain ⟨L, hLe⟩ : ∃ L, L = filledL a.atoms c := ⟨_, rfl⟩
  rw [← hLe] at HLV HF hL HR HG ⊢
  clear hLe
  go_wp2_with fail
  go_loopw [12, 13] (fun ix i wr => ∃ (k n : Nat) (h : List Int), k ≤ L.length ∧ n ≤ k ∧ i = .int .i64 k ∧ ix = .int .i64 n ∧ Hid (R = (growF vs mask last (L.drop k) n h).map fun h => ⟨vs, h⟩) ∧ Hid (GrowI vs h (L.drop k)) ∧ Hid (IntsO wr w.heap.size (.slice V 8 d1) vs) ∧ Hid (IntsO wr w.heap.size (.slice (some ⟨g, 0, none⟩) 8 d2) h) ∧ Blk wr (w.heap.size + 1) tSt #[.slice none 0 0, .slice none 0 0] ∧ Blk wr x3 tSt #[.slice V 8 d1, .slice (some ⟨g, 0, none⟩) 8 d2] ∧ Hid (AtomsV wr W2.heap.size w4.heap.size A4 L) ∧ Hid (Below w.heap.size w wr) ∧ Hid (w4.heap.size ≤ wr.heap.size)) (fun _ i _ => L.length - (intOf i).toNat)
  case atStart => exact ⟨0, 0, H0, Nat.zero_le _, Nat.le_refl _, rfl, rfl, HR.out, HG.out, P1.out, P2.out, k2, k3, HLV.out, HB2.out, Nat.le_refl _⟩
  case round =>
    clear HR HG P1 P2 k2 k3 HLV HB2
    obtain ⟨k, n, h, hk, hnk, rfl, rfl, HR, HG, P1, P2, k2, k3, HLV, HB, HZ⟩ := hrel
    have hzr := HZ.out
    by_cases hlt : k < L.length
    · have hki : (k : Int) < (L.length : Int) := by omega
      obtain ⟨b, o, e0, g0, g1, g2⟩ := HLV.out.at hlt
      obtain ⟨b', o', e1, hb1, -, -⟩ := HLV.out.raw.form (by omega)
      subst e0
      injection e1 with e1
      injection e1 with e1 e2
      subst e1 e2
      have hbl := block_lt_of_cell g0
      simp only at hbl
      have HXF := Lib.hid (HF.out _ (List.getElem_mem hlt))
      have eD := List.drop_eq_getElem_cons hlt
      rw [eD] at HR HG
      clear eD
      obtain ⟨x, hx⟩ : ∃ x, x = L[k] := ⟨_, rfl⟩
      rw [← hx] at g0 g1 g2 HXF HR HG
      clear hx
      by_cases hk2 : x.kind = 2
      case neg =>
        have HR2 : Hid (R = (growF vs mask last (L.drop (k + 1)) n h).map fun h => ⟨vs, h⟩) := Lib.hid (by rw [HR.out, growF_skip hk2])
        have HG2 := Lib.hid HG.out.tail
        have hkb : (x.kind != 2) = true := by simpa using hk2
        clear HR HG hk2
        go_wp2_with fail
        go_round
        case rel => exact ⟨k + 1, n, h, by omega, by omega, by go_num, rfl, HR2.out, HG2.out, P1.out, P2.out, k2, k3, HLV.out, HB.out, HZ.out⟩
        case measure => simp [intOf]; omega
      have hkb : (x.kind != 2) = false := by simpa using hk2
      have hma := mask_and mask n hm
      cases hbit : mask.testBit n
      · have hmz : bits .and .i64 ((mask : Int) / 2 ^ min n 64) 1 = 0 := by rw [hma, hbit]; rfl
        have HR2 : Hid (R = (growF vs mask last (L.drop (k + 1)) (n + 1) h).map fun h => ⟨vs, h⟩) := Lib.hid (by rw [HR.out, growF_off hk2 hbit])
        have HG2 := Lib.hid HG.out.tail
        clear HR HG hk2 hma hbit
        go_wp2_with fail
        go_round
        case rel => exact ⟨k + 1, n + 1, h, by omega, by omega, by go_num, by go_num, HR2.out, HG2.out, P1.out, P2.out, k2, k3, HLV.out, HB.out, HZ.out⟩
        case measure => simp [intOf]; omega
      have hmz : bits .and .i64 ((mask : Int) / 2 ^ min n 64) 1 = 1 := by rw [hma, hbit]; rfl
      have HBIT := Lib.hid hbit
      have HK2 := Lib.hid hk2
      clear hma hbit hk2
      have hxa := HXF.out.1
      have hxb := HXF.out.2.1
      have hlh := HG.out.1
      have HV8 := Lib.hid HMV.out.1
      have q3 := k3.cell
      have lx3 := k3.lt
      obtain ⟨fa, hfa⟩ : ∃ fa, fa = tval vs x.a := ⟨_, rfl⟩
      obtain ⟨fb, hfb⟩ : ∃ fb, fb = tval vs x.b := ⟨_, rfl⟩
      have E1 := Lib.hid hfa
      have E2 := Lib.hid hfb
      have hfa8 : 1 ≤ fa ∧ fa ≤ 8 := by rw [hfa]; exact HXF.out.2.2.1
      have hfb8 : 0 ≤ fb ∧ fb ≤ 8 := by rw [hfb]; exact HXF.out.2.2.2
      clear hfa hfb
      have hST : Hid (StateV wr 0 wr.heap.size (.agg #[.slice V 8 d1, .slice (some ⟨g, 0, none⟩) 8 d2]) ⟨vs, h⟩) := by
        have i1 := P1.out.readsI.2
        have i2 := P2.out.readsI.2
        refine Lib.hid ⟨V, d1, some ⟨g, 0, none⟩, d2, ?_, i1.mono (Nat.zero_le _) (Nat.le_refl _), i2.mono (Nat.zero_le _) (Nat.le_refl _)⟩
        rw [show (Ste.mk vs h).values.length = 8 from HV8.out, show (Ste.mk vs h).heap.length = 8 from hlh]
      go_wp2_with fail
      refine wp_region_noPanic ?_
      refine wp_region_held_drew (S := (fun w' => (∀ i, w'.cell? ⟨x3, i, none⟩ = #[.slice V 8 d1, .slice (some ⟨g, 0, none⟩) 8 d2][i]?) ∧ w'.cell? ⟨b, o + k*3 + 2, none⟩ = some (.int .i64 x.b))) (by kernel_rfl) (⟨k3.drew.cell, g2⟩) (fun hHeld => ?_)
      refine wpAnyH_take (i := 0) (v := ?_) rfl (by kernel_rfl) (by kernel_rfl) (by kernel_rfl) (fun _ _ _ h => h) (Or.inl ⟨by rfl, fun w hSw => ?_⟩) hHeld ?_
      rotate_left
      · ((try dsimp only at hSw); go_split_ands; go_simp; (try with_reducible rfl))
      try simp only [Act.put, List.getElem_toArray, List.getElem_cons_zero, List.getElem_cons_succ, List.setIfInBounds_toArray, List.set_cons_zero, List.set_cons_succ]
      refine wpAnyH_take (i := 1) (v := ?_) rfl (by kernel_rfl) (by kernel_rfl) (by kernel_rfl) (fun _ _ _ h => h) (Or.inl ⟨by rfl, fun w hSw => ?_⟩) hHeld ?_
      rotate_left
      · ((try dsimp only at hSw); go_split_ands; go_simp; (try with_reducible rfl))
      try simp only [Act.put, List.getElem_toArray, List.getElem_cons_zero, List.getElem_cons_succ, List.setIfInBounds_toArray, List.set_cons_zero, List.set_cons_succ]
      refine wpAnyH_take (i := 2) (v := ?_) rfl (by kernel_rfl) (by kernel_rfl) (by kernel_rfl) (fun _ _ _ h => h) (Or.inl ⟨by rfl, fun w hSw => ?_⟩) hHeld ?_
      rotate_left
      · ((try dsimp only at hSw); go_split_ands; go_simp; (try with_reducible rfl))
      try simp only [Act.put, List.getElem_toArray, List.getElem_cons_zero, List.getElem_cons_succ, List.setIfInBounds_toArray, List.set_cons_zero, List.set_cons_succ]
      refine wpAnyH_take (i := 3) (v := ?_) rfl (by kernel_rfl) (by kernel_rfl) (by kernel_rfl) (fun _ _ _ h => h) (Or.inl ⟨by rfl, fun w hSw => ?_⟩) hHeld ?_
      rotate_left
      · ((try dsimp only at hSw); go_split_ands; go_simp; (try with_reducible rfl))
      try simp only [Act.put, List.getElem_toArray, List.getElem_cons_zero, List.getElem_cons_succ, List.setIfInBounds_toArray, List.set_cons_zero, List.set_cons_succ]
      refine wpAnyH_take (i := 4) (v := ?_) rfl (by kernel_rfl) (by kernel_rfl) (by kernel_rfl) (fun _ _ _ h => h) (Or.inl ⟨by rfl, fun w hSw => ?_⟩) hHeld ?_
      rotate_left
      · ((try dsimp only at hSw); go_split_ands; go_simp; (try with_reducible rfl))
      try simp only [Act.put, List.getElem_toArray, List.getElem_cons_zero, List.getElem_cons_succ, List.setIfInBounds_toArray, List.set_cons_zero, List.set_cons_succ]
      refine wpAnyH_take (i := 5) (v := ?_) rfl (by kernel_rfl) (by kernel_rfl) (by kernel_rfl) (fun _ _ _ h => h) (Or.inl ⟨by rfl, fun w hSw => ?_⟩) hHeld ?_
      rotate_left
      · ((try dsimp only at hSw); go_split_ands; go_simp; (try with_reducible rfl))
      try simp only [Act.put, List.getElem_toArray, List.getElem_cons_zero, List.getElem_cons_succ, List.setIfInBounds_toArray, List.set_cons_zero, List.set_cons_succ]
      refine wpAnyH_take (i := 6) (v := ?_) rfl (by kernel_rfl) (by kernel_rfl) (by kernel_rfl) (fun _ _ _ h => h) (Or.inl ⟨by rfl, fun w hSw => ?_⟩) hHeld ?_
      rotate_left
      · ((try dsimp only at hSw); go_split_ands; go_simp; (try with_reducible rfl))
      try simp only [Act.put, List.getElem_toArray, List.getElem_cons_zero, List.getElem_cons_succ, List.setIfInBounds_toArray, List.set_cons_zero, List.set_cons_succ]
      refine wpAnyH_take (i := 7) (v := ?_) rfl (by kernel_rfl) (by kernel_rfl) (by kernel_rfl) (fun _ _ _ h => h) (Or.inl ⟨by rfl, fun w hSw => ?_⟩) hHeld ?_
      rotate_left
      · ((try dsimp only at hSw); go_split_ands; go_simp; (try with_reducible rfl))
      try simp only [Act.put, List.getElem_toArray, List.getElem_cons_zero, List.getElem_cons_succ, List.setIfInBounds_toArray, List.set_cons_zero, List.set_cons_succ]
      refine wpAnyH_take (i := 9) (v := ?_) rfl (by kernel_rfl) (by kernel_rfl) (by kernel_rfl) (fun _ _ _ h => h) (Or.inl ⟨by rfl, fun w hSw => ?_⟩) hHeld ?_
      rotate_left
      · ((try dsimp only at hSw); go_split_ands; go_simp; (try with_reducible rfl))
      try simp only [Act.put, List.getElem_toArray, List.getElem_cons_zero, List.getElem_cons_succ, List.setIfInBounds_toArray, List.set_cons_zero, List.set_cons_succ]
      refine wpAnyH_ready (rs := [8]) (by kernel_rfl) (by simp) ?_
      refine AllReadyH.cons rfl (fun K hK => ?_) AllReadyH.nil
      try simp only [List.getElem_toArray, List.getElem_cons_zero, List.getElem_cons_succ]
      (go_simp; refine (c_l1V8 _ d1 vs x.b _ (P1.out.readsI.2.below (Below.refl _ _).drew) HV8.out hxb.1 hxb.2).mono ?_; rintro e w6 ⟨rfl, rfl⟩; rw [← E2.out])
      refine hK.out _ _ (⟨k3.drew.cell, g2⟩) (fun hHeldN => ?_)
      clear hHeld hK K
      have hHeld := hHeldN
      clear hHeldN
      try simp only [Act.put, List.getElem_toArray, List.getElem_cons_zero, List.getElem_cons_succ, List.setIfInBounds_toArray, List.set_cons_zero, List.set_cons_succ]
      refine wpAnyH_ready (rs := [10]) (by kernel_rfl) (by simp) ?_
      refine AllReadyH.cons rfl (fun K hK => ?_) AllReadyH.nil
      try simp only [List.getElem_toArray, List.getElem_cons_zero, List.getElem_cons_succ]
      (go_simp; refine (c_spec_l6Room _ ⟨vs, h⟩ fb last _ (hST.out.below (Below.refl _ _).drew) hlh).mono ?_; rintro e w6 ⟨rfl, hB6⟩; replace hB6 : Below wr.heap.size wr w6 := (Below.refl _ _).drew.trans hB6; have k3' := k3.next hB6; have g2' := (hB6.cell (p := ⟨b, o + k*3 + 2, none⟩) hbl).trans g2)
      refine hK.out _ _ (⟨k3'.cell, g2'⟩) (fun hHeldN => ?_)
      clear hHeld hK K
      have hHeld := hHeldN
      clear hHeldN
      try simp only [Act.put, List.getElem_toArray, List.getElem_cons_zero, List.getElem_cons_succ, List.setIfInBounds_toArray, List.set_cons_zero, List.set_cons_succ]
      refine wpAnyH_ready (rs := [11]) (by kernel_rfl) (by simp) ?_
      refine AllReadyH.cons rfl (fun K hK => ?_) AllReadyH.nil
      try simp only [List.getElem_toArray, List.getElem_cons_zero, List.getElem_cons_succ]
      go_simp
      refine hK.out _ _ (⟨k3'.cell, g2'⟩) (fun hHeldN => ?_)
      clear hHeld hK K
      have hHeld := hHeldN
      clear hHeldN
      try simp only [Act.put, List.getElem_toArray, List.getElem_cons_zero, List.getElem_cons_succ, List.setIfInBounds_toArray, List.set_cons_zero, List.set_cons_succ]
      refine wpAnyH_done (by kernel_rfl) ?_ _
      refine NoPanic.normal ?_
      have hz6 := hB6.size
      have M1 := Lib.hid (P1.out.below hB6)
      have M2 := Lib.hid (P2.out.below hB6)
      have m2 := k2.next hB6
      have m3 := k3.next hB6
      have g1' := (hB6.cell (p := ⟨b, o + k*3 + 1, none⟩) hbl).trans g1
      have HLV6 := Lib.hid (HLV.out.below hB6)
      have HB6 := Lib.hid (bgo HB.out hB6)
      clear hB6 P1 P2 k2 k3 k3' HLV HB hST q3 lx3 g0 g1 g2
      have HRN := Lib.hid (fun (e : roomF h (tval vs x.b) last = 0) => (show R = none from by rw [HR.out, growF_none HK2.out HBIT.out e]; rfl))
      have HRS := Lib.hid (fun (e : roomF h (tval vs x.b) last ≠ 0) => (show R = (growF vs mask last (L.drop (k + 1)) (n + 1) ((h.set (roomF h (tval vs x.b) last - 1).toNat (tval vs x.b)).set (tval vs x.a - 1).toNat (roomF h (tval vs x.b) last))).map fun h => ⟨vs, h⟩ from by rw [HR.out, growF_some HK2.out HBIT.out e]))
      have HGS := Lib.hid (fun (e : roomF h (tval vs x.b) last ≠ 0) => (show GrowI vs ((h.set (roomF h (tval vs x.b) last - 1).toNat (tval vs x.b)).set (tval vs x.a - 1).toNat (roomF h (tval vs x.b) last)) (L.drop (k + 1)) from by rw [grow_comm HG.out e]; exact HG.out.step HMV.out.2 e))
      have HRF := Lib.hid (fun (e : roomF h (tval vs x.b) last ≠ 0) => roomF_le e)
      have hneq := Lib.hid (fun (e : roomF h (tval vs x.b) last ≠ 0) => (show tval vs x.a ≠ roomF h (tval vs x.b) last from fun e2 => by
        have h1 := HG.out.2 x List.mem_cons_self
        rw [e2, (roomF_free e).2.1] at h1; cases h1))
      rw [← E1.out, ← E2.out] at HRS HGS hneq
      rw [← E2.out] at HRN HRF
      clear HR HG HBIT HK2
      have hlh2 := Lib.hid hlh
      clear hlh
      by_cases hr0 : roomF h fb last = 0
      · have hR0 := Lib.hid (HRN.out hr0)
        have hd : (roomF h fb last == 0) = true := by simp [hr0]
        clear HRN HRS HGS HRF hneq
        (replace qm2 := m2.cell; replace rm2 := m2.frozen; replace lm2 := m2.lt; replace qm3 := m3.cell; replace rm3 := m3.frozen; replace lm3 := m3.lt)
        go_wp2_with fail
        refine bodyPost_ret (v := .tuple #[.agg #[.slice V 8 d1, .slice (some ⟨g, 0, none⟩) 8 d2], .bool false]) (by simp [results, Try.results43, go_sem, qm2, lm2]) rfl ⟨.agg #[.slice V 8 d1, .slice (some ⟨g, 0, none⟩) 8 d2], ⟨vs, h⟩, ?_, ⟨.slice V 8 d1, .slice (some ⟨g, 0, none⟩) 8 d2, rfl, ?_, ?_, ?_⟩, ?_, ?_⟩
        · rw [hR0.out]; rfl
        · exact (M1.out.setT m2 (by decide) 0 _).setT (m2.set_ 0 _) (by decide) 1 _
        · exact (M2.out.setT m2 (by decide) 0 _).setT (m2.set_ 0 _) (by decide) 1 _
        · exact DJ.out
        · rw [hR0.out]; exact fun h => by cases h
        · exact (HB6.out.setCell (p := ⟨w.heap.size + 1, 0, none⟩) (by simp only; omega) _).setCell (p := ⟨w.heap.size + 1, 1, none⟩) (by simp only; omega) _
      · have hd : (roomF h fb last == 0) = false := by simpa using hr0
        have hR2 := Lib.hid (HRS.out hr0)
        have hG2 := Lib.hid (HGS.out hr0)
        have hrr := HRF.out hr0
        have hne := hneq.out hr0
        clear HRN HRS HGS HRF hneq hr0
        obtain ⟨rr, hrre⟩ : ∃ rr, rr = roomF h fb last := ⟨_, rfl⟩
        rw [← hrre] at hR2 hG2 hrr hne hd ⊢
        clear hrre
        obtain ⟨m, rfl⟩ : ∃ m : Nat, fa = (m : Int) + 1 := ⟨(fa - 1).toNat, by omega⟩
        obtain ⟨q, rfl⟩ : ∃ q : Nat, rr = (q : Int) + 1 := ⟨(rr - 1).toNat, by omega⟩
        have hm8 : m < 8 := by omega
        have hq8 : q < 8 := by omega
        have hmi : (m : Int) < 8 := by omega
        have hqi : (q : Int) < 8 := by omega
        rw [show ((m : Int) + 1 - 1).toNat = m by omega, show ((q : Int) + 1 - 1).toNat = q by omega] at hR2 hG2
        obtain ⟨c0, st0⟩ := M2.out.at8 (k := q) (by have := hlh2.out; omega)
        obtain ⟨fr0, lg0, -, cs, kg⟩ := M2.out.at8B (k := q) (by have := hlh2.out; omega)
        have N2 := Lib.hid (st0 fb)
        have hn2 := m2.ne_ kg (by decide)
        have hn3 := m3.ne_ kg (by decide)
        have hw1 : IntKind.i64.wrap ((m : Int) + 1 - 1) = (m : Int) := by rw [show (m : Int) + 1 - 1 = (m : Int) by omega]; exact IntWalk.i64_in _ (by omega)
        have hw2 : IntKind.i64.wrap ((q : Int) + 1 - 1) = (q : Int) := by rw [show (q : Int) + 1 - 1 = (q : Int) by omega]; exact IntWalk.i64_in _ (by omega)
        have hwm : IntKind.i64.wrap (m : Int) = (m : Int) := IntWalk.i64_in _ (by omega)
        have hwq : IntKind.i64.wrap (q : Int) = (q : Int) := IntWalk.i64_in _ (by omega)
        have hbg : b ≠ g := by omega
        have q3 := m3.cell
        have l3 := m3.lt
        have hb6 := block_lt_of_cell g2'
        simp only at hb6
        clear st0 kg
        go_upto_region 14 with fail
        refine wp_region_noPanic ?_
        refine wp_region_held_drew (S := (fun w' => (∀ i, w'.cell? ⟨x3, i, none⟩ = #[.slice V 8 d1, .slice (some ⟨g, 0, none⟩) 8 d2][i]?) ∧ w'.cell? ⟨b, o + k*3 + 2, none⟩ = some (.int .i64 x.b))) (by kernel_rfl) (⟨m3.drew.cell, g2'⟩) (fun hHeld => ?_)
        refine wpAnyH_take (i := 0) (v := ?_) rfl (by kernel_rfl) (by kernel_rfl) (by kernel_rfl) (fun _ _ _ h => h) (Or.inl ⟨by rfl, fun w hSw => ?_⟩) hHeld ?_
        rotate_left
        · ((try dsimp only at hSw); go_split_ands; go_simp; (try with_reducible rfl))
        try simp only [Act.put, List.getElem_toArray, List.getElem_cons_zero, List.getElem_cons_succ, List.setIfInBounds_toArray, List.set_cons_zero, List.set_cons_succ]
        refine wpAnyH_take (i := 1) (v := ?_) rfl (by kernel_rfl) (by kernel_rfl) (by kernel_rfl) (fun _ _ _ h => h) (Or.inl ⟨by rfl, fun w hSw => ?_⟩) hHeld ?_
        rotate_left
        · ((try dsimp only at hSw); go_split_ands; go_simp; (try with_reducible rfl))
        try simp only [Act.put, List.getElem_toArray, List.getElem_cons_zero, List.getElem_cons_succ, List.setIfInBounds_toArray, List.set_cons_zero, List.set_cons_succ]
        refine wpAnyH_take (i := 2) (v := ?_) rfl (by kernel_rfl) (by kernel_rfl) (by kernel_rfl) (fun _ _ _ h => h) (Or.inl ⟨by rfl, fun w hSw => ?_⟩) hHeld ?_
        rotate_left
        · ((try dsimp only at hSw); go_split_ands; go_simp; (try with_reducible rfl))
        try simp only [Act.put, List.getElem_toArray, List.getElem_cons_zero, List.getElem_cons_succ, List.setIfInBounds_toArray, List.set_cons_zero, List.set_cons_succ]
        refine wpAnyH_take (i := 3) (v := ?_) rfl (by kernel_rfl) (by kernel_rfl) (by kernel_rfl) (fun _ _ _ h => h) (Or.inl ⟨by rfl, fun w hSw => ?_⟩) hHeld ?_
        rotate_left
        · ((try dsimp only at hSw); go_split_ands; go_simp; (try with_reducible rfl))
        try simp only [Act.put, List.getElem_toArray, List.getElem_cons_zero, List.getElem_cons_succ, List.setIfInBounds_toArray, List.set_cons_zero, List.set_cons_succ]
        refine wpAnyH_take (i := 4) (v := ?_) rfl (by kernel_rfl) (by kernel_rfl) (by kernel_rfl) (fun _ _ _ h => h) (Or.inl ⟨by rfl, fun w hSw => ?_⟩) hHeld ?_
        rotate_left
        · ((try dsimp only at hSw); go_split_ands; go_simp; (try with_reducible rfl))
        try simp only [Act.put, List.getElem_toArray, List.getElem_cons_zero, List.getElem_cons_succ, List.setIfInBounds_toArray, List.set_cons_zero, List.set_cons_succ]
        refine wpAnyH_take (i := 5) (v := ?_) rfl (by kernel_rfl) (by kernel_rfl) (by kernel_rfl) (fun _ _ _ h => h) (Or.inl ⟨by rfl, fun w hSw => ?_⟩) hHeld ?_
        rotate_left
        · ((try dsimp only at hSw); go_split_ands; go_simp; (try with_reducible rfl))
        try simp only [Act.put, List.getElem_toArray, List.getElem_cons_zero, List.getElem_cons_succ, List.setIfInBounds_toArray, List.set_cons_zero, List.set_cons_succ]
        refine wpAnyH_take (i := 6) (v := ?_) rfl (by kernel_rfl) (by kernel_rfl) (by kernel_rfl) (fun _ _ _ h => h) (Or.inl ⟨by rfl, fun w hSw => ?_⟩) hHeld ?_
        rotate_left
        · ((try dsimp only at hSw); go_split_ands; go_simp; (try with_reducible rfl))
        try simp only [Act.put, List.getElem_toArray, List.getElem_cons_zero, List.getElem_cons_succ, List.setIfInBounds_toArray, List.set_cons_zero, List.set_cons_succ]
        refine wpAnyH_take (i := 7) (v := ?_) rfl (by kernel_rfl) (by kernel_rfl) (by kernel_rfl) (fun _ _ _ h => h) (Or.inl ⟨by rfl, fun w hSw => ?_⟩) hHeld ?_
        rotate_left
        · ((try dsimp only at hSw); go_split_ands; go_simp; (try with_reducible rfl))
        try simp only [Act.put, List.getElem_toArray, List.getElem_cons_zero, List.getElem_cons_succ, List.setIfInBounds_toArray, List.set_cons_zero, List.set_cons_succ]
        refine wpAnyH_take (i := 8) (v := ?_) rfl (by kernel_rfl) (by kernel_rfl) (by kernel_rfl) (fun _ _ _ h => h) (Or.inl ⟨by rfl, fun w hSw => ?_⟩) hHeld ?_
        rotate_left
        · ((try dsimp only at hSw); go_split_ands; go_simp; (try with_reducible rfl))
        try simp only [Act.put, List.getElem_toArray, List.getElem_cons_zero, List.getElem_cons_succ, List.setIfInBounds_toArray, List.set_cons_zero, List.set_cons_succ]
        refine wpAnyH_take (i := 9) (v := ?_) rfl (by kernel_rfl) (by kernel_rfl) (by kernel_rfl) (fun _ _ _ h => h) (Or.inl ⟨by rfl, fun w hSw => ?_⟩) hHeld ?_
        rotate_left
        · ((try dsimp only at hSw); go_split_ands; go_simp; (try with_reducible rfl))
        try simp only [Act.put, List.getElem_toArray, List.getElem_cons_zero, List.getElem_cons_succ, List.setIfInBounds_toArray, List.set_cons_zero, List.set_cons_succ]
        refine wpAnyH_take (i := 10) (v := ?_) rfl (by kernel_rfl) (by kernel_rfl) (by kernel_rfl) (fun _ _ _ h => h) (Or.inl ⟨by rfl, fun w hSw => ?_⟩) hHeld ?_
        rotate_left
        · ((try dsimp only at hSw); go_split_ands; go_simp; (try with_reducible rfl))
        try simp only [Act.put, List.getElem_toArray, List.getElem_cons_zero, List.getElem_cons_succ, List.setIfInBounds_toArray, List.set_cons_zero, List.set_cons_succ]
        refine wpAnyH_ready (rs := [11]) (by kernel_rfl) (by simp) ?_
        refine AllReadyH.cons rfl (fun K hK => ?_) AllReadyH.nil
        try simp only [List.getElem_toArray, List.getElem_cons_zero, List.getElem_cons_succ]
        (go_simp; refine (c_l1V8 _ d1 vs x.b _ (M1.out.readsI.2.below (Below.refl _ _).drew) HV8.out hxb.1 hxb.2).mono ?_; rintro e w7 ⟨rfl, rfl⟩; rw [← E2.out])
        refine hK.out _ _ (⟨m3.drew.cell, g2'⟩) (fun hHeldN => ?_)
        clear hHeld hK K
        have hHeld := hHeldN
        clear hHeldN
        try simp only [Act.put, List.getElem_toArray, List.getElem_cons_zero, List.getElem_cons_succ, List.setIfInBounds_toArray, List.set_cons_zero, List.set_cons_succ]
        refine wpAnyH_take (i := 12) (v := ?_) rfl (by kernel_rfl) (by kernel_rfl) (by kernel_rfl) (fun _ _ _ h => h) (Or.inl ⟨by rfl, fun w hSw => ?_⟩) hHeld ?_
        rotate_left
        · ((try dsimp only at hSw); go_split_ands; go_simp; (try with_reducible rfl))
        try simp only [Act.put, List.getElem_toArray, List.getElem_cons_zero, List.getElem_cons_succ, List.setIfInBounds_toArray, List.set_cons_zero, List.set_cons_succ]
        refine wpAnyH_ready (rs := [13]) (by kernel_rfl) (by simp) ?_
        refine AllReadyH.cons rfl (fun K hK => ?_) AllReadyH.nil
        try simp only [List.getElem_toArray, List.getElem_cons_zero, List.getElem_cons_succ]
        go_simp
        refine hK.out _ _ (⟨(m3.drew.far (p := ⟨g, q, none⟩) hn3 _).cell, (World.cell?_of_block (a := ⟨b, o + k*3 + 2, none⟩) (Below.heap_setCell _ ⟨g, q, none⟩ _ b (by simp only; omega))).trans g2'⟩) (fun hHeldN => ?_)
        clear hHeld hK K
        have hHeld := hHeldN
        clear hHeldN
        try simp only [Act.put, List.getElem_toArray, List.getElem_cons_zero, List.getElem_cons_succ, List.setIfInBounds_toArray, List.set_cons_zero, List.set_cons_succ]
        refine wpAnyH_done (by kernel_rfl) ?_ _
        refine NoPanic.normal ?_
        have N1 := Lib.hid ((M1.out.set_ne (q := ⟨g, q, none⟩) (fun e => DJ.out _ e rfl) (.int .i64 fb)).below (w' := (w6.setCell ⟨g, q, none⟩ (.int .i64 fb)).drew) (Below.refl _ _).drew)
        replace N2 := Lib.hid (N2.out.below (w' := (w6.setCell ⟨g, q, none⟩ (.int .i64 fb)).drew) (Below.refl _ _).drew)
        have n2 := (m2.far (p := ⟨g, q, none⟩) hn2 (.int .i64 fb)).drew
        have n3 := (m3.far (p := ⟨g, q, none⟩) hn3 (.int .i64 fb)).drew
        have HLVN := Lib.hid ((Rd.setb HLV6.out (p := ⟨g, q, none⟩) (Or.inl (by simp only; omega)) (.int .i64 fb) : AtomsV _ _ _ _ _).below (w' := (w6.setCell ⟨g, q, none⟩ (.int .i64 fb)).drew) (Below.refl _ _).drew)
        have HBN := Lib.hid (HB6.out.setCell (p := ⟨g, q, none⟩) hgb (.int .i64 fb)).drew
        have hzn : (w6.setCell ⟨g, q, none⟩ (.int .i64 fb)).drew.heap.size = w6.heap.size := by simp
        have g1n : (w6.setCell ⟨g, q, none⟩ (.int .i64 fb)).drew.cell? ⟨b, o + k*3 + 1, none⟩ = some (.int .i64 x.a) := (World.cell?_of_block (a := ⟨b, o + k*3 + 1, none⟩) (Below.heap_setCell _ ⟨g, q, none⟩ _ b (by simp only; omega))).trans g1'
        clear c0 fr0 lg0 q3 l3 M1 M2 m2 m3 HLV6 HB6 g1' g2'
        go_upto_region 15 with fail
        generalize (w6.setCell ⟨g, q, none⟩ (.int .i64 fb)).drew = W7 at N1 N2 n2 n3 HLVN HBN hzn g1n ⊢
        obtain ⟨c1', st1⟩ := N2.out.at8 (k := m) (by have := hlh2.out; simp only [List.length_set]; omega)
        obtain ⟨fr1, lg1', -, -⟩ := N2.out.at8B (k := m) (by have := hlh2.out; simp only [List.length_set]; omega)
        have N3 := Lib.hid (st1 ((q : Int) + 1))
        have q3 := n3.cell
        have l3 := n3.lt
        have hb7 : b < W7.heap.size := by omega
        clear st1
        refine wp_region_noPanic ?_
        refine wp_region_held_drew (S := (fun w' => (∀ i, w'.cell? ⟨x3, i, none⟩ = #[.slice V 8 d1, .slice (some ⟨g, 0, none⟩) 8 d2][i]?) ∧ w'.cell? ⟨b, o + k*3 + 1, none⟩ = some (.int .i64 x.a))) (by kernel_rfl) (⟨n3.drew.cell, g1n⟩) (fun hHeld => ?_)
        refine wpAnyH_take (i := 0) (v := ?_) rfl (by kernel_rfl) (by kernel_rfl) (by kernel_rfl) (fun _ _ _ h => h) (Or.inl ⟨by rfl, fun w hSw => ?_⟩) hHeld ?_
        rotate_left
        · ((try dsimp only at hSw); go_split_ands; go_simp; (try with_reducible rfl))
        try simp only [Act.put, List.getElem_toArray, List.getElem_cons_zero, List.getElem_cons_succ, List.setIfInBounds_toArray, List.set_cons_zero, List.set_cons_succ]
        refine wpAnyH_take (i := 1) (v := ?_) rfl (by kernel_rfl) (by kernel_rfl) (by kernel_rfl) (fun _ _ _ h => h) (Or.inl ⟨by rfl, fun w hSw => ?_⟩) hHeld ?_
        rotate_left
        · ((try dsimp only at hSw); go_split_ands; go_simp; (try with_reducible rfl))
        try simp only [Act.put, List.getElem_toArray, List.getElem_cons_zero, List.getElem_cons_succ, List.setIfInBounds_toArray, List.set_cons_zero, List.set_cons_succ]
        refine wpAnyH_take (i := 2) (v := ?_) rfl (by kernel_rfl) (by kernel_rfl) (by kernel_rfl) (fun _ _ _ h => h) (Or.inl ⟨by rfl, fun w hSw => ?_⟩) hHeld ?_
        rotate_left
        · ((try dsimp only at hSw); go_split_ands; go_simp; (try with_reducible rfl))
        try simp only [Act.put, List.getElem_toArray, List.getElem_cons_zero, List.getElem_cons_succ, List.setIfInBounds_toArray, List.set_cons_zero, List.set_cons_succ]
        refine wpAnyH_take (i := 3) (v := ?_) rfl (by kernel_rfl) (by kernel_rfl) (by kernel_rfl) (fun _ _ _ h => h) (Or.inl ⟨by rfl, fun w hSw => ?_⟩) hHeld ?_
        rotate_left
        · ((try dsimp only at hSw); go_split_ands; go_simp; (try with_reducible rfl))
        try simp only [Act.put, List.getElem_toArray, List.getElem_cons_zero, List.getElem_cons_succ, List.setIfInBounds_toArray, List.set_cons_zero, List.set_cons_succ]
        refine wpAnyH_take (i := 4) (v := ?_) rfl (by kernel_rfl) (by kernel_rfl) (by kernel_rfl) (fun _ _ _ h => h) (Or.inl ⟨by rfl, fun w hSw => ?_⟩) hHeld ?_
        rotate_left
        · ((try dsimp only at hSw); go_split_ands; go_simp; (try with_reducible rfl))
        try simp only [Act.put, List.getElem_toArray, List.getElem_cons_zero, List.getElem_cons_succ, List.setIfInBounds_toArray, List.set_cons_zero, List.set_cons_succ]
        refine wpAnyH_take (i := 5) (v := ?_) rfl (by kernel_rfl) (by kernel_rfl) (by kernel_rfl) (fun _ _ _ h => h) (Or.inl ⟨by rfl, fun w hSw => ?_⟩) hHeld ?_
        rotate_left
        · ((try dsimp only at hSw); go_split_ands; go_simp; (try with_reducible rfl))
        try simp only [Act.put, List.getElem_toArray, List.getElem_cons_zero, List.getElem_cons_succ, List.setIfInBounds_toArray, List.set_cons_zero, List.set_cons_succ]
        refine wpAnyH_take (i := 6) (v := ?_) rfl (by kernel_rfl) (by kernel_rfl) (by kernel_rfl) (fun _ _ _ h => h) (Or.inl ⟨by rfl, fun w hSw => ?_⟩) hHeld ?_
        rotate_left
        · ((try dsimp only at hSw); go_split_ands; go_simp; (try with_reducible rfl))
        try simp only [Act.put, List.getElem_toArray, List.getElem_cons_zero, List.getElem_cons_succ, List.setIfInBounds_toArray, List.set_cons_zero, List.set_cons_succ]
        refine wpAnyH_take (i := 7) (v := ?_) rfl (by kernel_rfl) (by kernel_rfl) (by kernel_rfl) (fun _ _ _ h => h) (Or.inl ⟨by rfl, fun w hSw => ?_⟩) hHeld ?_
        rotate_left
        · ((try dsimp only at hSw); go_split_ands; go_simp; (try with_reducible rfl))
        try simp only [Act.put, List.getElem_toArray, List.getElem_cons_zero, List.getElem_cons_succ, List.setIfInBounds_toArray, List.set_cons_zero, List.set_cons_succ]
        refine wpAnyH_take (i := 8) (v := ?_) rfl (by kernel_rfl) (by kernel_rfl) (by kernel_rfl) (fun _ _ _ h => h) (Or.inl ⟨by rfl, fun w hSw => ?_⟩) hHeld ?_
        rotate_left
        · ((try dsimp only at hSw); go_split_ands; go_simp; (try with_reducible rfl))
        try simp only [Act.put, List.getElem_toArray, List.getElem_cons_zero, List.getElem_cons_succ, List.setIfInBounds_toArray, List.set_cons_zero, List.set_cons_succ]
        refine wpAnyH_take (i := 11) (v := ?_) rfl (by kernel_rfl) (by kernel_rfl) (by kernel_rfl) (fun _ _ _ h => h) (Or.inl ⟨by rfl, fun w hSw => ?_⟩) hHeld ?_
        rotate_left
        · ((try dsimp only at hSw); go_split_ands; go_simp; (try with_reducible rfl))
        try simp only [Act.put, List.getElem_toArray, List.getElem_cons_zero, List.getElem_cons_succ, List.setIfInBounds_toArray, List.set_cons_zero, List.set_cons_succ]
        refine wpAnyH_ready (rs := [9]) (by kernel_rfl) (by simp) ?_
        refine AllReadyH.cons rfl (fun K hK => ?_) AllReadyH.nil
        try simp only [List.getElem_toArray, List.getElem_cons_zero, List.getElem_cons_succ]
        (go_simp; refine (c_l1V8 _ d1 vs x.a _ (N1.out.readsI.2.below (Below.refl _ _).drew) HV8.out hxa.1 hxa.2).mono ?_; rintro e w7 ⟨rfl, rfl⟩; rw [← E1.out])
        refine hK.out _ _ (⟨n3.drew.cell, g1n⟩) (fun hHeldN => ?_)
        clear hHeld hK K
        have hHeld := hHeldN
        clear hHeldN
        try simp only [Act.put, List.getElem_toArray, List.getElem_cons_zero, List.getElem_cons_succ, List.setIfInBounds_toArray, List.set_cons_zero, List.set_cons_succ]
        refine wpAnyH_take (i := 10) (v := ?_) rfl (by kernel_rfl) (by kernel_rfl) (by kernel_rfl) (fun _ _ _ h => h) (Or.inl ⟨by rfl, fun w hSw => ?_⟩) hHeld ?_
        rotate_left
        · ((try dsimp only at hSw); go_split_ands; go_simp; (try with_reducible rfl))
        try simp only [Act.put, List.getElem_toArray, List.getElem_cons_zero, List.getElem_cons_succ, List.setIfInBounds_toArray, List.set_cons_zero, List.set_cons_succ]
        refine wpAnyH_take (i := 12) (v := ?_) rfl (by kernel_rfl) (by kernel_rfl) (by kernel_rfl) (fun _ _ _ h => h) (Or.inl ⟨by rfl, fun w hSw => ?_⟩) hHeld ?_
        rotate_left
        · ((try dsimp only at hSw); go_split_ands; go_simp; (try with_reducible rfl))
        try simp only [Act.put, List.getElem_toArray, List.getElem_cons_zero, List.getElem_cons_succ, List.setIfInBounds_toArray, List.set_cons_zero, List.set_cons_succ]
        refine wpAnyH_ready (rs := [13]) (by kernel_rfl) (by simp) ?_
        refine AllReadyH.cons rfl (fun K hK => ?_) AllReadyH.nil
        try simp only [List.getElem_toArray, List.getElem_cons_zero, List.getElem_cons_succ]
        go_simp
        refine hK.out _ _ (⟨(n3.drew.far (p := ⟨g, m, none⟩) hn3 _).cell, (World.cell?_of_block (a := ⟨b, o + k*3 + 1, none⟩) (Below.heap_setCell _ ⟨g, m, none⟩ _ b (by simp only; omega))).trans g1n⟩) (fun hHeldN => ?_)
        clear hHeld hK K
        have hHeld := hHeldN
        clear hHeldN
        try simp only [Act.put, List.getElem_toArray, List.getElem_cons_zero, List.getElem_cons_succ, List.setIfInBounds_toArray, List.set_cons_zero, List.set_cons_succ]
        refine wpAnyH_done (by kernel_rfl) ?_ _
        refine NoPanic.normal ?_
        go_wp2_with fail
        go_round
        case rel => exact ⟨k + 1, n + 1, _, by omega, by omega, by go_num, by go_num, hR2.out, hG2.out, (N1.out.set_ne (q := ⟨g, m, none⟩) (fun e => DJ.out _ e rfl) _).below (Below.refl _ _).drew, N3.out.below (Below.refl _ _).drew, (n2.far (p := ⟨g, m, none⟩) hn2 _).drew, (n3.far (p := ⟨g, m, none⟩) hn3 _).drew, (Rd.setb HLVN.out (p := ⟨g, m, none⟩) (Or.inl (by simp only; omega)) _ : AtomsV _ _ _ _ _).below (Below.refl _ _).drew, (HBN.out.setCell (p := ⟨g, m, none⟩) hgb _).drew, by show _ ≤ _; simp only [World.size_drew, World.size_setCell]; omega⟩
        case measure => simp [intOf]; omega
    · obtain rfl : k = L.length := by omega
      have HR2 : Hid (R = some ⟨vs, h⟩) := Lib.hid (by rw [HR.out, List.drop_length, growF]; rfl)
      have hlh := HG.out.1
      have lv8 := HMV.out.1
      (replace qk2 := k2.cell; replace rk2 := k2.frozen; replace lk2 := k2.lt; replace qk3 := k3.cell; replace rk3 := k3.frozen; replace lk3 := k3.lt)
      clear HR HG
      go_wp2_with fail
      refine bodyPost_ret (v := .tuple #[.agg #[.slice V 8 d1, .slice (some ⟨g, 0, none⟩) 8 d2], .bool true]) (by simp [results, Try.results43, go_sem, qk2, lk2]) rfl ⟨.agg #[.slice V 8 d1, .slice (some ⟨g, 0, none⟩) 8 d2], ⟨vs, h⟩, ?_, ⟨.slice V 8 d1, .slice (some ⟨g, 0, none⟩) 8 d2, rfl, ?_, ?_, ?_⟩, ?_, ?_⟩
      · rw [HR2.out]; rfl
      · exact (P1.out.setT k2 (by decide) 0 _).setT (k2.set_ 0 _) (by decide) 1 _
      · exact (P2.out.setT k2 (by decide) 0 _).setT (k2.set_ 0 _) (by decide) 1 _
      · exact DJ.out
      · exact fun _ => HR2.out
      · exact (HB.out.setCell (p := ⟨w.heap.size + 1, 0, none⟩) (by simp only; omega) _).setCell (p := ⟨w.heap.size + 1, 1, none⟩) (by simp only; omega) _
--@
end Go.Proofs.Yteogcababfenfaa
