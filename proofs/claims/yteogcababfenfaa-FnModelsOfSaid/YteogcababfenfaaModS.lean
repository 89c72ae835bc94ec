/- Contracts: the spec's model of a case. -/
import Derived.Test.YteogcababfenfaaModW
import Derived.Test.YteogcababfenfaaFirst
set_option linter.unusedSimpArgs false
set_option linter.unusedVariables false
namespace Go.Proofs.Yteogcababfenfaa
open Go Go.RowKit Go.Proofs
attribute [local go_sem ↓] Go.wp_at_zero Go.wp_at_succ

theorem IntsO.at8 {w : World} {base G n c k : Nat} {fs : List Int} (h : IntsO w base (.slice (some ⟨G, 0, none⟩) n c) fs) (hk : k < fs.length) : w.cell? ⟨G, k, none⟩ = some (.int .i64 (cl fs k)) ∧ (∀ v : Int, IntsO (w.setCell ⟨G, k, none⟩ (.int .i64 v)) base (.slice (some ⟨G, 0, none⟩) n c) (fs.set k v)) := by
  obtain ⟨g, cur, -, e, -, kc, hc, hs⟩ := h.open_ hk
  injection e with e
  injection e with e
  subst e
  refine ⟨?_, hs⟩
  rw [kc.cell, hc]
  unfold cl
  rw [Int.toNat_natCast, List.getElem?_eq_getElem hk]; rfl
theorem IntsO.at8B {w : World} {base G n c k : Nat} {fs : List Int} (h : IntsO w base (.slice (some ⟨G, 0, none⟩) n c) fs) (hk : k < fs.length) : (∀ i, w.frozen? ⟨G, i, none⟩ = false) ∧ G < w.heap.size ∧ base ≤ G ∧ ∃ cs, Blk w G tI cs := by
  obtain ⟨g, cur, -, e, hb, kc, hc, hs⟩ := h.open_ hk
  injection e with e
  injection e with e
  subst e
  exact ⟨kc.frozen, kc.lt, hb, _, kc⟩
theorem IntsO.frNe {g : Nat} {a b : World} {base : Nat} {v : Value} {xs : List Int} (h : IntsO a base v xs) (hf : Fr g a b) (hg : v.ownBlock ≠ some g) : IntsO b base v xs := by
  obtain ⟨⟨h1, h2⟩, h3⟩ := h
  refine ⟨⟨h1, ?_⟩, h3⟩
  rcases h2 with h2 | ⟨k, cap, cur, hv, hk, hh, r⟩
  · exact Or.inl h2
  · exact Or.inr ⟨k, cap, cur, hv, hk, Blk.fr hh hf (fun e => hg (by rw [hv, e]; rfl)), r⟩

--@ spec.l5Model
theorem c_l1V8 {lo hi : Nat} (A : Option Addr) (c : Nat) (vs : List Int) (t : Int) (w : World) (h : IntsV w lo hi A vs) (hl : vs.length = 8) (h0 : 0 ≤ t) (h8 : t ≤ 8) : Calls Try.prog 93 #[.slice A 8 c, .int .i64 t] w fun e w' => e = .returned (.int .i64 (tval vs t)) ∧ w = w' := by
  have := c_spec_l1Value A c vs t w h h0 (by rw [hl]; exact h8)
  rwa [hl] at this
set_option maxRecDepth 100000 in
set_option maxHeartbeats 6400000 in
theorem c_spec_l5Model {lo hi lo2 hi2 : Nat} (v : Value) (a : Asn) (S : Nat) (c : List Int) (B : Option Addr) (bc : Nat) (w : World) (h : AsnV w lo hi v a) (h' : IntsV w lo2 hi2 B c) (hv : a.valid = true) (h0 : S.testBit 0 = true) (hS : ∀ t ∈ termsL a, S.testBit t.toNat = true) (hc : c ∈ cases a S) :
    Calls Try.prog 90 #[v, .slice B 9 bc] w fun e w' => ∃ r, e = .returned r ∧ StateO w' w.heap.size r (modS a c) ∧ Below w.heap.size w w' := by
  have hV := Lib.hid h
  have HI := Lib.hid h'
  have HC := Lib.hid (csd_of h0 hc)
  have HF := Lib.hid (filled_ok hv h0 hS hc)
  have HOK := Lib.hid (Asn.valid_ok hv)
  have HMV := Lib.hid (modV_ok c)
  obtain ⟨A1, c1, A2, c2, rfl, -, h2⟩ := h
  have H2 := Lib.hid h2
  obtain ⟨pb, po, rfl, lpb⟩ := h'.blt (k := 0) (by rw [HC.out.len]; omega)
  clear h2 hv h0 hS hc h'
  go_enter Try.func90, Try.ntmps90
  have k0 : Blk ((w.alloc (.cells #[.slice A1 a.facts.length c1, .slice A2 a.atoms.length c2] tAs)).alloc (.cells #[.slice none 0 0, .slice none 0 0] tSt)) w.heap.size tAs #[.slice A1 a.facts.length c1, .slice A2 a.atoms.length c2] := blks
  have k2 : Blk ((w.alloc (.cells #[.slice A1 a.facts.length c1, .slice A2 a.atoms.length c2] tAs)).alloc (.cells #[.slice none 0 0, .slice none 0 0] tSt)) (w.heap.size + 1) tSt #[.slice none 0 0, .slice none 0 0] := blks
  have hB0 : Below w.heap.size w ((w.alloc (.cells #[.slice A1 a.facts.length c1, .slice A2 a.atoms.length c2] tAs)).alloc (.cells #[.slice none 0 0, .slice none 0 0] tSt)) := bel
  have hs0 : w.heap.size + 2 ≤ ((w.alloc (.cells #[.slice A1 a.facts.length c1, .slice A2 a.atoms.length c2] tAs)).alloc (.cells #[.slice none 0 0, .slice none 0 0] tSt)).heap.size := by simp
  go_wp2_with fail
  generalize ((w.alloc (.cells #[.slice A1 a.facts.length c1, .slice A2 a.atoms.length c2] tAs)).alloc (.cells #[.slice none 0 0, .slice none 0 0] tSt)) = W at k0 k2 hB0 hs0 ⊢
  refine (c_l2Blank _).mono ?_
  rintro e w1 ⟨r1, rfl, o1, hB1⟩
  obtain ⟨fv, av, rfl, oV, oH, dj⟩ := o1
  obtain ⟨X1, d1, rfl, -⟩ := oV.reads
  obtain ⟨X2, d2, rfl, -⟩ := oH.reads
  obtain ⟨x1, _, -, e1, hx1, -⟩ := oV.open_ (k := 0) (by simp [blankS])
  obtain ⟨x2, _, -, e2, hx2, -⟩ := oH.open_ (k := 0) (by simp [blankS])
  subst e1 e2
  have ne12 : x1 ≠ x2 := fun e => dj x1 rfl (by rw [e]; rfl)
  have lx1 := (oV.1.lt x1 rfl).2
  have lx2 := (oH.1.lt x2 rfl).2
  have J1 := Lib.hid (oV.below (bbox (Below.refl _ _) (.cells #[.slice (some ⟨x1, 0, none⟩) 8 d1, .slice (some ⟨x2, 0, none⟩) 8 d2] tSt)))
  have J2 := Lib.hid (oH.below (bbox (Below.refl _ _) (.cells #[.slice (some ⟨x1, 0, none⟩) 8 d1, .slice (some ⟨x2, 0, none⟩) 8 d2] tSt)))
  have HB1 := Lib.hid (bbox (bgo hB0 hB1) (.cells #[.slice (some ⟨x1, 0, none⟩) 8 d1, .slice (some ⟨x2, 0, none⟩) 8 d2] tSt))
  replace k0 := (k0.next hB1).alloc (.cells #[.slice (some ⟨x1, 0, none⟩) 8 d1, .slice (some ⟨x2, 0, none⟩) 8 d2] tSt)
  replace k2 := (k2.next hB1).alloc (.cells #[.slice (some ⟨x1, 0, none⟩) 8 d1, .slice (some ⟨x2, 0, none⟩) 8 d2] tSt)
  have k5 : Blk (w1.alloc (.cells #[.slice (some ⟨x1, 0, none⟩) 8 d1, .slice (some ⟨x2, 0, none⟩) 8 d2] tSt)) w1.heap.size tSt #[.slice (some ⟨x1, 0, none⟩) 8 d1, .slice (some ⟨x2, 0, none⟩) 8 d2] := Blk.new _ _ _
  have hz1 := hB1.size
  have hzw : w1.heap.size ≤ (w1.alloc (.cells #[.slice (some ⟨x1, 0, none⟩) 8 d1, .slice (some ⟨x2, 0, none⟩) 8 d2] tSt)).heap.size := by simp
  clear oV oH dj hB1 hB0
  simp only [blankS, List.length_replicate]
  go_wp2_with fail
  obtain ⟨x5, hx5⟩ : ∃ x, x = w1.heap.size := ⟨_, rfl⟩
  rw [← hx5] at k5 lx1 lx2 hz1 hzw ⊢
  clear hx5
  generalize (w1.alloc (.cells #[.slice (some ⟨x1, 0, none⟩) 8 d1, .slice (some ⟨x2, 0, none⟩) 8 d2] tSt)) = W1 at k0 k2 k5 J1 J2 HB1 hzw ⊢
  have HR1 : Hid (IntsO W1 W.heap.size (.slice (some ⟨x1, 0, none⟩) 8 d1) (modT c 1)) := by show IntsO _ _ _ _; rw [modT_start]; exact J1.out
  have HR2 : Hid (IntsO W1 W.heap.size (.slice (some ⟨x2, 0, none⟩) 8 d2) blank8) := J2.out
  clear J1 J2
  go_loopw [6, 7] (fun nx i wr => ∃ n : Nat, n ≤ 8 ∧ i = .int .i64 ((n : Int) + 1) ∧ nx = .int .i64 (rk c n : Int) ∧ Hid (IntsO wr W.heap.size (.slice (some ⟨x1, 0, none⟩) 8 d1) (modT c (n + 1))) ∧ Hid (Fr x1 W1 wr)) (fun _ i _ => 9 - (intOf i).toNat)
  case atStart => exact ⟨0, by omega, rfl, by rw [show ((0 : Nat) : Int) = 0 from rfl, rk_zero]; rfl, HR1.out, Fr.refl _ _⟩
  case round =>
    clear HR1
    obtain ⟨n, hn, rfl, rfl, HRW, HFR⟩ := hrel
    have y5 := k5.fr HFR.out (by omega)
    have q5 := y5.cell
    have r5 := y5.frozen
    by_cases hlt : n < 8
    · have hni : (n : Int) + 1 ≤ 8 := by omega
      have hni9 : (n : Int) + 1 < 9 := by omega
      have hcl := HI.out.below (HB1.out.trans (HFR.out.below (by omega) (by omega)))
      have qc := hcl.cl (k := n + 1) (by rw [HC.out.len]; omega)
      have hqx : c[n + 1]'(by rw [HC.out.len]; omega) = cl c ((n + 1 : Nat) : Int) := by
        unfold Go.Proofs.Yteogcababfenfaa.cl; rw [Int.toNat_natCast, List.getElem?_eq_getElem (by rw [HC.out.len]; omega)]; rfl
      rw [hqx] at qc
      clear hqx hcl
      have HLE := Lib.hid (HC.out.le (n + 1) (by omega))
      have HID := Lib.hid (HC.out.idem (n + 1) (by omega))
      have HROOT : Hid (cl c ((n + 1 : Nat) : Int) = ((n + 1 : Nat) : Int) → mval c ((n + 1 : Nat) : Int) = (rk c (n : Int) : Int) + 1 ∧ rk c ((n + 1 : Nat) : Int) = rk c (n : Int) + 1) := fun h => by
        have := mval_root (c := c) (t := n + 1) (by omega) (by omega) h
        rw [show (((n + 1 : Nat) : Int) - 1) = n from by omega] at this
        exact ⟨by rw [this.1]; rfl, this.2⟩
      have HSAME : Hid (cl c ((n + 1 : Nat) : Int) ≠ ((n + 1 : Nat) : Int) → rk c ((n + 1 : Nat) : Int) = rk c (n : Int)) := fun h => by
        have := rk_same (c := c) (t := n + 1) (by omega) (by omega) h
        rwa [show (((n + 1 : Nat) : Int) - 1) = n from by omega] at this
      have HNONE : Hid (cl c ((n + 1 : Nat) : Int) ≤ 0 → modT c (n + 1 + 1) = modT c (n + 1)) := fun h => modT_keep c (by omega) (by omega) (mval_none h)
      have HOLD : Hid (∀ r : Nat, cl c ((n + 1 : Nat) : Int) = r → cl c (r : Int) = r → mval c (r : Int) = mval c ((n + 1 : Nat) : Int)) := fun r h h' => mval_old h h'
      obtain ⟨qx, hsx⟩ := HRW.out.at8 (k := n) (by rw [modT_len]; exact hlt)
      obtain ⟨rx, lx, -⟩ := HRW.out.at8B (k := n) (by rw [modT_len]; exact hlt)
      have HST : Hid (IntsO (wr.setCell ⟨x1, n, none⟩ (.int .i64 (mval c ((n + 1 : Nat) : Int)))) W.heap.size (.slice (some ⟨x1, 0, none⟩) 8 d1) (modT c (n + 1 + 1))) := by
        have := hsx (mval c ((n + 1 : Nat) : Int))
        rwa [show (modT c (n + 1)).set n (mval c ((n + 1 : Nat) : Int)) = modT c (n + 1 + 1) from modT_set c (t := n + 1) (by omega) (by omega)] at this
      have HF2 : Hid (∀ v, Fr x1 W1 (wr.setCell ⟨x1, n, none⟩ v)) := fun v => HFR.out.set_ (p := ⟨x1, n, none⟩) (Or.inl rfl) v
      have hrk : rk c (n : Int) ≤ 8 := rk_le _ _
      clear hsx
      obtain ⟨x, hx⟩ : ∃ x, x = cl c ((n + 1 : Nat) : Int) := ⟨_, rfl⟩
      rw [← hx] at qc HLE HID HROOT HSAME HNONE HOLD
      generalize (rk c (n : Int)) = R at HROOT HSAME hrk ⊢
      generalize (cl (modT c (n + 1)) (n : Int)) = y at qx
      clear hx
      by_cases hroot : x = (n : Int) + 1
      · have hb : (x == (n : Int) + 1) = true := by simpa using hroot
        have e1 := HROOT.out (by omega)
        rw [e1.1] at HST
        have HRK := Lib.hid e1.2
        clear HROOT HSAME HNONE HOLD HID HLE e1 HRW HFR
        rw [hroot] at qc
        have hp : 0 < (n : Int) + 1 := by omega
        clear hroot hb
        go_wp2_with fail
        go_round
        case rel => exact ⟨n + 1, by omega, by go_num, by rw [HRK.out]; go_num, HST.out, HF2.out _⟩
        case measure => simp [intOf]; omega
      · have hb : (x == (n : Int) + 1) = false := by simpa using hroot
        have HRK := Lib.hid (HSAME.out (by omega))
        clear HSAME HROOT
        by_cases hpos : 0 < x
        · obtain ⟨r, rfl⟩ : ∃ r : Nat, x = (r : Int) + 1 := ⟨(x - 1).toNat, by omega⟩
          have hle := HLE.out.2
          have hrn : r < n := by omega
          have hid := HID.out (by omega)
          have hold := HOLD.out (r + 1) (by omega) (by rw [show (((r + 1 : Nat) : Int)) = (r : Int) + 1 from by omega]; exact hid)
          have hcl : cl (modT c (n + 1)) (r : Int) = mval c ((n + 1 : Nat) : Int) := by
            rw [modT_cl c (by omega), if_pos (by omega)]; exact hold
          have qv := (HRW.out.at8 (k := r) (by rw [modT_len]; omega)).1
          rw [hcl] at qv
          have qv2 := (HST.out.at8 (k := r) (by rw [modT_len]; omega)).1
          rw [show cl (modT c (n + 1 + 1)) (r : Int) = mval c ((n + 1 : Nat) : Int) from by rw [modT_cl c (by omega), if_pos (by omega)]; exact hold] at qv2
          have QV2 := Lib.hid qv2
          clear qv2
          have hr8 : (r : Int) < 8 := by omega
          have hn8 : (n : Int) < 8 := by omega
          have hrne : r ≠ n := by omega
          have hn0 : 0 ≤ (n : Int) + 1 := by omega
          have hr0 : 0 ≤ (r : Int) + 1 := by omega
          have hrn1 : (r : Int) + 1 < (n : Int) + 1 := by omega
          have hn00 : 0 ≤ (n : Int) := by omega
          have hr00 : 0 ≤ (r : Int) := by omega
          have hwr : IntKind.i64.wrap (r : Int) = (r : Int) := IntWalk.i64_in _ (by omega)
          have hwn : IntKind.i64.wrap (n : Int) = (n : Int) := IntWalk.i64_in _ (by omega)
          generalize mval c ((n + 1 : Nat) : Int) = m at HST qv QV2
          clear hcl hold hid HOLD HID HLE HNONE hroot hle HRW
          go_wp2_with fail
          refine wp_region_noPanic ?_
          refine wp_region_held_drew (S := (fun w' => (∀ i, w'.cell? ⟨x5, i, none⟩ = #[.slice (some ⟨x1, 0, none⟩) 8 d1, .slice (some ⟨x2, 0, none⟩) 8 d2][i]?) ∧ w'.cell? ⟨x1, r, none⟩ = some (.int .i64 m))) (by kernel_rfl) (⟨y5.drew.cell, qv⟩) (fun hHeld => ?_)
          refine wpAnyH_take (i := 0) (v := ?_) rfl (by kernel_rfl) (by kernel_rfl) (by kernel_rfl) (fun _ _ _ h => h) (Or.inl ⟨by rfl, fun w hSw => ?_⟩) hHeld ?_
          rotate_left
          · ((try dsimp only at hSw); go_split_ands; go_simp; (try with_reducible rfl))
          try simp only [Act.put, List.getElem_toArray, List.getElem_cons_zero, List.getElem_cons_succ, List.setIfInBounds_toArray, List.set_cons_zero, List.set_cons_succ]
          refine wpAnyH_take (i := 1) (v := ?_) rfl (by kernel_rfl) (by kernel_rfl) (by kernel_rfl) (fun _ _ _ h => h) (Or.inl ⟨by rfl, fun w hSw => ?_⟩) hHeld ?_
          rotate_left
          · ((try dsimp only at hSw); go_split_ands; go_simp; (try with_reducible rfl))
          try simp only [Act.put, List.getElem_toArray, List.getElem_cons_zero, List.getElem_cons_succ, List.setIfInBounds_toArray, List.set_cons_zero, List.set_cons_succ]
          refine wpAnyH_take (i := 2) (v := ?_) rfl (by kernel_rfl) (by kernel_rfl) (by kernel_rfl) (fun _ _ _ h => h) (Or.inl ⟨by rfl, fun w hSw => ?_⟩) hHeld ?_
          rotate_left
          · ((try dsimp only at hSw); go_split_ands; go_simp; (try with_reducible rfl))
          try simp only [Act.put, List.getElem_toArray, List.getElem_cons_zero, List.getElem_cons_succ, List.setIfInBounds_toArray, List.set_cons_zero, List.set_cons_succ]
          refine wpAnyH_take (i := 3) (v := ?_) rfl (by kernel_rfl) (by kernel_rfl) (by kernel_rfl) (fun _ _ _ h => h) (Or.inl ⟨by rfl, fun w hSw => ?_⟩) hHeld ?_
          rotate_left
          · ((try dsimp only at hSw); go_split_ands; go_simp; (try with_reducible rfl))
          try simp only [Act.put, List.getElem_toArray, List.getElem_cons_zero, List.getElem_cons_succ, List.setIfInBounds_toArray, List.set_cons_zero, List.set_cons_succ]
          refine wpAnyH_take (i := 4) (v := ?_) rfl (by kernel_rfl) (by kernel_rfl) (by kernel_rfl) (fun _ _ _ h => h) (Or.inl ⟨by rfl, fun w hSw => ?_⟩) hHeld ?_
          rotate_left
          · ((try dsimp only at hSw); go_split_ands; go_simp; (try with_reducible rfl))
          try simp only [Act.put, List.getElem_toArray, List.getElem_cons_zero, List.getElem_cons_succ, List.setIfInBounds_toArray, List.set_cons_zero, List.set_cons_succ]
          refine wpAnyH_take (i := 5) (v := ?_) rfl (by kernel_rfl) (by kernel_rfl) (by kernel_rfl) (fun _ _ _ h => h) (Or.inl ⟨by rfl, fun w hSw => ?_⟩) hHeld ?_
          rotate_left
          · ((try dsimp only at hSw); go_split_ands; go_simp; (try with_reducible rfl))
          try simp only [Act.put, List.getElem_toArray, List.getElem_cons_zero, List.getElem_cons_succ, List.setIfInBounds_toArray, List.set_cons_zero, List.set_cons_succ]
          refine wpAnyH_take (i := 6) (v := ?_) rfl (by kernel_rfl) (by kernel_rfl) (by kernel_rfl) (fun _ _ _ h => h) (Or.inl ⟨by rfl, fun w hSw => ?_⟩) hHeld ?_
          rotate_left
          · ((try dsimp only at hSw); go_split_ands; go_simp; (try with_reducible rfl))
          try simp only [Act.put, List.getElem_toArray, List.getElem_cons_zero, List.getElem_cons_succ, List.setIfInBounds_toArray, List.set_cons_zero, List.set_cons_succ]
          refine wpAnyH_take (i := 7) (v := ?_) rfl (by kernel_rfl) (by kernel_rfl) (by kernel_rfl) (fun _ _ _ h => h) (Or.inl ⟨by rfl, fun w hSw => ?_⟩) hHeld ?_
          rotate_left
          · ((try dsimp only at hSw); go_split_ands; go_simp; (try with_reducible rfl))
          try simp only [Act.put, List.getElem_toArray, List.getElem_cons_zero, List.getElem_cons_succ, List.setIfInBounds_toArray, List.set_cons_zero, List.set_cons_succ]
          refine wpAnyH_take (i := 8) (v := ?_) rfl (by kernel_rfl) (by kernel_rfl) (by kernel_rfl) (fun _ _ _ h => h) (Or.inl ⟨by rfl, fun w hSw => ?_⟩) hHeld ?_
          rotate_left
          · ((try dsimp only at hSw); go_split_ands; go_simp; (try with_reducible rfl))
          try simp only [Act.put, List.getElem_toArray, List.getElem_cons_zero, List.getElem_cons_succ, List.setIfInBounds_toArray, List.set_cons_zero, List.set_cons_succ]
          refine wpAnyH_take (i := 9) (v := ?_) rfl (by kernel_rfl) (by kernel_rfl) (by kernel_rfl) (fun _ _ _ h => h) (Or.inl ⟨by rfl, fun w hSw => ?_⟩) hHeld ?_
          rotate_left
          · ((try dsimp only at hSw); go_split_ands; go_simp; (try with_reducible rfl))
          try simp only [Act.put, List.getElem_toArray, List.getElem_cons_zero, List.getElem_cons_succ, List.setIfInBounds_toArray, List.set_cons_zero, List.set_cons_succ]
          refine wpAnyH_take (i := 10) (v := ?_) rfl (by kernel_rfl) (by kernel_rfl) (by kernel_rfl) (fun _ _ _ h => h) (Or.inl ⟨by rfl, fun w hSw => ?_⟩) hHeld ?_
          rotate_left
          · ((try dsimp only at hSw); go_split_ands; go_simp; (try with_reducible rfl))
          try simp only [Act.put, List.getElem_toArray, List.getElem_cons_zero, List.getElem_cons_succ, List.setIfInBounds_toArray, List.set_cons_zero, List.set_cons_succ]
          refine wpAnyH_ready (rs := [11]) (by kernel_rfl) (by simp) ?_
          refine AllReadyH.cons rfl (fun K hK => ?_) AllReadyH.nil
          try simp only [List.getElem_toArray, List.getElem_cons_zero, List.getElem_cons_succ]
          go_simp
          refine hK.out _ _ (⟨(y5.drew.far (p := ⟨x1, n, none⟩) (by simp only; omega) _).cell, QV2.out⟩) (fun hHeldN => ?_)
          clear hHeld hK K
          have hHeld := hHeldN
          clear hHeldN
          try simp only [Act.put, List.getElem_toArray, List.getElem_cons_zero, List.getElem_cons_succ, List.setIfInBounds_toArray, List.set_cons_zero, List.set_cons_succ]
          refine wpAnyH_done (by kernel_rfl) ?_ _
          refine NoPanic.normal ?_
          clear hwr hwn
          go_wp2_with fail
          go_round
          case rel => exact ⟨n + 1, by omega, by go_num, by rw [HRK.out], HST.out.below (Below.refl _ _).drew, (HF2.out _).drew⟩
          case measure => simp [intOf]; omega
        · have e := HNONE.out (by omega)
          have HN : Hid (IntsO wr W.heap.size (.slice (some ⟨x1, 0, none⟩) 8 d1) (modT c (n + 1 + 1))) := by show IntsO _ _ _ _; rw [e]; exact HRW.out
          clear e HNONE HOLD HID HLE hroot HRW
          go_wp2_with fail
          go_round
          case rel => exact ⟨n + 1, by omega, by go_num, by rw [HRK.out], HN.out, HFR.out⟩
          case measure => simp [intOf]; omega
    · obtain rfl : n = 8 := by omega
      rw [show ((8 : Nat) : Int) = 8 from rfl]
      have HRV : Hid (IntsO wr W.heap.size (.slice (some ⟨x1, 0, none⟩) 8 d1) (modV c)) := by show IntsO _ _ _ _; rw [← modT_end]; exact HRW.out
      have HRH := Lib.hid (HR2.out.frNe HFR.out (by simp only [Value.ownBlock]; intro e; injection e with e; omega))
      have HB3 : Hid (Below w.heap.size w wr) := HB1.out.trans (HFR.out.below (by omega) (by omega))
      replace k0 := k0.fr HFR.out (by omega)
      replace k2 := k2.fr HFR.out (by omega)
      have hz3 := HFR.out.size
      clear HRW HFR HR2 HB1 k5
      (replace qk0 := k0.cell; replace rk0 := k0.frozen; replace lk0 := k0.lt)
      go_wp2_with fail
      refine (c_filled9 A2 _ c2 bc a.atoms c _ (H2.out.below HB3.out) (HI.out.below HB3.out) HC.out.len HOK.out.2).mono ?_
      rintro e w4 ⟨r4, rfl, o4, hB4⟩
      obtain ⟨A4, c4, rfl, f4⟩ := o4.reads
      have HLV := Lib.hid f4
      replace HB3 := Lib.hid (bgo HB3.out hB4)
      replace HRV := Lib.hid (HRV.out.below hB4)
      replace HRH := Lib.hid (HRH.out.below hB4)
      replace k2 := k2.next hB4
      replace y5 := y5.next hB4
      have hz4 := hB4.size
      have hL := f4.le
      clear o4 f4 hB4 k0 qk0 rk0 lk0 q5 r5
      obtain ⟨L, hLe⟩ : ∃ L, L = filledL a.atoms c := ⟨_, rfl⟩
      have HLE := Lib.hid hLe
      rw [← hLe] at HLV HF hL ⊢
      clear hLe
      go_wp2_with fail
      go_loopw [10] (fun i wr => ∃ k : Nat, k ≤ L.length ∧ i = .int .i64 k ∧ Hid (IntsO wr W.heap.size (.slice (some ⟨x2, 0, none⟩) 8 d2) (heapS (modV c) blank8 (L.take k))) ∧ Hid (Fr x2 w4 wr)) (fun i _ => L.length - (intOf i).toNat)
      case atStart => exact ⟨0, Nat.zero_le _, rfl, HRH.out, Fr.refl _ _⟩
      case round =>
        clear HRH
        obtain ⟨k, hk, rfl, HRW, HFR⟩ := hrel
        have i5 := y5.fr HFR.out (by omega)
        have hzr := HFR.out.size
        by_cases hlt : k < L.length
        · have hki : (k : Int) < (L.length : Int) := by omega
          have hlv : AtomsV wr _ _ A4 L := ⟨HLV.out.raw.fr HFR.out (Or.inl (by omega)), HLV.out.lim⟩
          obtain ⟨b, o, rfl, g0, g1, g2⟩ := hlv.at hlt
          have hbl := block_lt_of_cell g0
          have HXF := Lib.hid (HF.out _ (List.getElem_mem hlt))
          have HST := Lib.hid (heapS_take (modV c) blank8 L hlt)
          have hbx : b ≠ x2 := by
            obtain ⟨b', o', e, hlo, -⟩ := HLV.out.raw.2 (by omega)
            injection e with e; injection e with e; omega
          obtain ⟨x, hx⟩ : ∃ x, x = L[k] := ⟨_, rfl⟩
          rw [← hx] at g0 g1 g2 HXF HST
          have hxa := HXF.out.1
          have hxb := HXF.out.2.1
          obtain ⟨m, hm⟩ : ∃ m : Nat, tval (modV c) x.a = (m : Int) + 1 := ⟨(tval (modV c) x.a - 1).toNat, by have := HXF.out.2.2.1; omega⟩
          have hm8 : m < 8 := by have := HXF.out.2.2.1; omega
          have hmi : (m : Int) < 8 := by omega
          have hm0 : 0 ≤ (m : Int) := by omega
          have hwm : IntKind.i64.wrap (m : Int) = (m : Int) := IntWalk.i64_in _ (by omega)
          have HM := Lib.hid hm
          rw [hm, show ((m : Int) + 1 - 1).toNat = m from by omega] at HST
          have HRV2 := Lib.hid (HRV.out.frNe HFR.out (by simp only [Value.ownBlock]; intro e; injection e with e; omega))
          obtain ⟨qw, hset⟩ := HRW.out.at8 (k := m) (by rw [heapS_len]; exact hm8)
          obtain ⟨rw_, lw, -⟩ := HRW.out.at8B (k := m) (by rw [heapS_len]; exact hm8)
          have HSET := Lib.hid (hset (tval (modV c) x.b))
          rw [← HST.out] at HSET
          have HFN := Lib.hid ((HFR.out.set_ (p := ⟨x2, m, none⟩) (Or.inl rfl) (.int .i64 (tval (modV c) x.b))).drew)
          clear hx hm HXF HRW HFR HST hset g0 hlv
          go_wp2_with fail
          refine wp_region_noPanic ?_
          refine wp_region_held_drew (S := (fun w' => (∀ i, w'.cell? ⟨x5, i, none⟩ = #[.slice (some ⟨x1, 0, none⟩) 8 d1, .slice (some ⟨x2, 0, none⟩) 8 d2][i]?) ∧ w'.cell? ⟨b, o + k * 3 + 1, none⟩ = some (.int .i64 x.a) ∧ w'.cell? ⟨b, o + k * 3 + 2, none⟩ = some (.int .i64 x.b))) (by kernel_rfl) (⟨i5.drew.cell, g1, g2⟩) (fun hHeld => ?_)
          refine wpAnyH_take (i := 0) (v := ?_) rfl (by kernel_rfl) (by kernel_rfl) (by kernel_rfl) (fun _ _ _ h => h) (Or.inl ⟨by rfl, fun w hSw => ?_⟩) hHeld ?_
          rotate_left
          · ((try dsimp only at hSw); go_split_ands; go_simp; (try with_reducible rfl))
          try simp only [Act.put, List.getElem_toArray, List.getElem_cons_zero, List.getElem_cons_succ, List.setIfInBounds_toArray, List.set_cons_zero, List.set_cons_succ]
          refine wpAnyH_take (i := 1) (v := ?_) rfl (by kernel_rfl) (by kernel_rfl) (by kernel_rfl) (fun _ _ _ h => h) (Or.inl ⟨by rfl, fun w hSw => ?_⟩) hHeld ?_
          rotate_left
          · ((try dsimp only at hSw); go_split_ands; go_simp; (try with_reducible rfl))
          try simp only [Act.put, List.getElem_toArray, List.getElem_cons_zero, List.getElem_cons_succ, List.setIfInBounds_toArray, List.set_cons_zero, List.set_cons_succ]
          refine wpAnyH_take (i := 2) (v := ?_) rfl (by kernel_rfl) (by kernel_rfl) (by kernel_rfl) (fun _ _ _ h => h) (Or.inl ⟨by rfl, fun w hSw => ?_⟩) hHeld ?_
          rotate_left
          · ((try dsimp only at hSw); go_split_ands; go_simp; (try with_reducible rfl))
          try simp only [Act.put, List.getElem_toArray, List.getElem_cons_zero, List.getElem_cons_succ, List.setIfInBounds_toArray, List.set_cons_zero, List.set_cons_succ]
          refine wpAnyH_take (i := 3) (v := ?_) rfl (by kernel_rfl) (by kernel_rfl) (by kernel_rfl) (fun _ _ _ h => h) (Or.inl ⟨by rfl, fun w hSw => ?_⟩) hHeld ?_
          rotate_left
          · ((try dsimp only at hSw); go_split_ands; go_simp; (try with_reducible rfl))
          try simp only [Act.put, List.getElem_toArray, List.getElem_cons_zero, List.getElem_cons_succ, List.setIfInBounds_toArray, List.set_cons_zero, List.set_cons_succ]
          refine wpAnyH_take (i := 4) (v := ?_) rfl (by kernel_rfl) (by kernel_rfl) (by kernel_rfl) (fun _ _ _ h => h) (Or.inl ⟨by rfl, fun w hSw => ?_⟩) hHeld ?_
          rotate_left
          · ((try dsimp only at hSw); go_split_ands; go_simp; (try with_reducible rfl))
          try simp only [Act.put, List.getElem_toArray, List.getElem_cons_zero, List.getElem_cons_succ, List.setIfInBounds_toArray, List.set_cons_zero, List.set_cons_succ]
          refine wpAnyH_take (i := 5) (v := ?_) rfl (by kernel_rfl) (by kernel_rfl) (by kernel_rfl) (fun _ _ _ h => h) (Or.inl ⟨by rfl, fun w hSw => ?_⟩) hHeld ?_
          rotate_left
          · ((try dsimp only at hSw); go_split_ands; go_simp; (try with_reducible rfl))
          try simp only [Act.put, List.getElem_toArray, List.getElem_cons_zero, List.getElem_cons_succ, List.setIfInBounds_toArray, List.set_cons_zero, List.set_cons_succ]
          refine wpAnyH_take (i := 6) (v := ?_) rfl (by kernel_rfl) (by kernel_rfl) (by kernel_rfl) (fun _ _ _ h => h) (Or.inl ⟨by rfl, fun w hSw => ?_⟩) hHeld ?_
          rotate_left
          · ((try dsimp only at hSw); go_split_ands; go_simp; (try with_reducible rfl))
          try simp only [Act.put, List.getElem_toArray, List.getElem_cons_zero, List.getElem_cons_succ, List.setIfInBounds_toArray, List.set_cons_zero, List.set_cons_succ]
          refine wpAnyH_take (i := 7) (v := ?_) rfl (by kernel_rfl) (by kernel_rfl) (by kernel_rfl) (fun _ _ _ h => h) (Or.inl ⟨by rfl, fun w hSw => ?_⟩) hHeld ?_
          rotate_left
          · ((try dsimp only at hSw); go_split_ands; go_simp; (try with_reducible rfl))
          try simp only [Act.put, List.getElem_toArray, List.getElem_cons_zero, List.getElem_cons_succ, List.setIfInBounds_toArray, List.set_cons_zero, List.set_cons_succ]
          refine wpAnyH_take (i := 8) (v := ?_) rfl (by kernel_rfl) (by kernel_rfl) (by kernel_rfl) (fun _ _ _ h => h) (Or.inl ⟨by rfl, fun w hSw => ?_⟩) hHeld ?_
          rotate_left
          · ((try dsimp only at hSw); go_split_ands; go_simp; (try with_reducible rfl))
          try simp only [Act.put, List.getElem_toArray, List.getElem_cons_zero, List.getElem_cons_succ, List.setIfInBounds_toArray, List.set_cons_zero, List.set_cons_succ]
          refine wpAnyH_take (i := 11) (v := ?_) rfl (by kernel_rfl) (by kernel_rfl) (by kernel_rfl) (fun _ _ _ h => h) (Or.inl ⟨by rfl, fun w hSw => ?_⟩) hHeld ?_
          rotate_left
          · ((try dsimp only at hSw); go_split_ands; go_simp; (try with_reducible rfl))
          try simp only [Act.put, List.getElem_toArray, List.getElem_cons_zero, List.getElem_cons_succ, List.setIfInBounds_toArray, List.set_cons_zero, List.set_cons_succ]
          refine wpAnyH_take (i := 12) (v := ?_) rfl (by kernel_rfl) (by kernel_rfl) (by kernel_rfl) (fun _ _ _ h => h) (Or.inl ⟨by rfl, fun w hSw => ?_⟩) hHeld ?_
          rotate_left
          · ((try dsimp only at hSw); go_split_ands; go_simp; (try with_reducible rfl))
          try simp only [Act.put, List.getElem_toArray, List.getElem_cons_zero, List.getElem_cons_succ, List.setIfInBounds_toArray, List.set_cons_zero, List.set_cons_succ]
          refine wpAnyH_take (i := 13) (v := ?_) rfl (by kernel_rfl) (by kernel_rfl) (by kernel_rfl) (fun _ _ _ h => h) (Or.inl ⟨by rfl, fun w hSw => ?_⟩) hHeld ?_
          rotate_left
          · ((try dsimp only at hSw); go_split_ands; go_simp; (try with_reducible rfl))
          try simp only [Act.put, List.getElem_toArray, List.getElem_cons_zero, List.getElem_cons_succ, List.setIfInBounds_toArray, List.set_cons_zero, List.set_cons_succ]
          refine wpAnyH_take (i := 14) (v := ?_) rfl (by kernel_rfl) (by kernel_rfl) (by kernel_rfl) (fun _ _ _ h => h) (Or.inl ⟨by rfl, fun w hSw => ?_⟩) hHeld ?_
          rotate_left
          · ((try dsimp only at hSw); go_split_ands; go_simp; (try with_reducible rfl))
          try simp only [Act.put, List.getElem_toArray, List.getElem_cons_zero, List.getElem_cons_succ, List.setIfInBounds_toArray, List.set_cons_zero, List.set_cons_succ]
          refine wpAnyH_take (i := 15) (v := ?_) rfl (by kernel_rfl) (by kernel_rfl) (by kernel_rfl) (fun _ _ _ h => h) (Or.inl ⟨by rfl, fun w hSw => ?_⟩) hHeld ?_
          rotate_left
          · ((try dsimp only at hSw); go_split_ands; go_simp; (try with_reducible rfl))
          try simp only [Act.put, List.getElem_toArray, List.getElem_cons_zero, List.getElem_cons_succ, List.setIfInBounds_toArray, List.set_cons_zero, List.set_cons_succ]
          refine wpAnyH_take (i := 16) (v := ?_) rfl (by kernel_rfl) (by kernel_rfl) (by kernel_rfl) (fun _ _ _ h => h) (Or.inl ⟨by rfl, fun w hSw => ?_⟩) hHeld ?_
          rotate_left
          · ((try dsimp only at hSw); go_split_ands; go_simp; (try with_reducible rfl))
          try simp only [Act.put, List.getElem_toArray, List.getElem_cons_zero, List.getElem_cons_succ, List.setIfInBounds_toArray, List.set_cons_zero, List.set_cons_succ]
          refine wpAnyH_take (i := 17) (v := ?_) rfl (by kernel_rfl) (by kernel_rfl) (by kernel_rfl) (fun _ _ _ h => h) (Or.inl ⟨by rfl, fun w hSw => ?_⟩) hHeld ?_
          rotate_left
          · ((try dsimp only at hSw); go_split_ands; go_simp; (try with_reducible rfl))
          try simp only [Act.put, List.getElem_toArray, List.getElem_cons_zero, List.getElem_cons_succ, List.setIfInBounds_toArray, List.set_cons_zero, List.set_cons_succ]
          refine wpAnyH_ready (rs := [9]) (by kernel_rfl) (by simp) ?_
          refine AllReadyH.cons rfl (fun K hK => ?_) AllReadyH.nil
          try simp only [List.getElem_toArray, List.getElem_cons_zero, List.getElem_cons_succ]
          (go_simp; refine (c_l1V8 _ d1 (modV c) x.a _ (IntsV.below (IntsO.readsI HRV2.out).2 (Below.refl _ _).drew) HMV.out.1 hxa.1 hxa.2).mono ?_; rintro e w6 ⟨rfl, rfl⟩; rw [HM.out])
          refine hK.out _ _ (⟨i5.drew.cell, g1, g2⟩) (fun hHeldN => ?_)
          clear hHeld hK K
          have hHeld := hHeldN
          clear hHeldN
          try simp only [Act.put, List.getElem_toArray, List.getElem_cons_zero, List.getElem_cons_succ, List.setIfInBounds_toArray, List.set_cons_zero, List.set_cons_succ]
          refine wpAnyH_take (i := 10) (v := ?_) rfl (by kernel_rfl) (by kernel_rfl) (by kernel_rfl) (fun _ _ _ h => h) (Or.inl ⟨by rfl, fun w hSw => ?_⟩) hHeld ?_
          rotate_left
          · ((try dsimp only at hSw); go_split_ands; go_simp; (try with_reducible rfl))
          try simp only [Act.put, List.getElem_toArray, List.getElem_cons_zero, List.getElem_cons_succ, List.setIfInBounds_toArray, List.set_cons_zero, List.set_cons_succ]
          refine wpAnyH_ready (rs := [18]) (by kernel_rfl) (by simp) ?_
          refine AllReadyH.cons rfl (fun K hK => ?_) AllReadyH.nil
          try simp only [List.getElem_toArray, List.getElem_cons_zero, List.getElem_cons_succ]
          (go_simp; refine (c_l1V8 _ d1 (modV c) x.b _ (IntsV.below (IntsO.readsI HRV2.out).2 (Below.refl _ _).drew) HMV.out.1 hxb.1 hxb.2).mono ?_; rintro e w6 ⟨rfl, rfl⟩)
          refine hK.out _ _ (⟨i5.drew.cell, g1, g2⟩) (fun hHeldN => ?_)
          clear hHeld hK K
          have hHeld := hHeldN
          clear hHeldN
          try simp only [Act.put, List.getElem_toArray, List.getElem_cons_zero, List.getElem_cons_succ, List.setIfInBounds_toArray, List.set_cons_zero, List.set_cons_succ]
          refine wpAnyH_take (i := 19) (v := ?_) rfl (by kernel_rfl) (by kernel_rfl) (by kernel_rfl) (fun _ _ _ h => h) (Or.inl ⟨by rfl, fun w hSw => ?_⟩) hHeld ?_
          rotate_left
          · ((try dsimp only at hSw); go_split_ands; go_simp; (try with_reducible rfl))
          try simp only [Act.put, List.getElem_toArray, List.getElem_cons_zero, List.getElem_cons_succ, List.setIfInBounds_toArray, List.set_cons_zero, List.set_cons_succ]
          refine wpAnyH_ready (rs := [20]) (by kernel_rfl) (by simp) ?_
          refine AllReadyH.cons rfl (fun K hK => ?_) AllReadyH.nil
          try simp only [List.getElem_toArray, List.getElem_cons_zero, List.getElem_cons_succ]
          go_simp
          refine hK.out _ _ (⟨(i5.drew.far (p := ⟨x2, m, none⟩) (by simp only; omega) _).cell, (World.cell?_of_block (a := ⟨b, o + k * 3 + 1, none⟩) (Below.heap_setCell _ _ _ _ hbx)).trans g1, (World.cell?_of_block (a := ⟨b, o + k * 3 + 2, none⟩) (Below.heap_setCell _ _ _ _ hbx)).trans g2⟩) (fun hHeldN => ?_)
          clear hHeld hK K
          have hHeld := hHeldN
          clear hHeldN
          try simp only [Act.put, List.getElem_toArray, List.getElem_cons_zero, List.getElem_cons_succ, List.setIfInBounds_toArray, List.set_cons_zero, List.set_cons_succ]
          refine wpAnyH_done (by kernel_rfl) ?_ _
          refine NoPanic.normal ?_
          clear qw rw_ lw hwm
          go_wp2_with fail
          go_round
          case rel => exact ⟨k + 1, by omega, by go_num, HSET.out.below (Below.refl _ _).drew, HFN.out⟩
          case measure => simp [intOf]; omega
        · obtain rfl : k = L.length := by omega
          rw [List.take_length] at HRW
          have z2 := k2.fr HFR.out (by omega)
          have HRV3 := Lib.hid (HRV.out.frNe HFR.out (by simp only [Value.ownBlock]; intro e; injection e with e; omega))
          have HB5 : Hid (Below w.heap.size w wr) := HB3.out.trans (HFR.out.below (by omega) (by omega))
          have q5 := i5.cell
          have r5 := i5.frozen
          have q2 := z2.cell
          have r2 := z2.frozen
          have l2c := z2.lt
          clear HFR
          go_wp2_with fail
          refine bodyPost_ret (v := .agg #[.slice (some ⟨x1, 0, none⟩) 8 d1, .slice (some ⟨x2, 0, none⟩) 8 d2]) (by simp [results, Try.results90, go_sem, q2, l2c]) rfl ⟨_, rfl, ⟨_, _, rfl, ?_, ?_, ?_⟩, ?_⟩
          · exact ((HRV3.out.set_ne (q := ⟨w.heap.size + 1, 0, none⟩) (by simp only [Value.ownBlock]; intro e; injection e with e; omega) _).set_ne (q := ⟨w.heap.size + 1, 1, none⟩) (by simp only [Value.ownBlock]; intro e; injection e with e; omega) _).lower (by omega)
          · show IntsO _ _ _ (heapS (modV c) blank8 (filledL a.atoms c))
            rw [← HLE.out]
            exact ((HRW.out.set_ne (q := ⟨w.heap.size + 1, 0, none⟩) (by simp only [Value.ownBlock]; intro e; injection e with e; omega) _).set_ne (q := ⟨w.heap.size + 1, 1, none⟩) (by simp only [Value.ownBlock]; intro e; injection e with e; omega) _).lower (by omega)
          · intro g e1 e2
            simp only [Value.ownBlock, Option.some.injEq] at e1 e2
            omega
          · exact (HB5.out.setCell (p := ⟨w.heap.size + 1, 0, none⟩) (by simp only; omega) _).setCell (p := ⟨w.heap.size + 1, 1, none⟩) (by simp only; omega) _
end Go.Proofs.Yteogcababfenfaa
