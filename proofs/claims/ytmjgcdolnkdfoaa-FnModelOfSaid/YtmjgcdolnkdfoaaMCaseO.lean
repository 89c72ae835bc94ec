/- Contracts: the spec's model of a case. -/
import Derived.Test.YtmjgcdolnkdfoaaModW
import Derived.Test.YtmjgcdolnkdfoaaFirst
import Derived.Test.YtmjgcdolnkdfoaaCons
import Derived.Test.YtmjgcdolnkdfoaaMCaseP
import Derived.Test.YtmjgcdolnkdfoaaSeq
import Derived.Test.YtmjgcdolnkdfoaaTerm
set_option linter.unusedSimpArgs false
set_option linter.unusedVariables false
namespace Go.Proofs.Ytmjgcdolnkdfoaa
open Go Go.RowKit Go.Proofs
attribute [local go_sem ↓] Go.wp_at_zero Go.wp_at_succ

theorem IntsO.at8 {w : World} {base G n c k : Nat} {fs : List Int} (h : IntsO w base (.slice (some ⟨G, 0, none⟩) n c) fs) (hk : k < fs.length) : w.cell? ⟨G, k, none⟩ = some (.int .i64 (cl fs k)) ∧ (∀ v : Int, IntsO (w.setCell ⟨G, k, none⟩ (.int .i64 v)) base (.slice (some ⟨G, 0, none⟩) n c) (fs.set k v)) := by
  obtain ⟨g, cur, -, e, -, kc, hc, hs⟩ := h.open_ hk
  injection e with e
  injection e with e
  subst e
  refine ⟨?_, hs⟩
  rw [kc.cell, hc]
  unfold cl
  rw [Int.toNat_natCast, List.getElem?_eq_getElem hk]; rfl
theorem IntsO.at8B {w : World} {base G n c k : Nat} {fs : List Int} (h : IntsO w base (.slice (some ⟨G, 0, none⟩) n c) fs) (hk : k < fs.length) : (∀ i, w.frozen? ⟨G, i, none⟩ = false) ∧ G < w.heap.size ∧ base ≤ G ∧ ∃ cs, Blk w G tI cs := by
  obtain ⟨g, cur, -, e, hb, kc, hc, hs⟩ := h.open_ hk
  injection e with e
  injection e with e
  subst e
  exact ⟨kc.frozen, kc.lt, hb, _, kc⟩
theorem IntsO.frNe {g : Nat} {a b : World} {base : Nat} {v : Value} {xs : List Int} (h : IntsO a base v xs) (hf : Fr g a b) (hg : v.ownBlock ≠ some g) : IntsO b base v xs := by
  obtain ⟨⟨h1, h2⟩, h3⟩ := h
  refine ⟨⟨h1, ?_⟩, h3⟩
  rcases h2 with h2 | ⟨k, cap, cur, hv, hk, hh, r⟩
  · exact Or.inl h2
  · exact Or.inr ⟨k, cap, cur, hv, hk, Blk.fr hh hf (fun e => hg (by rw [hv, e]; rfl)), r⟩

--@ spec.l5Model
theorem c_l1V8 {lo hi : Nat} (A : Option Addr) (c : Nat) (vs : List Int) (t : Int) (w : World) (h : IntsV w lo hi A vs) (hl : vs.length = 8) (h0 : 0 ≤ t) (h8 : t ≤ 8) : Calls Try.prog 100 #[.slice A 8 c, .int .i64 t] w fun e w' => e = .returned (.int .i64 (tval vs t)) ∧ w = w' := by
  have := c_spec_l1Value A c vs t w h h0 (by rw [hl]; exact h8)
  rwa [hl] at this
set_option maxRecDepth 100000 in
set_option maxHeartbeats 6400000 in
theorem c_spec_l5Model {lo hi lo2 hi2 : Nat} (v : Value) (a : Asn) (S : Nat) (c : List Int) (B : Option Addr) (bc : Nat) (w : World) (h : AsnV w lo hi v a) (h' : IntsV w lo2 hi2 B c) (hv : a.valid = true) (h0 : S.testBit 0 = true) (hS : ∀ t ∈ termsL a, S.testBit t.toNat = true) (hc : c ∈ cases a S) :
    Calls Try.prog 109 #[v, .slice B 9 bc] w fun e w' => ∃ r, e = .returned r ∧ StateO w' w.heap.size r (modS a c) ∧ Below w.heap.size w w' := by
  have hV := Lib.hid h
  have HI := Lib.hid h'
  have HC := Lib.hid (csd_of h0 hc)
  have HF := Lib.hid (filled_ok hv h0 hS hc)
  have HOK := Lib.hid (Asn.valid_ok hv)
  have HMV := Lib.hid (modV_ok c)
  obtain ⟨A1, c1, A2, c2, rfl, -, h2⟩ := h
  have H2 := Lib.hid h2
  obtain ⟨pb, po, rfl, lpb⟩ := h'.blt (k := 0) (by rw [HC.out.len]; omega)
  clear h2 hv h0 hS hc h'
  go_enter Try.func109, Try.ntmps109
  have k0 : Blk ((w.alloc (.cells #[.slice A1 a.facts.length c1, .slice A2 a.atoms.length c2] tAs)).alloc (.cells #[.slice none 0 0, .slice none 0 0] tSt)) w.heap.size tAs #[.slice A1 a.facts.length c1, .slice A2 a.atoms.length c2] := blks
  have k2 : Blk ((w.alloc (.cells #[.slice A1 a.facts.length c1, .slice A2 a.atoms.length c2] tAs)).alloc (.cells #[.slice none 0 0, .slice none 0 0] tSt)) (w.heap.size + 1) tSt #[.slice none 0 0, .slice none 0 0] := blks
  have hB0 : Below w.heap.size w ((w.alloc (.cells #[.slice A1 a.facts.length c1, .slice A2 a.atoms.length c2] tAs)).alloc (.cells #[.slice none 0 0, .slice none 0 0] tSt)) := bel
  have hs0 : w.heap.size + 2 ≤ ((w.alloc (.cells #[.slice A1 a.facts.length c1, .slice A2 a.atoms.length c2] tAs)).alloc (.cells #[.slice none 0 0, .slice none 0 0] tSt)).heap.size := by simp
  go_wp2_with fail
  generalize ((w.alloc (.cells #[.slice A1 a.facts.length c1, .slice A2 a.atoms.length c2] tAs)).alloc (.cells #[.slice none 0 0, .slice none 0 0] tSt)) = W at k0 k2 hB0 hs0 ⊢
  refine (c_l2Blank _).mono ?_
  rintro e w1 ⟨r1, rfl, o1, hB1⟩
  obtain ⟨fv, av, rfl, oV, oH, dj⟩ := o1
  obtain ⟨X1, d1, rfl, -⟩ := oV.reads
  obtain ⟨X2, d2, rfl, -⟩ := oH.reads
  obtain ⟨x1, _, -, e1, hx1, -⟩ := oV.open_ (k := 0) (by simp [blankS])
  obtain ⟨x2, _, -, e2, hx2, -⟩ := oH.open_ (k := 0) (by simp [blankS])
  subst e1 e2
  have ne12 : x1 ≠ x2 := fun e => dj x1 rfl (by rw [e]; rfl)
  have lx1 := (oV.1.lt x1 rfl).2
  have lx2 := (oH.1.lt x2 rfl).2
  have J1 := Lib.hid (oV.below (bbox (Below.refl _ _) (.cells #[.slice (some ⟨x1, 0, none⟩) 8 d1, .slice (some ⟨x2, 0, none⟩) 8 d2] tSt)))
  have J2 := Lib.hid (oH.below (bbox (Below.refl _ _) (.cells #[.slice (some ⟨x1, 0, none⟩) 8 d1, .slice (some ⟨x2, 0, none⟩) 8 d2] tSt)))
  have HB1 := Lib.hid (bbox (bgo hB0 hB1) (.cells #[.slice (some ⟨x1, 0, none⟩) 8 d1, .slice (some ⟨x2, 0, none⟩) 8 d2] tSt))
  replace k0 := (k0.next hB1).alloc (.cells #[.slice (some ⟨x1, 0, none⟩) 8 d1, .slice (some ⟨x2, 0, none⟩) 8 d2] tSt)
  replace k2 := (k2.next hB1).alloc (.cells #[.slice (some ⟨x1, 0, none⟩) 8 d1, .slice (some ⟨x2, 0, none⟩) 8 d2] tSt)
  have k5 : Blk (w1.alloc (.cells #[.slice (some ⟨x1, 0, none⟩) 8 d1, .slice (some ⟨x2, 0, none⟩) 8 d2] tSt)) w1.heap.size tSt #[.slice (some ⟨x1, 0, none⟩) 8 d1, .slice (some ⟨x2, 0, none⟩) 8 d2] := Blk.new _ _ _
  have hz1 := hB1.size
  have hzw : w1.heap.size ≤ (w1.alloc (.cells #[.slice (some ⟨x1, 0, none⟩) 8 d1, .slice (some ⟨x2, 0, none⟩) 8 d2] tSt)).heap.size := by simp
  clear oV oH dj hB1 hB0
  simp only [blankS, List.length_replicate]
  go_wp2_with fail
  obtain ⟨x5, hx5⟩ : ∃ x, x = w1.heap.size := ⟨_, rfl⟩
  rw [← hx5] at k5 lx1 lx2 hz1 hzw ⊢
  clear hx5
  generalize (w1.alloc (.cells #[.slice (some ⟨x1, 0, none⟩) 8 d1, .slice (some ⟨x2, 0, none⟩) 8 d2] tSt)) = W1 at k0 k2 k5 J1 J2 HB1 hzw ⊢
  have HR1 : Hid (IntsO W1 W.heap.size (.slice (some ⟨x1, 0, none⟩) 8 d1) (modT c 1)) := by show IntsO _ _ _ _; rw [modT_start]; exact J1.out
  have HR2 : Hid (IntsO W1 W.heap.size (.slice (some ⟨x2, 0, none⟩) 8 d2) blank8) := J2.out
  clear J1 J2
  go_loopw [6, 7] (fun nx i wr => ∃ n : Nat, n ≤ 8 ∧ i = .int .i64 ((n : Int) + 1) ∧ nx = .int .i64 (rk c n : Int) ∧ Hid (IntsO wr W.heap.size (.slice (some ⟨x1, 0, none⟩) 8 d1) (modT c (n + 1))) ∧ Hid (Fr x1 W1 wr)) (fun _ i _ => 9 - (intOf i).toNat)
  case atStart => exact ⟨0, by omega, rfl, by rw [show ((0 : Nat) : Int) = 0 from rfl, rk_zero]; rfl, HR1.out, Fr.refl _ _⟩
  case round =>
    clear HR1
    obtain ⟨n, hn, rfl, rfl, HRW, HFR⟩ := hrel
    have y5 := k5.fr HFR.out (by omega)
    have q5 := y5.cell
    have r5 := y5.frozen
    by_cases hlt : n < 8
    · have hni : (n : Int) + 1 ≤ 8 := by omega
      have hni9 : (n : Int) + 1 < 9 := by omega
      have hcl := HI.out.below (HB1.out.trans (HFR.out.below (by omega) (by omega)))
      have qc := hcl.cl (k := n + 1) (by rw [HC.out.len]; omega)
      have hqx : c[n + 1]'(by rw [HC.out.len]; omega) = cl c ((n + 1 : Nat) : Int) := by
        unfold Go.Proofs.Ytmjgcdolnkdfoaa.cl; rw [Int.toNat_natCast, List.getElem?_eq_getElem (by rw [HC.out.len]; omega)]; rfl
      rw [hqx] at qc
      clear hqx hcl
      have HLE := Lib.hid (HC.out.le (n + 1) (by omega))
      have HID := Lib.hid (HC.out.idem (n + 1) (by omega))
      have HROOT : Hid (cl c ((n + 1 : Nat) : Int) = ((n + 1 : Nat) : Int) → mval c ((n + 1 : Nat) : Int) = (rk c (n : Int) : Int) + 1 ∧ rk c ((n + 1 : Nat) : Int) = rk c (n : Int) + 1) := fun h => by
        have := mval_root (c := c) (t := n + 1) (by omega) (by omega) h
        rw [show (((n + 1 : Nat) : Int) - 1) = n from by omega] at this
        exact ⟨by rw [this.1]; rfl, this.2⟩
      have HSAME : Hid (cl c ((n + 1 : Nat) : Int) ≠ ((n + 1 : Nat) : Int) → rk c ((n + 1 : Nat) : Int) = rk c (n : Int)) := fun h => by
        have := rk_same (c := c) (t := n + 1) (by omega) (by omega) h
        rwa [show (((n + 1 : Nat) : Int) - 1) = n from by omega] at this
      have HNONE : Hid (cl c ((n + 1 : Nat) : Int) ≤ 0 → modT c (n + 1 + 1) = modT c (n + 1)) := fun h => modT_keep c (by omega) (by omega) (mval_none h)
      have HOLD : Hid (∀ r : Nat, cl c ((n + 1 : Nat) : Int) = r → cl c (r : Int) = r → mval c (r : Int) = mval c ((n + 1 : Nat) : Int)) := fun r h h' => mval_old h h'
      obtain ⟨qx, hsx⟩ := HRW.out.at8 (k := n) (by rw [modT_len]; exact hlt)
      obtain ⟨rx, lx, -⟩ := HRW.out.at8B (k := n) (by rw [modT_len]; exact hlt)
      have HST : Hid (IntsO (wr.setCell ⟨x1, n, none⟩ (.int .i64 (mval c ((n + 1 : Nat) : Int)))) W.heap.size (.slice (some ⟨x1, 0, none⟩) 8 d1) (modT c (n + 1 + 1))) := by
        have := hsx (mval c ((n + 1 : Nat) : Int))
        rwa [show (modT c (n + 1)).set n (mval c ((n + 1 : Nat) : Int)) = modT c (n + 1 + 1) from modT_set c (t := n + 1) (by omega) (by omega)] at this
      have HF2 : Hid (∀ v, Fr x1 W1 (wr.setCell ⟨x1, n, none⟩ v)) := fun v => HFR.out.set_ (p := ⟨x1, n, none⟩) (Or.inl rfl) v
      have hrk : rk c (n : Int) ≤ 8 := rk_le _ _
      clear hsx
      obtain ⟨x, hx⟩ : ∃ x, x = cl c ((n + 1 : Nat) : Int) := ⟨_, rfl⟩
      rw [← hx] at qc HLE HID HROOT HSAME HNONE HOLD
      generalize (rk c (n : Int)) = R at HROOT HSAME hrk ⊢
      generalize (cl (modT c (n + 1)) (n : Int)) = y at qx
      clear hx
      by_cases hroot : x = (n : Int) + 1
      · have hb : (x == (n : Int) + 1) = true := by simpa using hroot
        have e1 := HROOT.out (by omega)
        rw [e1.1] at HST
        have HRK := Lib.hid e1.2
        clear HROOT HSAME HNONE HOLD HID HLE e1 HRW HFR
        rw [hroot] at qc
        have hp : 0 < (n : Int) + 1 := by omega
        clear hroot hb
        go_wp2_with fail
        go_round
        case rel => exact ⟨n + 1, by omega, by go_num, by rw [HRK.out]; go_num, HST.out, HF2.out _⟩
        case measure => simp [intOf]; omega
      · have hb : (x == (n : Int) + 1) = false := by simpa using hroot
        have HRK := Lib.hid (HSAME.out (by omega))
        clear HSAME HROOT
        by_cases hpos : 0 < x
        · obtain ⟨r, rfl⟩ : ∃ r : Nat, x = (r : Int) + 1 := ⟨(x - 1).toNat, by omega⟩
          have hle := HLE.out.2
          have hrn : r < n := by omega
          have hid := HID.out (by omega)
          have hold := HOLD.out (r + 1) (by omega) (by rw [show (((r + 1 : Nat) : Int)) = (r : Int) + 1 from by omega]; exact hid)
          have hcl : cl (modT c (n + 1)) (r : Int) = mval c ((n + 1 : Nat) : Int) := by
            rw [modT_cl c (by omega), if_pos (by omega)]; exact hold
          have qv := (HRW.out.at8 (k := r) (by rw [modT_len]; omega)).1
          rw [hcl] at qv
          have qv2 := (HST.out.at8 (k := r) (by rw [modT_len]; omega)).1
          rw [show cl (modT c (n + 1 + 1)) (r : Int) = mval c ((n + 1 : Nat) : Int) from by rw [modT_cl c (by omega), if_pos (by omega)]; exact hold] at qv2
          have QV2 := Lib.hid qv2
          clear qv2
          have hr8 : (r : Int) < 8 := by omega
          have hn8 : (n : Int) < 8 := by omega
          have hrne : r ≠ n := by omega
          have hn0 : 0 ≤ (n : Int) + 1 := by omega
          have hr0 : 0 ≤ (r : Int) + 1 := by omega
          have hrn1 : (r : Int) + 1 < (n : Int) + 1 := by omega
          have hn00 : 0 ≤ (n : Int) := by omega
          have hr00 : 0 ≤ (r : Int) := by omega
          have hwr : IntKind.i64.wrap (r : Int) = (r : Int) := IntWalk.i64_in _ (by omega)
          have hwn : IntKind.i64.wrap (n : Int) = (n : Int) := IntWalk.i64_in _ (by omega)
          generalize mval c ((n + 1 : Nat) : Int) = m at HST qv QV2
          clear hcl hold hid HOLD HID HLE HNONE hroot hle HRW
          go_wp2_with fail
          refine wp_region_noPanic ?_
          refine wp_region_held_drew (S := (fun w' => (∀ i, w'.cell? ⟨x5, i, none⟩ = #[.slice (some ⟨x1, 0, none⟩) 8 d1, .slice (some ⟨x2, 0, none⟩) 8 d2][i]?) ∧ w'.cell? ⟨x1, r, none⟩ = some (.int .i64 m))) (by kernel_rfl) (⟨y5.drew.cell, qv⟩) (fun hHeld => ?_)
          refine wpAnyH_take (i := 0) (v := ?_) rfl (by kernel_rfl) (by kernel_rfl) (by kernel_rfl) (fun _ _ _ h => h) (Or.inl ⟨by rfl, fun w hSw => ?_⟩) hHeld ?_
          rotate_left
          · ((try dsimp only at hSw); go_split_ands; go_simp; (try with_reducible rfl))
          try simp only [Act.put, List.getElem_toArray, List.getElem_cons_zero, List.getElem_cons_succ, List.setIfInBounds_toArray, List.set_cons_zero, List.set_cons_succ]
          refine wpAnyH_take (i := 1) (v := ?_) rfl (by kernel_rfl) (by kernel_rfl) (by kernel_rfl) (fun _ _ _ h => h) (Or.inl ⟨by rfl, fun w hSw => ?_⟩) hHeld ?_
          rotate_left
          · ((try dsimp only at hSw); go_split_ands; go_simp; (try with_reducible rfl))
          try simp only [Act.put, List.getElem_toArray, List.getElem_cons_zero, List.getElem_cons_succ, List.setIfInBounds_toArray, List.set_cons_zero, List.set_cons_succ]
          refine wpAnyH_take (i := 2) (v := ?_) rfl (by kernel_rfl) (by kernel_rfl) (by kernel_rfl) (fun _ _ _ h => h) (Or.inl ⟨by rfl, fun w hSw => ?_⟩) hHeld ?_
          rotate_left
          · ((try dsimp only at hSw); go_split_ands; go_simp; (try with_reducible rfl))
          try simp only [Act.put, List.getElem_toArray, List.getElem_cons_zero, List.getElem_cons_succ, List.setIfInBounds_toArray, List.set_cons_zero, List.set_cons_succ]
          refine wpAnyH_take (i := 3) (v := ?_) rfl (by kernel_rfl) (by kernel_rfl) (by kernel_rfl) (fun _ _ _ h => h) (Or.inl ⟨by rfl, fun w hSw => ?_⟩) hHeld ?_
          rotate_left
          · ((try dsimp only at hSw); go_split_ands; go_simp; (try with_reducible rfl))
          try simp only [Act.put, List.getElem_toArray, List.getElem_cons_zero, List.getElem_cons_succ, List.setIfInBounds_toArray, List.set_cons_zero, List.set_cons_succ]
          refine wpAnyH_take (i := 4) (v := ?_) rfl (by kernel_rfl) (by kernel_rfl) (by kernel_rfl) (fun _ _ _ h => h) (Or.inl ⟨by rfl, fun w hSw => ?_⟩) hHeld ?_
          rotate_left
          · ((try dsimp only at hSw); go_split_ands; go_simp; (try with_reducible rfl))
          try simp only [Act.put, List.getElem_toArray, List.getElem_cons_zero, List.getElem_cons_succ, List.setIfInBounds_toArray, List.set_cons_zero, List.set_cons_succ]
          refine wpAnyH_take (i := 5) (v := ?_) rfl (by kernel_rfl) (by kernel_rfl) (by kernel_rfl) (fun _ _ _ h => h) (Or.inl ⟨by rfl, fun w hSw => ?_⟩) hHeld ?_
          rotate_left
          · ((try dsimp only at hSw); go_split_ands; go_simp; (try with_reducible rfl))
          try simp only [Act.put, List.getElem_toArray, List.getElem_cons_zero, List.getElem_cons_succ, List.setIfInBounds_toArray, List.set_cons_zero, List.set_cons_succ]
          refine wpAnyH_take (i := 6) (v := ?_) rfl (by kernel_rfl) (by kernel_rfl) (by kernel_rfl) (fun _ _ _ h => h) (Or.inl ⟨by rfl, fun w hSw => ?_⟩) hHeld ?_
          rotate_left
          · ((try dsimp only at hSw); go_split_ands; go_simp; (try with_reducible rfl))
          try simp only [Act.put, List.getElem_toArray, List.getElem_cons_zero, List.getElem_cons_succ, List.setIfInBounds_toArray, List.set_cons_zero, List.set_cons_succ]
          refine wpAnyH_take (i := 7) (v := ?_) rfl (by kernel_rfl) (by kernel_rfl) (by kernel_rfl) (fun _ _ _ h => h) (Or.inl ⟨by rfl, fun w hSw => ?_⟩) hHeld ?_
          rotate_left
          · ((try dsimp only at hSw); go_split_ands; go_simp; (try with_reducible rfl))
          try simp only [Act.put, List.getElem_toArray, List.getElem_cons_zero, List.getElem_cons_succ, List.setIfInBounds_toArray, List.set_cons_zero, List.set_cons_succ]
          refine wpAnyH_take (i := 8) (v := ?_) rfl (by kernel_rfl) (by kernel_rfl) (by kernel_rfl) (fun _ _ _ h => h) (Or.inl ⟨by rfl, fun w hSw => ?_⟩) hHeld ?_
          rotate_left
          · ((try dsimp only at hSw); go_split_ands; go_simp; (try with_reducible rfl))
          try simp only [Act.put, List.getElem_toArray, List.getElem_cons_zero, List.getElem_cons_succ, List.setIfInBounds_toArray, List.set_cons_zero, List.set_cons_succ]
          refine wpAnyH_take (i := 9) (v := ?_) rfl (by kernel_rfl) (by kernel_rfl) (by kernel_rfl) (fun _ _ _ h => h) (Or.inl ⟨by rfl, fun w hSw => ?_⟩) hHeld ?_
          rotate_left
          · ((try dsimp only at hSw); go_split_ands; go_simp; (try with_reducible rfl))
          try simp only [Act.put, List.getElem_toArray, List.getElem_cons_zero, List.getElem_cons_succ, List.setIfInBounds_toArray, List.set_cons_zero, List.set_cons_succ]
          refine wpAnyH_take (i := 10) (v := ?_) rfl (by kernel_rfl) (by kernel_rfl) (by kernel_rfl) (fun _ _ _ h => h) (Or.inl ⟨by rfl, fun w hSw => ?_⟩) hHeld ?_
          rotate_left
          · ((try dsimp only at hSw); go_split_ands; go_simp; (try with_reducible rfl))
          try simp only [Act.put, List.getElem_toArray, List.getElem_cons_zero, List.getElem_cons_succ, List.setIfInBounds_toArray, List.set_cons_zero, List.set_cons_succ]
          refine wpAnyH_ready (rs := [11]) (by kernel_rfl) (by simp) ?_
          refine AllReadyH.cons rfl (fun K hK => ?_) AllReadyH.nil
          try simp only [List.getElem_toArray, List.getElem_cons_zero, List.getElem_cons_succ]
          go_simp
          refine hK.out _ _ (⟨(y5.drew.far (p := ⟨x1, n, none⟩) (by simp only; omega) _).cell, QV2.out⟩) (fun hHeldN => ?_)
          clear hHeld hK K
          have hHeld := hHeldN
          clear hHeldN
          try simp only [Act.put, List.getElem_toArray, List.getElem_cons_zero, List.getElem_cons_succ, List.setIfInBounds_toArray, List.set_cons_zero, List.set_cons_succ]
          refine wpAnyH_done (by kernel_rfl) ?_ _
          refine NoPanic.normal ?_
          clear hwr hwn
          go_wp2_with fail
          go_round
          case rel => exact ⟨n + 1, by omega, by go_num, by rw [HRK.out], HST.out.below (Below.refl _ _).drew, (HF2.out _).drew⟩
          case measure => simp [intOf]; omega
        · have e := HNONE.out (by omega)
          have HN : Hid (IntsO wr W.heap.size (.slice (some ⟨x1, 0, none⟩) 8 d1) (modT c (n + 1 + 1))) := by show IntsO _ _ _ _; rw [e]; exact HRW.out
          clear e HNONE HOLD HID HLE hroot HRW
          go_wp2_with fail
          go_round
          case rel => exact ⟨n + 1, by omega, by go_num, by rw [HRK.out], HN.out, HFR.out⟩
          case measure => simp [intOf]; omega
    · obtain rfl : n = 8 := by omega
      rw [show ((8 : Nat) : Int) = 8 from rfl]
      have HRV : Hid (IntsO wr W.heap.size (.slice (some ⟨x1, 0, none⟩) 8 d1) (modV c)) := by show IntsO _ _ _ _; rw [← modT_end]; exact HRW.out
      have HRH := Lib.hid (HR2.out.frNe HFR.out (by simp only [Value.ownBlock]; intro e; injection e with e; omega))
      have HB3 : Hid (Below w.heap.size w wr) := HB1.out.trans (HFR.out.below (by omega) (by omega))
      replace k0 := k0.fr HFR.out (by omega)
      replace k2 := k2.fr HFR.out (by omega)
      have hz3 := HFR.out.size
      clear HRW HFR HR2 HB1 k5
      (replace qk0 := k0.cell; replace rk0 := k0.frozen; replace lk0 := k0.lt)
      go_wp2_with fail
      refine (c_filled9 A2 _ c2 bc a.atoms c _ (H2.out.below HB3.out) (HI.out.below HB3.out) HC.out.len HOK.out.2).mono ?_
      rintro e w4 ⟨r4, rfl, o4, hB4⟩
      obtain ⟨A4, c4, rfl, f4⟩ := o4.reads
      have HLV := Lib.hid f4
      replace HB3 := Lib.hid (bgo HB3.out hB4)
      replace HRV := Lib.hid (HRV.out.below hB4)
      replace HRH := Lib.hid (HRH.out.below hB4)
      replace k2 := k2.next hB4
      replace y5 := y5.next hB4
      have hz4 := hB4.size
      have hL := f4.le
      clear o4 f4 hB4 k0 qk0 rk0 lk0 q5 r5
      obtain ⟨L, hLe⟩ : ∃ L, L = filledL a.atoms c := ⟨_, rfl⟩
      have HLE := Lib.hid hLe
      rw [← hLe] at HLV HF hL ⊢
      clear hLe
      go_wp2_with fail
      go_loopw [10] (fun i wr => ∃ k : Nat, k ≤ L.length ∧ i = .int .i64 k ∧ Hid (IntsO wr W.heap.size (.slice (some ⟨x2, 0, none⟩) 8 d2) (heapS (modV c) blank8 (L.take k))) ∧ Hid (Fr x2 w4 wr)) (fun i _ => L.length - (intOf i).toNat)
      case atStart => exact ⟨0, Nat.zero_le _, rfl, HRH.out, Fr.refl _ _⟩
      case round =>
        clear HRH
        obtain ⟨k, hk, rfl, HRW, HFR⟩ := hrel
        have i5 := y5.fr HFR.out (by omega)
        have hzr := HFR.out.size
        by_cases hlt : k < L.length
        · have hki : (k : Int) < (L.length : Int) := by omega
          have hlv : AtomsV wr _ _ A4 L := ⟨HLV.out.raw.fr HFR.out (Or.inl (by omega)), HLV.out.lim⟩
          obtain ⟨b, o, rfl, g0, g1, g2⟩ := hlv.at hlt
          have hbl := block_lt_of_cell g0
          have HXF := Lib.hid (HF.out _ (List.getElem_mem hlt))
          have HST := Lib.hid (heapS_take (modV c) blank8 L hlt)
          have hbx : b ≠ x2 := by
            obtain ⟨b', o', e, hlo, -⟩ := HLV.out.raw.2 (by omega)
            injection e with e; injection e with e; omega
          obtain ⟨x, hx⟩ : ∃ x, x = L[k] := ⟨_, rfl⟩
          rw [← hx] at g0 g1 g2 HXF HST
          have hxa := HXF.out.1
          have hxb := HXF.out.2.1
          obtain ⟨m, hm⟩ : ∃ m : Nat, tval (modV c) x.a = (m : Int) + 1 := ⟨(tval (modV c) x.a - 1).toNat, by have := HXF.out.2.2.1; omega⟩
          have hm8 : m < 8 := by have := HXF.out.2.2.1; omega
          have hmi : (m : Int) < 8 := by omega
          have hm0 : 0 ≤ (m : Int) := by omega
          have hwm : IntKind.i64.wrap (m : Int) = (m : Int) := IntWalk.i64_in _ (by omega)
          have HM := Lib.hid hm
          rw [hm, show ((m : Int) + 1 - 1).toNat = m from by omega] at HST
          have HRV2 := Lib.hid (HRV.out.frNe HFR.out (by simp only [Value.ownBlock]; intro e; injection e with e; omega))
          obtain ⟨qw, hset⟩ := HRW.out.at8 (k := m) (by rw [heapS_len]; exact hm8)
          obtain ⟨rw_, lw, -⟩ := HRW.out.at8B (k := m) (by rw [heapS_len]; exact hm8)
          have HSET := Lib.hid (hset (tval (modV c) x.b))
          rw [← HST.out] at HSET
          have HFN := Lib.hid ((HFR.out.set_ (p := ⟨x2, m, none⟩) (Or.inl rfl) (.int .i64 (tval (modV c) x.b))).drew)
          clear hx hm HXF HRW HFR HST hset g0 hlv
          go_wp2_with fail
          refine wp_region_noPanic ?_
          refine wp_region_held_drew (S := (fun w' => (∀ i, w'.cell? ⟨x5, i, none⟩ = #[.slice (some ⟨x1, 0, none⟩) 8 d1, .slice (some ⟨x2, 0, none⟩) 8 d2][i]?) ∧ w'.cell? ⟨b, o + k * 3 + 1, none⟩ = some (.int .i64 x.a) ∧ w'.cell? ⟨b, o + k * 3 + 2, none⟩ = some (.int .i64 x.b))) (by kernel_rfl) (⟨i5.drew.cell, g1, g2⟩) (fun hHeld => ?_)
          refine wpAnyH_take (i := 0) (v := ?_) rfl (by kernel_rfl) (by kernel_rfl) (by kernel_rfl) (fun _ _ _ h => h) (Or.inl ⟨by rfl, fun w hSw => ?_⟩) hHeld ?_
          rotate_left
          · ((try dsimp only at hSw); go_split_ands; go_simp; (try with_reducible rfl))
          try simp only [Act.put, List.getElem_toArray, List.getElem_cons_zero, List.getElem_cons_succ, List.setIfInBounds_toArray, List.set_cons_zero, List.set_cons_succ]
          refine wpAnyH_take (i := 1) (v := ?_) rfl (by kernel_rfl) (by kernel_rfl) (by kernel_rfl) (fun _ _ _ h => h) (Or.inl ⟨by rfl, fun w hSw => ?_⟩) hHeld ?_
          rotate_left
          · ((try dsimp only at hSw); go_split_ands; go_simp; (try with_reducible rfl))
          try simp only [Act.put, List.getElem_toArray, List.getElem_cons_zero, List.getElem_cons_succ, List.setIfInBounds_toArray, List.set_cons_zero, List.set_cons_succ]
          refine wpAnyH_take (i := 2) (v := ?_) rfl (by kernel_rfl) (by kernel_rfl) (by kernel_rfl) (fun _ _ _ h => h) (Or.inl ⟨by rfl, fun w hSw => ?_⟩) hHeld ?_
          rotate_left
          · ((try dsimp only at hSw); go_split_ands; go_simp; (try with_reducible rfl))
          try simp only [Act.put, List.getElem_toArray, List.getElem_cons_zero, List.getElem_cons_succ, List.setIfInBounds_toArray, List.set_cons_zero, List.set_cons_succ]
          refine wpAnyH_take (i := 3) (v := ?_) rfl (by kernel_rfl) (by kernel_rfl) (by kernel_rfl) (fun _ _ _ h => h) (Or.inl ⟨by rfl, fun w hSw => ?_⟩) hHeld ?_
          rotate_left
          · ((try dsimp only at hSw); go_split_ands; go_simp; (try with_reducible rfl))
          try simp only [Act.put, List.getElem_toArray, List.getElem_cons_zero, List.getElem_cons_succ, List.setIfInBounds_toArray, List.set_cons_zero, List.set_cons_succ]
          refine wpAnyH_take (i := 4) (v := ?_) rfl (by kernel_rfl) (by kernel_rfl) (by kernel_rfl) (fun _ _ _ h => h) (Or.inl ⟨by rfl, fun w hSw => ?_⟩) hHeld ?_
          rotate_left
          · ((try dsimp only at hSw); go_split_ands; go_simp; (try with_reducible rfl))
          try simp only [Act.put, List.getElem_toArray, List.getElem_cons_zero, List.getElem_cons_succ, List.setIfInBounds_toArray, List.set_cons_zero, List.set_cons_succ]
          refine wpAnyH_take (i := 5) (v := ?_) rfl (by kernel_rfl) (by kernel_rfl) (by kernel_rfl) (fun _ _ _ h => h) (Or.inl ⟨by rfl, fun w hSw => ?_⟩) hHeld ?_
          rotate_left
          · ((try dsimp only at hSw); go_split_ands; go_simp; (try with_reducible rfl))
          try simp only [Act.put, List.getElem_toArray, List.getElem_cons_zero, List.getElem_cons_succ, List.setIfInBounds_toArray, List.set_cons_zero, List.set_cons_succ]
          refine wpAnyH_take (i := 6) (v := ?_) rfl (by kernel_rfl) (by kernel_rfl) (by kernel_rfl) (fun _ _ _ h => h) (Or.inl ⟨by rfl, fun w hSw => ?_⟩) hHeld ?_
          rotate_left
          · ((try dsimp only at hSw); go_split_ands; go_simp; (try with_reducible rfl))
          try simp only [Act.put, List.getElem_toArray, List.getElem_cons_zero, List.getElem_cons_succ, List.setIfInBounds_toArray, List.set_cons_zero, List.set_cons_succ]
          refine wpAnyH_take (i := 7) (v := ?_) rfl (by kernel_rfl) (by kernel_rfl) (by kernel_rfl) (fun _ _ _ h => h) (Or.inl ⟨by rfl, fun w hSw => ?_⟩) hHeld ?_
          rotate_left
          · ((try dsimp only at hSw); go_split_ands; go_simp; (try with_reducible rfl))
          try simp only [Act.put, List.getElem_toArray, List.getElem_cons_zero, List.getElem_cons_succ, List.setIfInBounds_toArray, List.set_cons_zero, List.set_cons_succ]
          refine wpAnyH_take (i := 8) (v := ?_) rfl (by kernel_rfl) (by kernel_rfl) (by kernel_rfl) (fun _ _ _ h => h) (Or.inl ⟨by rfl, fun w hSw => ?_⟩) hHeld ?_
          rotate_left
          · ((try dsimp only at hSw); go_split_ands; go_simp; (try with_reducible rfl))
          try simp only [Act.put, List.getElem_toArray, List.getElem_cons_zero, List.getElem_cons_succ, List.setIfInBounds_toArray, List.set_cons_zero, List.set_cons_succ]
          refine wpAnyH_take (i := 11) (v := ?_) rfl (by kernel_rfl) (by kernel_rfl) (by kernel_rfl) (fun _ _ _ h => h) (Or.inl ⟨by rfl, fun w hSw => ?_⟩) hHeld ?_
          rotate_left
          · ((try dsimp only at hSw); go_split_ands; go_simp; (try with_reducible rfl))
          try simp only [Act.put, List.getElem_toArray, List.getElem_cons_zero, List.getElem_cons_succ, List.setIfInBounds_toArray, List.set_cons_zero, List.set_cons_succ]
          refine wpAnyH_take (i := 12) (v := ?_) rfl (by kernel_rfl) (by kernel_rfl) (by kernel_rfl) (fun _ _ _ h => h) (Or.inl ⟨by rfl, fun w hSw => ?_⟩) hHeld ?_
          rotate_left
          · ((try dsimp only at hSw); go_split_ands; go_simp; (try with_reducible rfl))
          try simp only [Act.put, List.getElem_toArray, List.getElem_cons_zero, List.getElem_cons_succ, List.setIfInBounds_toArray, List.set_cons_zero, List.set_cons_succ]
          refine wpAnyH_take (i := 13) (v := ?_) rfl (by kernel_rfl) (by kernel_rfl) (by kernel_rfl) (fun _ _ _ h => h) (Or.inl ⟨by rfl, fun w hSw => ?_⟩) hHeld ?_
          rotate_left
          · ((try dsimp only at hSw); go_split_ands; go_simp; (try with_reducible rfl))
          try simp only [Act.put, List.getElem_toArray, List.getElem_cons_zero, List.getElem_cons_succ, List.setIfInBounds_toArray, List.set_cons_zero, List.set_cons_succ]
          refine wpAnyH_take (i := 14) (v := ?_) rfl (by kernel_rfl) (by kernel_rfl) (by kernel_rfl) (fun _ _ _ h => h) (Or.inl ⟨by rfl, fun w hSw => ?_⟩) hHeld ?_
          rotate_left
          · ((try dsimp only at hSw); go_split_ands; go_simp; (try with_reducible rfl))
          try simp only [Act.put, List.getElem_toArray, List.getElem_cons_zero, List.getElem_cons_succ, List.setIfInBounds_toArray, List.set_cons_zero, List.set_cons_succ]
          refine wpAnyH_take (i := 15) (v := ?_) rfl (by kernel_rfl) (by kernel_rfl) (by kernel_rfl) (fun _ _ _ h => h) (Or.inl ⟨by rfl, fun w hSw => ?_⟩) hHeld ?_
          rotate_left
          · ((try dsimp only at hSw); go_split_ands; go_simp; (try with_reducible rfl))
          try simp only [Act.put, List.getElem_toArray, List.getElem_cons_zero, List.getElem_cons_succ, List.setIfInBounds_toArray, List.set_cons_zero, List.set_cons_succ]
          refine wpAnyH_take (i := 16) (v := ?_) rfl (by kernel_rfl) (by kernel_rfl) (by kernel_rfl) (fun _ _ _ h => h) (Or.inl ⟨by rfl, fun w hSw => ?_⟩) hHeld ?_
          rotate_left
          · ((try dsimp only at hSw); go_split_ands; go_simp; (try with_reducible rfl))
          try simp only [Act.put, List.getElem_toArray, List.getElem_cons_zero, List.getElem_cons_succ, List.setIfInBounds_toArray, List.set_cons_zero, List.set_cons_succ]
          refine wpAnyH_take (i := 17) (v := ?_) rfl (by kernel_rfl) (by kernel_rfl) (by kernel_rfl) (fun _ _ _ h => h) (Or.inl ⟨by rfl, fun w hSw => ?_⟩) hHeld ?_
          rotate_left
          · ((try dsimp only at hSw); go_split_ands; go_simp; (try with_reducible rfl))
          try simp only [Act.put, List.getElem_toArray, List.getElem_cons_zero, List.getElem_cons_succ, List.setIfInBounds_toArray, List.set_cons_zero, List.set_cons_succ]
          refine wpAnyH_ready (rs := [9]) (by kernel_rfl) (by simp) ?_
          refine AllReadyH.cons rfl (fun K hK => ?_) AllReadyH.nil
          try simp only [List.getElem_toArray, List.getElem_cons_zero, List.getElem_cons_succ]
          (go_simp; refine (c_l1V8 _ d1 (modV c) x.a _ (IntsV.below (IntsO.readsI HRV2.out).2 (Below.refl _ _).drew) HMV.out.1 hxa.1 hxa.2).mono ?_; rintro e w6 ⟨rfl, rfl⟩; rw [HM.out])
          refine hK.out _ _ (⟨i5.drew.cell, g1, g2⟩) (fun hHeldN => ?_)
          clear hHeld hK K
          have hHeld := hHeldN
          clear hHeldN
          try simp only [Act.put, List.getElem_toArray, List.getElem_cons_zero, List.getElem_cons_succ, List.setIfInBounds_toArray, List.set_cons_zero, List.set_cons_succ]
          refine wpAnyH_take (i := 10) (v := ?_) rfl (by kernel_rfl) (by kernel_rfl) (by kernel_rfl) (fun _ _ _ h => h) (Or.inl ⟨by rfl, fun w hSw => ?_⟩) hHeld ?_
          rotate_left
          · ((try dsimp only at hSw); go_split_ands; go_simp; (try with_reducible rfl))
          try simp only [Act.put, List.getElem_toArray, List.getElem_cons_zero, List.getElem_cons_succ, List.setIfInBounds_toArray, List.set_cons_zero, List.set_cons_succ]
          refine wpAnyH_ready (rs := [18]) (by kernel_rfl) (by simp) ?_
          refine AllReadyH.cons rfl (fun K hK => ?_) AllReadyH.nil
          try simp only [List.getElem_toArray, List.getElem_cons_zero, List.getElem_cons_succ]
          (go_simp; refine (c_l1V8 _ d1 (modV c) x.b _ (IntsV.below (IntsO.readsI HRV2.out).2 (Below.refl _ _).drew) HMV.out.1 hxb.1 hxb.2).mono ?_; rintro e w6 ⟨rfl, rfl⟩)
          refine hK.out _ _ (⟨i5.drew.cell, g1, g2⟩) (fun hHeldN => ?_)
          clear hHeld hK K
          have hHeld := hHeldN
          clear hHeldN
          try simp only [Act.put, List.getElem_toArray, List.getElem_cons_zero, List.getElem_cons_succ, List.setIfInBounds_toArray, List.set_cons_zero, List.set_cons_succ]
          refine wpAnyH_take (i := 19) (v := ?_) rfl (by kernel_rfl) (by kernel_rfl) (by kernel_rfl) (fun _ _ _ h => h) (Or.inl ⟨by rfl, fun w hSw => ?_⟩) hHeld ?_
          rotate_left
          · ((try dsimp only at hSw); go_split_ands; go_simp; (try with_reducible rfl))
          try simp only [Act.put, List.getElem_toArray, List.getElem_cons_zero, List.getElem_cons_succ, List.setIfInBounds_toArray, List.set_cons_zero, List.set_cons_succ]
          refine wpAnyH_ready (rs := [20]) (by kernel_rfl) (by simp) ?_
          refine AllReadyH.cons rfl (fun K hK => ?_) AllReadyH.nil
          try simp only [List.getElem_toArray, List.getElem_cons_zero, List.getElem_cons_succ]
          go_simp
          refine hK.out _ _ (⟨(i5.drew.far (p := ⟨x2, m, none⟩) (by simp only; omega) _).cell, (World.cell?_of_block (a := ⟨b, o + k * 3 + 1, none⟩) (Below.heap_setCell _ _ _ _ hbx)).trans g1, (World.cell?_of_block (a := ⟨b, o + k * 3 + 2, none⟩) (Below.heap_setCell _ _ _ _ hbx)).trans g2⟩) (fun hHeldN => ?_)
          clear hHeld hK K
          have hHeld := hHeldN
          clear hHeldN
          try simp only [Act.put, List.getElem_toArray, List.getElem_cons_zero, List.getElem_cons_succ, List.setIfInBounds_toArray, List.set_cons_zero, List.set_cons_succ]
          refine wpAnyH_done (by kernel_rfl) ?_ _
          refine NoPanic.normal ?_
          clear qw rw_ lw hwm
          go_wp2_with fail
          go_round
          case rel => exact ⟨k + 1, by omega, by go_num, HSET.out.below (Below.refl _ _).drew, HFN.out⟩
          case measure => simp [intOf]; omega
        · obtain rfl : k = L.length := by omega
          rw [List.take_length] at HRW
          have z2 := k2.fr HFR.out (by omega)
          have HRV3 := Lib.hid (HRV.out.frNe HFR.out (by simp only [Value.ownBlock]; intro e; injection e with e; omega))
          have HB5 : Hid (Below w.heap.size w wr) := HB3.out.trans (HFR.out.below (by omega) (by omega))
          have q5 := i5.cell
          have r5 := i5.frozen
          have q2 := z2.cell
          have r2 := z2.frozen
          have l2c := z2.lt
          clear HFR
          go_wp2_with fail
          refine bodyPost_ret (v := .agg #[.slice (some ⟨x1, 0, none⟩) 8 d1, .slice (some ⟨x2, 0, none⟩) 8 d2]) (by simp [results, Try.results109, go_sem, q2, l2c]) rfl ⟨_, rfl, ⟨_, _, rfl, ?_, ?_, ?_⟩, ?_⟩
          · exact ((HRV3.out.set_ne (q := ⟨w.heap.size + 1, 0, none⟩) (by simp only [Value.ownBlock]; intro e; injection e with e; omega) _).set_ne (q := ⟨w.heap.size + 1, 1, none⟩) (by simp only [Value.ownBlock]; intro e; injection e with e; omega) _).lower (by omega)
          · show IntsO _ _ _ (heapS (modV c) blank8 (filledL a.atoms c))
            rw [← HLE.out]
            exact ((HRW.out.set_ne (q := ⟨w.heap.size + 1, 0, none⟩) (by simp only [Value.ownBlock]; intro e; injection e with e; omega) _).set_ne (q := ⟨w.heap.size + 1, 1, none⟩) (by simp only [Value.ownBlock]; intro e; injection e with e; omega) _).lower (by omega)
          · intro g e1 e2
            simp only [Value.ownBlock, Option.some.injEq] at e1 e2
            omega
          · exact (HB5.out.setCell (p := ⟨w.heap.size + 1, 0, none⟩) (by simp only; omega) _).setCell (p := ⟨w.heap.size + 1, 1, none⟩) (by simp only; omega) _
end Go.Proofs.Ytmjgcdolnkdfoaa

/- Contracts: the model of an assertion (both); equal states. -/
namespace Go.Proofs.Ytmjgcdolnkdfoaa
open Go Go.RowKit Go.Proofs
attribute [local go_sem ↓] Go.wp_at_zero Go.wp_at_succ

/-- ModelOf's state: empty where there is none -/
def modelR (a : Asn) : Ste := if consB a then modelL a else ⟨[], []⟩
theorem modelR_no {a : Asn} (h : consB a = false) : modelR a = ⟨[], []⟩ := by unfold modelR; rw [h]; rfl
theorem modelR_yes {a : Asn} (h : consB a = true) : modelR a = modS a ((cases a (caseS a 0)).head?.getD zeros) := by unfold modelR; rw [h, if_pos rfl]; rfl
theorem stateO_none (w : World) (b : Nat) : StateO w b (.agg #[.slice none 0 0, .slice none 0 0]) ⟨[], []⟩ := ⟨_, _, rfl, IntsO.nil _ _, IntsO.nil _ _, fun g h => by simp [Value.ownBlock] at h⟩
theorem head_mem {a : Asn} {S : Nat} (h : (cases a S).isEmpty = false) : (cases a S).head?.getD zeros ∈ cases a S := by
  cases hc : cases a S with
  | nil => rw [hc] at h; cases h
  | cons c cs => exact List.mem_cons_self
theorem firstI_head {L : List (List Int)} (h : L.isEmpty = false) : firstI L = L.head?.getD zeros := by
  cases L with
  | nil => cases h
  | cons c cs => rfl
theorem StateO.setR {w : World} {b : Nat} {v : Value} {s : Ste} {t : TypeId} (h : StateO w b v s) {g : Nat} {cs : Array Value} (k : Blk w g t cs) (ht : t ≠ tI) (v0 v1 : Value) : StateO ((w.setCell ⟨g, 0, none⟩ v0).setCell ⟨g, 1, none⟩ v1) b v s := by
  obtain ⟨fv, av, e, h1, h2, h3⟩ := h
  exact ⟨fv, av, e, (h1.setT k ht 0 _).setT (k.set_ 0 _) ht 1 _, (h2.setT k ht 0 _).setT (k.set_ 0 _) ht 1 _, h3⟩

--@ impl.ModelOf
set_option maxRecDepth 100000 in
set_option maxHeartbeats 3200000 in
theorem c_impl_ModelOf {lo hi : Nat} (v : Value) (a : Asn) (w : World) (h : AsnV w lo hi v a) (hhi : hi ≤ w.heap.size) :
    Calls Try.prog 29 #[v] w fun e w' => ∃ r, e = .returned (.tuple #[r, .bool (consB a)]) ∧ StateO w' w.heap.size r (modelR a) ∧ Below w.heap.size w w' := by
  have hV := Lib.hid h
  obtain ⟨A1, c1, A2, c2, rfl, -, -⟩ := h
  go_enter Try.func29, Try.ntmps29
  have k0 : Blk ((w.alloc (.cells #[.slice A1 a.facts.length c1, .slice A2 a.atoms.length c2] tAs)).alloc (.cells #[.slice none 0 0, .slice none 0 0] tSt)) w.heap.size tAs #[.slice A1 a.facts.length c1, .slice A2 a.atoms.length c2] := blks
  have k2 : Blk ((w.alloc (.cells #[.slice A1 a.facts.length c1, .slice A2 a.atoms.length c2] tAs)).alloc (.cells #[.slice none 0 0, .slice none 0 0] tSt)) (w.heap.size + 1) tSt #[.slice none 0 0, .slice none 0 0] := blks
  go_wp2_with fail
  refine (c_impl_AssertionValid _ a _ (hV.out.below bel)).mono ?_
  rintro e w1 ⟨rfl, hB1⟩
  have hB : Below w.heap.size w w1 := bgo (w := w) bel hB1
  replace k0 := k0.next hB1
  replace k2 := k2.next hB1
  have hz := hB1.size
  simp only [World.size_alloc] at hz
  clear hB1
  (replace qk0 := k0.cell; replace rk0 := k0.frozen; replace lk0 := k0.lt; replace qk2 := k2.cell; replace rk2 := k2.frozen; replace lk2 := k2.lt)
  cases hv : a.valid
  · have HC : Hid (consB a = false) := by show _ = _; unfold consB; rw [hv]; rfl
    clear hv
    go_wp2_with fail
    refine bodyPost_ret (v := .tuple #[.agg #[.slice none 0 0, .slice none 0 0], .bool false]) (by simp [results, Try.results29, go_sem, qk2, lk2]) rfl ⟨_, by rw [HC.out], by rw [modelR_no HC.out]; exact stateO_none _ _, ?_⟩
    exact (hB.setCell (p := ⟨w.heap.size + 1, 0, none⟩) (by simp only; omega) _).setCell (p := ⟨w.heap.size + 1, 1, none⟩) (by simp only; omega) _
  have HV := Lib.hid hv
  have HCE : Hid (consB a = !(cases a (caseS a 0)).isEmpty) := by show _ = _; unfold consB; rw [hv]; rfl
  clear hv
  go_wp2_with fail
  refine (c_impl_firstCase _ a _ (hV.out.below hB) (by omega) HV.out).mono ?_
  rintro e w2 ⟨rfl, hB2⟩
  obtain ⟨c, hc⟩ : ∃ c, c = (cases a (caseS a 0)).head?.getD zeros := ⟨_, rfl⟩
  have HCC := Lib.hid hc
  rw [← hc]
  replace hB := bgo hB hB2
  replace k0 := k0.next hB2
  replace k2 := k2.next hB2
  have HB2 := Lib.hid (bbox hB (.cells (case9 c) tC))
  have hz2 := hB2.size
  have hne2 : w.heap.size ≠ w2.heap.size := by omega
  have hne3 : w.heap.size + 1 ≠ w2.heap.size := by omega
  have hB0 := hB
  clear hc hB2 hB
  (replace qk0 := k0.cell; replace rk0 := k0.frozen; replace lk0 := k0.lt; replace qk2 := k2.cell; replace rk2 := k2.frozen; replace lk2 := k2.lt)
  cases he : (cases a (caseS a 0)).isEmpty
  · have HC : Hid (consB a = true) := by show _ = _; rw [HCE.out, he]; rfl
    have HMEM : Hid (c ∈ cases a (caseS a 0)) := by show _ ∈ _; rw [HCC.out]; exact head_mem he
    have HR : Hid (modelR a = modS a c) := by show _ = _; rw [modelR_yes HC.out, HCC.out]
    clear he HCE HCC
    go_wp2_with fail
    refine (c_impl_caseState _ a (caseS a 0) c (w2.alloc (.cells (case9 c) tC)) (hV.out.below HB2.out) HV.out (caseS_zero a 0) (caseS_terms HV.out 0) HMEM.out).mono ?_
    rintro e w6 ⟨r6, rfl, o6, hB6⟩
    rw [World.size_alloc] at o6
    obtain ⟨fv, av, rfl, oV, oH, dj⟩ := id o6
    obtain ⟨X1, d1, rfl, -⟩ := oV.reads
    obtain ⟨X2, d2, rfl, -⟩ := oH.reads
    have O6 := Lib.hid o6
    have HB6 := Lib.hid (bgo HB2.out hB6)
    replace k2 := (k2.alloc (.cells (case9 c) tC)).next hB6
    clear o6 oV oH dj hB6 k0 qk0 rk0 lk0
    (replace qk2 := k2.cell; replace rk2 := k2.frozen; replace lk2 := k2.lt)
    go_wp2_with fail
    refine bodyPost_ret (v := .tuple #[.agg #[.slice X1 (modS a c).values.length d1, .slice X2 (modS a c).heap.length d2], .bool true]) (by simp [results, Try.results29, go_sem, qk2, lk2]) rfl ⟨_, by rw [HC.out], by rw [HR.out]; exact (O6.out.setR k2 (by decide) _ _).lower (by omega), ?_⟩
    exact (HB6.out.setCell (p := ⟨w.heap.size + 1, 0, none⟩) (by simp only; omega) _).setCell (p := ⟨w.heap.size + 1, 1, none⟩) (by simp only; omega) _
  · have HC : Hid (consB a = false) := by show _ = _; rw [HCE.out, he]; rfl
    clear he HCE HCC
    go_wp2_with fail
    refine bodyPost_ret (v := .tuple #[.agg #[.slice none 0 0, .slice none 0 0], .bool false]) (by simp [results, Try.results29, go_sem, qk2, lk2]) rfl ⟨_, by rw [HC.out], by rw [modelR_no HC.out]; exact stateO_none _ _, ?_⟩
    exact (((hB0.setCell (p := ⟨w.heap.size + 1, 0, none⟩) (by simp only; omega) _).setCell (p := ⟨w.heap.size + 1, 1, none⟩) (by simp only; omega) _)).alloc (by simp; omega) _

--@ spec.ModelOf
set_option maxRecDepth 100000 in
set_option maxHeartbeats 3200000 in
theorem c_spec_ModelOf {lo hi : Nat} (v : Value) (a : Asn) (w : World) (h : AsnV w lo hi v a) :
    Calls Try.prog 30 #[v] w fun e w' => ∃ r, e = .returned (.tuple #[r, .bool (consB a)]) ∧ StateO w' w.heap.size r (modelR a) ∧ Below w.heap.size w w' := by
  have hV := Lib.hid h
  obtain ⟨A1, c1, A2, c2, rfl, -, -⟩ := h
  go_enter Try.func30, Try.ntmps30
  have k0 : Blk ((w.alloc (.cells #[.slice A1 a.facts.length c1, .slice A2 a.atoms.length c2] tAs)).alloc (.cells #[.slice none 0 0, .slice none 0 0] tSt)) w.heap.size tAs #[.slice A1 a.facts.length c1, .slice A2 a.atoms.length c2] := blks
  have k2 : Blk ((w.alloc (.cells #[.slice A1 a.facts.length c1, .slice A2 a.atoms.length c2] tAs)).alloc (.cells #[.slice none 0 0, .slice none 0 0] tSt)) (w.heap.size + 1) tSt #[.slice none 0 0, .slice none 0 0] := blks
  go_wp2_with fail
  refine (c_spec_AssertionValid _ a _ (hV.out.below bel)).mono ?_
  rintro e w1 ⟨rfl, hB1⟩
  have hB : Below w.heap.size w w1 := bgo (w := w) bel hB1
  replace k0 := k0.next hB1
  replace k2 := k2.next hB1
  have hz := hB1.size
  simp only [World.size_alloc] at hz
  clear hB1
  (replace qk0 := k0.cell; replace rk0 := k0.frozen; replace lk0 := k0.lt; replace qk2 := k2.cell; replace rk2 := k2.frozen; replace lk2 := k2.lt)
  cases hv : a.valid
  · have HC : Hid (consB a = false) := by show _ = _; unfold consB; rw [hv]; rfl
    clear hv
    go_wp2_with fail
    refine bodyPost_ret (v := .tuple #[.agg #[.slice none 0 0, .slice none 0 0], .bool false]) (by simp [results, Try.results30, go_sem, qk2, lk2]) rfl ⟨_, by rw [HC.out], by rw [modelR_no HC.out]; exact stateO_none _ _, ?_⟩
    exact (hB.setCell (p := ⟨w.heap.size + 1, 0, none⟩) (by simp only; omega) _).setCell (p := ⟨w.heap.size + 1, 1, none⟩) (by simp only; omega) _
  have HV := Lib.hid hv
  have HT := Lib.hid (termsL_ok hv)
  have HS := Lib.hid (seek_terms hv)
  have HOP := Lib.hid openedB
  have HCE : Hid (consB a = !(cases a (caseS a 0)).isEmpty) := by show _ = _; unfold consB; rw [hv]; rfl
  clear hv
  go_wp2_with fail
  refine wp_region_noPanic ?_
  refine wp_region_held_drew (S := (fun w' => ∀ i, w'.cell? ⟨w.heap.size, i, none⟩ = #[.slice A1 a.facts.length c1, .slice A2 a.atoms.length c2][i]?)) (by kernel_rfl) (k0.drew.cell) (fun hHeld => ?_)
  refine wpAnyH_take (i := 0) (v := ?_) rfl (by kernel_rfl) (by kernel_rfl) (by kernel_rfl) (fun _ _ _ h => h) (Or.inl ⟨by rfl, fun w hSw => ?_⟩) hHeld ?_
  rotate_left
  · ((try dsimp only at hSw); go_split_ands; go_simp; (try with_reducible rfl))
  try simp only [Act.put, List.getElem_toArray, List.getElem_cons_zero, List.getElem_cons_succ, List.setIfInBounds_toArray, List.set_cons_zero, List.set_cons_succ]
  refine wpAnyH_take (i := 1) (v := ?_) rfl (by kernel_rfl) (by kernel_rfl) (by kernel_rfl) (fun _ _ _ h => h) (Or.inl ⟨by rfl, fun w hSw => ?_⟩) hHeld ?_
  rotate_left
  · ((try dsimp only at hSw); go_split_ands; go_simp; (try with_reducible rfl))
  try simp only [Act.put, List.getElem_toArray, List.getElem_cons_zero, List.getElem_cons_succ, List.setIfInBounds_toArray, List.set_cons_zero, List.set_cons_succ]
  refine wpAnyH_ready (rs := [2]) (by kernel_rfl) (by simp) ?_
  refine AllReadyH.cons rfl (fun K hK => ?_) AllReadyH.nil
  try simp only [List.getElem_toArray, List.getElem_cons_zero, List.getElem_cons_succ]
  (go_simp; refine (c_spec_l3Terms _ a _ (hV.out.below hB.drew) HT.out).mono ?_; rintro e w3 ⟨r3, rfl, o3, hB3⟩; obtain ⟨Tb, ct, rfl, fT⟩ := o3.reads; rw [flagsOf_length]; replace hB := bgo hB.drew hB3; replace k0 := k0.drew.next hB3; replace k2 := k2.drew.next hB3)
  refine hK.out _ _ (k0.cell) (fun hHeldN => ?_)
  clear hHeld hK K
  have hHeld := hHeldN
  clear hHeldN
  try simp only [Act.put, List.getElem_toArray, List.getElem_cons_zero, List.getElem_cons_succ, List.setIfInBounds_toArray, List.set_cons_zero, List.set_cons_succ]
  refine wpAnyH_ready (rs := [3]) (by kernel_rfl) (by simp) ?_
  refine AllReadyH.cons rfl (fun K hK => ?_) AllReadyH.nil
  try simp only [List.getElem_toArray, List.getElem_cons_zero, List.getElem_cons_succ]
  (go_simp; refine (c_spec_l5Open _).mono ?_; rintro e w4 ⟨r4, rfl, o4, hB4⟩; obtain ⟨Cb, cc, rfl, fC⟩ := o4.reads; replace hB := bgo hB hB4; have fT4 := fT.below hB4; replace k0 := k0.next hB4; replace k2 := k2.next hB4)
  refine hK.out _ _ (k0.cell) (fun hHeldN => ?_)
  clear hHeld hK K
  have hHeld := hHeldN
  clear hHeldN
  try simp only [Act.put, List.getElem_toArray, List.getElem_cons_zero, List.getElem_cons_succ, List.setIfInBounds_toArray, List.set_cons_zero, List.set_cons_succ]
  refine wpAnyH_ready (rs := [4]) (by kernel_rfl) (by simp) ?_
  refine AllReadyH.cons rfl (fun K hK => ?_) AllReadyH.nil
  try simp only [List.getElem_toArray, List.getElem_cons_zero, List.getElem_cons_succ]
  (go_simp; refine (c_spec_l5First Tb ct HV.out 8 opened Cb cc _ _ _ (by omega) rfl (HOP.out.2 _) HOP.out.1 (hV.out.below hB) fT4 fC).mono ?_; rintro e w5 ⟨r5, rfl, o5, hB5⟩; replace hB := bgo hB hB5; replace k0 := k0.next hB5; replace k2 := k2.next hB5; rw [HS.out] at o5 ⊢)
  refine hK.out _ _ (k0.cell) (fun hHeldN => ?_)
  clear hHeld hK K
  have hHeld := hHeldN
  clear hHeldN
  try simp only [Act.put, List.getElem_toArray, List.getElem_cons_zero, List.getElem_cons_succ, List.setIfInBounds_toArray, List.set_cons_zero, List.set_cons_succ]
  refine wpAnyH_take (i := 5) (v := ?_) rfl (by kernel_rfl) (by kernel_rfl) (by kernel_rfl) (fun _ _ _ h => h) (Or.inl ⟨by rfl, fun w hSw => ?_⟩) hHeld ?_
  rotate_left
  · ((try dsimp only at hSw); go_split_ands; go_simp; (try with_reducible rfl))
  try simp only [Act.put, List.getElem_toArray, List.getElem_cons_zero, List.getElem_cons_succ, List.setIfInBounds_toArray, List.set_cons_zero, List.set_cons_succ]
  refine wpAnyH_take (i := 6) (v := ?_) rfl (by kernel_rfl) (by kernel_rfl) (by kernel_rfl) (fun _ _ _ h => h) (Or.inl ⟨by rfl, fun w hSw => ?_⟩) hHeld ?_
  rotate_left
  · ((try dsimp only at hSw); go_split_ands; go_simp; (try with_reducible rfl))
  try simp only [Act.put, List.getElem_toArray, List.getElem_cons_zero, List.getElem_cons_succ, List.setIfInBounds_toArray, List.set_cons_zero, List.set_cons_succ]
  refine wpAnyH_take (i := 7) (v := ?_) rfl (by kernel_rfl) (by kernel_rfl) (by kernel_rfl) (fun _ _ _ h => h) (Or.inl ⟨by rfl, fun w hSw => ?_⟩) hHeld ?_
  rotate_left
  · ((try dsimp only at hSw); go_split_ands; go_simp; (try with_reducible rfl))
  try simp only [Act.put, List.getElem_toArray, List.getElem_cons_zero, List.getElem_cons_succ, List.setIfInBounds_toArray, List.set_cons_zero, List.set_cons_succ]
  refine wpAnyH_take (i := 8) (v := ?_) rfl (by kernel_rfl) (by kernel_rfl) (by kernel_rfl) (fun _ _ _ h => h) (Or.inl ⟨by rfl, fun w hSw => ?_⟩) hHeld ?_
  rotate_left
  · ((try dsimp only at hSw); go_split_ands; go_simp; (try with_reducible rfl))
  try simp only [Act.put, List.getElem_toArray, List.getElem_cons_zero, List.getElem_cons_succ, List.setIfInBounds_toArray, List.set_cons_zero, List.set_cons_succ]
  refine wpAnyH_take (i := 9) (v := ?_) rfl (by kernel_rfl) (by kernel_rfl) (by kernel_rfl) (fun _ _ _ h => h) (Or.inl ⟨by rfl, fun w hSw => ?_⟩) hHeld ?_
  rotate_left
  · ((try dsimp only at hSw); go_split_ands; go_simp; (try with_reducible rfl))
  try simp only [Act.put, List.getElem_toArray, List.getElem_cons_zero, List.getElem_cons_succ, List.setIfInBounds_toArray, List.set_cons_zero, List.set_cons_succ]
  refine wpAnyH_done (by kernel_rfl) ?_ _
  refine NoPanic.normal ?_
  clear hHeld fT fT4 fC o3 o4 hB3 hB4 hB5 qk0 rk0 lk0 qk2 rk2 lk2
  obtain ⟨Ab, ac, rfl, f5⟩ := o5.reads
  have HF5 := Lib.hid f5
  clear o5 f5
  (replace qk0 := k0.cell; replace rk0 := k0.frozen; replace lk0 := k0.lt; replace qk2 := k2.cell; replace rk2 := k2.frozen; replace lk2 := k2.lt)
  cases he : (cases a (caseS a 0)).isEmpty
  · have HC : Hid (consB a = true) := by show _ = _; rw [HCE.out, he]; rfl
    have HMEM : Hid (firstI (cases a (caseS a 0)) ∈ cases a (caseS a 0)) := by show _ ∈ _; rw [firstI_head he]; exact head_mem he
    have HR : Hid (modelR a = modS a (firstI (cases a (caseS a 0)))) := by show _ = _; rw [modelR_yes HC.out, firstI_head he]
    clear he HCE
    have H9 : Hid ((firstI (cases a (caseS a 0))).length = 9) := (case_iff.1 HMEM.out).1
    rw [H9.out]
    generalize firstI (cases a (caseS a 0)) = c at HMEM HR HF5
    go_wp2_with fail
    refine (c_spec_l5Model _ a (caseS a 0) c Ab ac _ (hV.out.below hB) HF5.out HV.out (caseS_zero a 0) (caseS_terms HV.out 0) HMEM.out).mono ?_
    rintro e w6 ⟨r6, rfl, o6, hB6⟩
    obtain ⟨fv, av, rfl, oV, oH, dj⟩ := id o6
    obtain ⟨X1, d1, rfl, -⟩ := oV.reads
    obtain ⟨X2, d2, rfl, -⟩ := oH.reads
    have O6 := Lib.hid o6
    have HB6 := Lib.hid (bgo hB hB6)
    have hz6 := hB.size
    replace k2 := k2.next hB6
    clear o6 oV oH dj hB6 hB
    (replace qk2 := k2.cell; replace rk2 := k2.frozen; replace lk2 := k2.lt)
    go_wp2_with fail
    refine bodyPost_ret (v := .tuple #[.agg #[.slice X1 (modS a c).values.length d1, .slice X2 (modS a c).heap.length d2], .bool true]) (by simp [results, Try.results30, go_sem, qk2, lk2]) rfl ⟨_, by rw [HC.out], by rw [HR.out]; exact (O6.out.setR k2 (by decide) _ _).lower (by omega), ?_⟩
    exact (HB6.out.setCell (p := ⟨w.heap.size + 1, 0, none⟩) (by simp only; omega) _).setCell (p := ⟨w.heap.size + 1, 1, none⟩) (by simp only; omega) _
  · have HC : Hid (consB a = false) := by show _ = _; rw [HCE.out, he]; rfl
    clear he HCE
    go_wp2_with fail
    refine bodyPost_ret (v := .tuple #[.agg #[.slice none 0 0, .slice none 0 0], .bool false]) (by simp [results, Try.results30, go_sem, qk2, lk2]) rfl ⟨_, by rw [HC.out], by rw [modelR_no HC.out]; exact stateO_none _ _, ?_⟩
    exact (hB.setCell (p := ⟨w.heap.size + 1, 0, none⟩) (by simp only; omega) _).setCell (p := ⟨w.heap.size + 1, 1, none⟩) (by simp only; omega) _

--@ impl.sameInts
set_option maxHeartbeats 1600000 in
theorem c_impl_sameInts {lo hi lo' hi' : Nat} (A A' : Option Addr) (c c' : Nat) (fs gs : List Int) (w : World) (h : IntsV w lo hi A fs) (h' : IntsV w lo' hi' A' gs) : Calls Try.prog 110 #[.slice A fs.length c, .slice A' gs.length c'] w fun e w' => e = .returned (.bool (decide (fs = gs))) ∧ w = w' := by
  have hl := h.le
  have hl' := h'.le
  have H := Lib.hid h
  have H' := Lib.hid h'
  clear h h'
  by_cases hn : fs.length = gs.length
  · have hn' : ((fs.length : Int) != (gs.length : Int)) = false := by simp [hn]
    have HN := Lib.hid hn
    clear hn
    go_enter Try.func110, Try.ntmps110
    go_wp2_with fail
    clear hn'
    go_loop [14] (fun i => ∃ k : Nat, k ≤ fs.length ∧ i = .int .i64 k ∧ Hid (decide (fs = gs) = decide (fs.drop k = gs.drop k))) (fun i => fs.length - (intOf i).toNat)
    case atStart => exact ⟨0, Nat.zero_le _, rfl, by show _ = _; simp⟩
    case round =>
      obtain ⟨k, hk, rfl, HA⟩ := hrel
      by_cases hlt : k < fs.length
      · have hlt' : k < gs.length := by have := HN.out; omega
        obtain ⟨b, off, rfl, g0⟩ := H.out.at hlt
        obtain ⟨b', off', rfl, j0⟩ := H'.out.at hlt'
        have HD := Lib.hid (drop_eq fs gs k hlt hlt')
        have hki : (k : Int) < (fs.length : Int) := by omega
        have hki' : (k : Int) < (gs.length : Int) := by omega
        obtain ⟨f, hf⟩ : ∃ f, f = fs[k] := ⟨_, rfl⟩
        obtain ⟨g, hg⟩ : ∃ g, g = gs[k] := ⟨_, rfl⟩
        rw [← hf] at g0 HD
        rw [← hg] at j0 HD
        clear hf hg
        by_cases f1 : f = g
        · have E : Hid (decide (f = g) = true) := by show _ = _; rw [decide_eq_true_eq]; exact f1
          rw [f1] at g0
          clear f1
          go_wp2_with fail
          go_round
          case rel => exact ⟨k + 1, by omega, by go_num, by show _ = _; rw [HA.out, HD.out, E.out]; rfl⟩
          case measure => simp [intOf]; omega
        · have E : Hid (decide (f = g) = false) := by show _ = _; rw [decide_eq_false_iff_not]; exact f1
          have e1 : (f != g) = true := by simpa using f1
          clear f1
          go_wp2_with fail
          go_ret
          exact ⟨ret_bool (by rw [HA.out, HD.out, E.out]; rfl), rfl⟩
      · obtain rfl : k = fs.length := by omega
        have E : Hid (decide (fs = gs) = true) := by show _ = _; rw [HA.out, List.drop_length, HN.out, List.drop_length]; simp
        go_wp2_with fail
        go_ret
        exact ⟨ret_bool E.out.symm, rfl⟩
  · have hn' : ((fs.length : Int) != (gs.length : Int)) = true := by simp; omega
    have E : Hid (decide (fs = gs) = false) := by show _ = _; rw [decide_eq_false_iff_not]; exact fun e => hn (by rw [e])
    clear hn
    go_enter Try.func110, Try.ntmps110
    go_wp2_with fail
    go_ret
    exact ⟨ret_bool E.out.symm, rfl⟩

--@ impl.StateSame
set_option maxHeartbeats 1600000 in
theorem c_impl_StateSameT {lo hi lo' hi' : Nat} (v v' : Value) (s : Ste) (w : World) (h : StateV w lo hi v s) (h' : StateV w lo' hi' v' s) : Calls Try.prog 31 #[v, v'] w fun e w' => e = .returned (.bool true) ∧ Below w.heap.size w w' := by
  obtain ⟨A1, c1, A2, c2, rfl, h1, h2⟩ := h
  obtain ⟨A3, c3, A4, c4, rfl, h3, h4⟩ := h'
  have H1 := Lib.hid h1
  have H2 := Lib.hid h2
  have H3 := Lib.hid h3
  have H4 := Lib.hid h4
  clear h1 h2 h3 h4
  go_enter Try.func31, Try.ntmps31
  go_wp2_with fail
  refine (c_impl_sameInts A1 A3 c1 c3 s.values s.values _ (H1.out.below bel) (H3.out.below bel)).mono ?_
  rintro e w1 ⟨rfl, rfl⟩
  rw [decide_eq_true (Eq.refl s.values)]
  go_wp2_with fail
  refine (c_impl_sameInts A2 A4 c2 c4 s.heap s.heap _ (H2.out.below bel) (H4.out.below bel)).mono ?_
  rintro e w2 ⟨rfl, rfl⟩
  rw [decide_eq_true (Eq.refl s.heap)]
  go_wp2_with fail
  go_ret
  exact ⟨rfl, bel⟩
end Go.Proofs.Ytmjgcdolnkdfoaa

/- Contracts: the case of a state (both). -/
namespace Go.Proofs.Ytmjgcdolnkdfoaa
open Go Go.RowKit Go.Proofs
attribute [local go_sem ↓] Go.wp_at_zero Go.wp_at_succ

theorem mkI9 (w : World) : (Instr.makeSlice 29 (.int .i64 9) (.int .i64 9)).run Try.prog w = .ok (.slice (some ⟨w.heap.size, 0, none⟩) 9 9) (w.alloc (.cells (case9 zeros) tI)) :=
  (mkI 9 (by decide) w).trans (by rw [show (madeCells #[.int .i64 0] (9 * 1)) = case9 zeros from by kernel_rfl])
theorem IntsO.ofCase {w : World} {g base : Nat} {c : List Int} (h : Blk w g tI (case9 c)) (hc : c.length = 9) (hb : base ≤ g) : IntsO w base (.slice (some ⟨g, 0, none⟩) 9 9) c := by
  have hk := h.case hc
  refine ⟨?_, by rw [hc]; decide⟩
  rw [hc]
  exact own_of_blk (n := 9) (cap := 9) hk hb (by simp [encI, hc]) (by intro j hj; simp) (Nat.le_refl _) (by decide) (by simp [encI, hc])
theorem stateV_vals {w : World} {lo hi : Nat} {A1 A2 : Option Addr} {n1 n2 c1 c2 : Nat} {s : Ste} (h : StateV w lo hi (.agg #[.slice A1 n1 c1, .slice A2 n2 c2]) s) : IntsV w lo hi A1 s.values := by
  obtain ⟨B1, d1, B2, d2, he, h1, h2⟩ := h
  injection he with he; injection he with he; injection he with he1 he2
  injection he1 with he1
  subst he1
  exact h1
theorem caseOfL_valid {s : Ste} {a : Asn} (hs : s.valid = true) (ha : a.valid = true) : caseOfL s a = canon (tval s.values) (caseS a 0) := by
  unfold caseOfL; rw [hs, ha]; rfl
theorem caseOfL_bad {s : Ste} {a : Asn} (h : s.valid = false ∨ a.valid = false) : caseOfL s a = [] := by
  unfold caseOfL
  rcases h with h | h <;> rw [h] <;> simp

--@ impl.CaseOf
set_option maxRecDepth 100000 in
set_option maxHeartbeats 3200000 in
theorem c_impl_CaseOf {lo hi lo' hi' : Nat} (v v' : Value) (s : Ste) (a : Asn) (w : World) (h : StateV w lo hi v s) (h' : AsnV w lo' hi' v' a) :
    Calls Try.prog 23 #[v, v'] w fun e w' => ∃ r, e = .returned (.tuple #[r, .bool (s.valid && a.valid)]) ∧ IntsO w' w.heap.size r (caseOfL s a) ∧ Below w.heap.size w w' := by
  have hV := Lib.hid h
  have hV' := Lib.hid h'
  obtain ⟨A1, c1, A2, c2, rfl, -, -⟩ := h
  obtain ⟨A3, c3, A4, c4, rfl, -, -⟩ := h'
  go_enter Try.func23, Try.ntmps23
  have k0 : Blk ((w.alloc (.cells #[.slice A1 s.values.length c1, .slice A2 s.heap.length c2] tSt)).alloc (.cells #[.slice A3 a.facts.length c3, .slice A4 a.atoms.length c4] tAs)) w.heap.size tSt #[.slice A1 s.values.length c1, .slice A2 s.heap.length c2] := blks
  have k1 : Blk ((w.alloc (.cells #[.slice A1 s.values.length c1, .slice A2 s.heap.length c2] tSt)).alloc (.cells #[.slice A3 a.facts.length c3, .slice A4 a.atoms.length c4] tAs)) (w.heap.size + 1) tAs #[.slice A3 a.facts.length c3, .slice A4 a.atoms.length c4] := blks
  go_wp2_with fail
  refine (c_impl_StateValid _ s _ (hV.out.below bel)).mono ?_
  rintro e w1 ⟨rfl, hB1⟩
  have hB : Below w.heap.size w w1 := bgo (w := w) bel hB1
  (replace k0 := k0.next hB1; replace qk0 := k0.cell; replace rk0 := k0.frozen; replace lk0 := k0.lt; replace k1 := k1.next hB1; replace qk1 := k1.cell; replace rk1 := k1.frozen; replace lk1 := k1.lt)
  clear hB1
  cases hs : s.valid
  · have E := Lib.hid (caseOfL_bad (a := a) (.inl hs))
    go_wp2_with fail
    go_ret2
    exact ⟨_, by rw [hs]; rfl, by rw [E.out]; exact IntsO.nil _ _, hB⟩
  have HS := Lib.hid hs
  have H8 := Lib.hid (Ste.valid_len hs).1
  have HVV := Lib.hid (stateV_vals hV.out)
  clear hs
  go_wp2_with fail
  refine (c_impl_AssertionValid _ a _ (hV'.out.below hB)).mono ?_
  rintro e w2 ⟨rfl, hB2⟩
  (replace hB := bgo hB hB2; replace k0 := k0.next hB2; replace qk0 := k0.cell; replace rk0 := k0.frozen; replace lk0 := k0.lt; replace k1 := k1.next hB2; replace qk1 := k1.cell; replace rk1 := k1.frozen; replace lk1 := k1.lt)
  clear hB2
  cases ha : a.valid
  · have E := Lib.hid (caseOfL_bad (s := s) (.inr ha))
    go_wp2_with fail
    go_ret2
    exact ⟨_, by rw [HS.out, ha]; rfl, by rw [E.out]; exact IntsO.nil _ _, hB⟩
  have HC := Lib.hid (caseOfL_valid HS.out ha)
  have HAV := Lib.hid ha
  have hT := tset_lt (termsL a)
  have hSlt := tins_lt hT 0
  have hSe : tins (tset (termsL a)) 0 = caseS a 0 := by simp [caseS]
  clear ha
  go_wp2_with fail
  refine (c_impl_termsIn _ a _ (hV'.out.below hB)).mono ?_
  rintro e w3 ⟨rfl, hB3⟩
  (replace hB := bgo hB hB3; replace k0 := k0.next hB3; replace qk0 := k0.cell; replace rk0 := k0.frozen; replace lk0 := k0.lt; replace k1 := k1.next hB3; replace qk1 := k1.cell; replace rk1 := k1.frozen; replace lk1 := k1.lt)
  clear hB3
  go_wp2_with fail
  refine (c_impl_with _ 0 _ hT).mono ?_
  rintro e w4 ⟨rfl, rfl⟩
  rw [← hSe] at HC
  generalize tins (tset (termsL a)) 0 = S at HC hSlt ⊢
  obtain ⟨M, hM⟩ : ∃ M, M = tval s.values := ⟨_, rfl⟩
  have HM := Lib.hid hM
  rw [← hM] at HC
  clear hT hSe hM
  have hmk := mkI9
  go_wp2_with fail
  clear hmk
  have kg : Blk (w3.alloc (.cells (case9 zeros) tI)) w3.heap.size tI (case9 zeros) := blks
  have hgs := hB.size
  have hg1 := k1.lt
  have HB := Lib.hid (Below.alloc hB hgs (.cells (case9 zeros) tI))
  replace k0 := k0.alloc (.cells (case9 zeros) tI)
  clear hB qk0 rk0 lk0 qk1 rk1 lk1 k1
  generalize w3.alloc (.cells (case9 zeros) tI) = W at kg HB k0 ⊢
  have hGB : Hid (w.heap.size ≤ w3.heap.size ∧ w.heap.size ≠ w3.heap.size) := ⟨hgs, by omega⟩
  clear hgs hg1
  generalize w3.heap.size = g at kg hGB ⊢
  go_loopw [24] (fun i wr => ∃ (t : Nat) (d : List Int), t ≤ 9 ∧ i = .int .i64 t ∧ Hid (d.length = 9 ∧ ∀ j : Nat, j < t → cl d j = caseAt M S j) ∧ Blk wr w.heap.size tSt #[.slice A1 s.values.length c1, .slice A2 s.heap.length c2] ∧ Blk wr g tI (case9 d) ∧ Hid (Below w.heap.size w wr)) (fun i _ => 9 - (intOf i).toNat)
  case atStart => exact ⟨0, zeros, by omega, rfl, ⟨rfl, fun j hj => by omega⟩, k0, kg, HB.out⟩
  case round =>
    clear k0 kg HB
    obtain ⟨t, d, ht9, rfl, HD, k0, kg, HB⟩ := hrel
    by_cases ht : t < 9
    · have hti : (t : Int) < 9 := by omega
      have hne := hGB.out.2
      have rg := kg.frozen
      have lg := kg.lt
      have qg : wr.cell? ⟨g, t, none⟩ = some (.int .i64 (cl d t)) := case_cell (kg.case HD.out.1) (by rw [HD.out.1]; omega)
      have kg' := kg.caseSet HD.out.1 t (-1)
      have k0' := k0.far (p := ⟨g, t, none⟩) (by simp only; omega) (.int .i64 (-1))
      have HB' : Hid (Below w.heap.size w (wr.setCell ⟨g, t, none⟩ (.int .i64 (-1)))) := HB.out.setCell (p := ⟨g, t, none⟩) hGB.out.1 _
      have HD' : Hid ((d.set t (-1)).length = 9 ∧ (∀ j : Nat, j < t → cl (d.set t (-1)) j = caseAt M S j) ∧ cl (d.set t (-1)) t = -1) := by
        refine ⟨by simpa using HD.out.1, fun j hj => ?_, by rw [cl_set HD.out.1 ht _ (by omega), if_pos rfl]⟩
        rw [cl_set HD.out.1 ht _ (by omega), if_neg (by omega)]
        exact HD.out.2 j hj
      clear kg k0 hne
      go_wp2_with fail
      clear qg rg lg HB HD
      generalize (wr.setCell ⟨g, t, none⟩ (.int .i64 (-1))) = W3 at kg' k0' HB' ⊢
      generalize d.set t (-1) = d2 at kg' HD'
      go_loopw [9] (fun i wr => ∃ (k : Nat), k ≤ t + 1 ∧ i = .int .i64 k ∧ Blk wr w.heap.size tSt #[.slice A1 s.values.length c1, .slice A2 s.heap.length c2] ∧ Blk wr g tI (case9 d2) ∧ Hid (Below w.heap.size w wr) ∧ Hid (S.testBit t = true → ∀ j, j < k → S.testBit j = true → M (j : Int) ≠ M (t : Int))) (fun i _ => t + 1 - (intOf i).toNat)
      case atStart => exact ⟨0, by omega, rfl, k0', kg', HB'.out, fun _ j hj => by omega⟩
      case round =>
        clear k0' kg' HB'
        obtain ⟨k, hk, rfl, k0', kg', HB', HJ⟩ := hrel
        (replace qk0' := k0'.cell; replace rk0' := k0'.frozen; replace lk0' := k0'.lt)
        by_cases hkt : k ≤ t
        · have hki : (k : Int) ≤ (t : Int) := by omega
          go_wp2_with fail
          refine (c_impl_tHas S (t : Int) _ hSlt).mono ?_
          rintro e w5 ⟨rfl, rfl⟩
          rw [show isTermB (t : Int) = true from isTermB_iff.2 (by omega), Int.toNat_natCast, Bool.true_and]
          cases hbt : S.testBit t
          · have HE : Hid (caseAt M S t = -1) := by show _ = _; unfold caseAt; rw [hbt]; rfl
            clear hbt
            go_wp2_with fail
            go_round
            case rel => exact ⟨t + 1, d2, by omega, by go_num, ⟨HD'.out.1, fun j hj => by
              by_cases e : j = t
              · subst e; rw [HE.out]; exact HD'.out.2.2
              · exact HD'.out.2.1 j (by omega)⟩, k0', kg', HB'.out⟩
            case measure => simp [intOf]; omega
          · have HBT := Lib.hid hbt
            clear hbt
            go_wp2_with fail
            refine wp_region_noPanic ?_
            refine wp_region_held_drew (S := (fun w' => ∀ i, w'.cell? ⟨w.heap.size, i, none⟩ = #[.slice A1 s.values.length c1, .slice A2 s.heap.length c2][i]?)) (by kernel_rfl) (k0'.drew.cell) (fun hHeld => ?_)
            refine wpAnyH_take (i := 0) (v := ?_) rfl (by kernel_rfl) (by kernel_rfl) (by kernel_rfl) (fun _ _ _ h => h) (Or.inl ⟨by rfl, fun w hSw => ?_⟩) hHeld ?_
            rotate_left
            · ((try dsimp only at hSw); go_split_ands; go_simp; (try with_reducible rfl))
            try simp only [Act.put, List.getElem_toArray, List.getElem_cons_zero, List.getElem_cons_succ, List.setIfInBounds_toArray, List.set_cons_zero, List.set_cons_succ]
            refine wpAnyH_take (i := 1) (v := ?_) rfl (by kernel_rfl) (by kernel_rfl) (by kernel_rfl) (fun _ _ _ h => h) (Or.inl ⟨by rfl, fun w hSw => ?_⟩) hHeld ?_
            rotate_left
            · ((try dsimp only at hSw); go_split_ands; go_simp; (try with_reducible rfl))
            try simp only [Act.put, List.getElem_toArray, List.getElem_cons_zero, List.getElem_cons_succ, List.setIfInBounds_toArray, List.set_cons_zero, List.set_cons_succ]
            refine wpAnyH_ready (rs := [2]) (by kernel_rfl) (by simp) ?_
            refine AllReadyH.cons rfl (fun K hK => ?_) AllReadyH.nil
            try simp only [List.getElem_toArray, List.getElem_cons_zero, List.getElem_cons_succ]
            (go_simp; refine (c_impl_tHas S (k : Int) _ hSlt).mono ?_; rintro e w5 ⟨rfl, rfl⟩)
            refine hK.out _ _ (k0'.drew.cell) (fun hHeldN => ?_)
            clear hHeld hK K
            have hHeld := hHeldN
            clear hHeldN
            try simp only [Act.put, List.getElem_toArray, List.getElem_cons_zero, List.getElem_cons_succ, List.setIfInBounds_toArray, List.set_cons_zero, List.set_cons_succ]
            rw [show isTermB (k : Int) = true from isTermB_iff.2 (by omega), Int.toNat_natCast, Bool.true_and]
            cases hbk : S.testBit k
            · have HN : Hid (S.testBit t = true → ∀ j, j < k + 1 → S.testBit j = true → M (j : Int) ≠ M (t : Int)) := fun h j hj hb => by
                by_cases e : j = k
                · subst e; rw [hbk] at hb; cases hb
                · exact HJ.out h j (by omega) hb
              clear hbk
              refine wpAnyH_take (i := 3) (v := ?_) rfl (by kernel_rfl) (by kernel_rfl) (by kernel_rfl) (fun _ _ _ h => h) (Or.inl ⟨by rfl, fun w hSw => ?_⟩) hHeld ?_
              rotate_left
              · ((try dsimp only at hSw); go_split_ands; go_simp; (try with_reducible rfl))
              try simp only [Act.put, List.getElem_toArray, List.getElem_cons_zero, List.getElem_cons_succ, List.setIfInBounds_toArray, List.set_cons_zero, List.set_cons_succ]
              refine wpAnyH_take (i := 4) (v := undef) rfl (by kernel_rfl) (by kernel_rfl) (by kernel_rfl) (fun _ _ _ h => h) (Or.inr ⟨by rfl, rfl⟩) hHeld ?_
              try simp only [Act.put, List.getElem_toArray, List.getElem_cons_zero, List.getElem_cons_succ, List.setIfInBounds_toArray, List.set_cons_zero, List.set_cons_succ]
              refine wpAnyH_take (i := 5) (v := undef) rfl (by kernel_rfl) (by kernel_rfl) (by kernel_rfl) (fun _ _ _ h => h) (Or.inr ⟨by rfl, rfl⟩) hHeld ?_
              try simp only [Act.put, List.getElem_toArray, List.getElem_cons_zero, List.getElem_cons_succ, List.setIfInBounds_toArray, List.set_cons_zero, List.set_cons_succ]
              refine wpAnyH_take (i := 6) (v := undef) rfl (by kernel_rfl) (by kernel_rfl) (by kernel_rfl) (fun _ _ _ h => h) (Or.inr ⟨by rfl, rfl⟩) hHeld ?_
              try simp only [Act.put, List.getElem_toArray, List.getElem_cons_zero, List.getElem_cons_succ, List.setIfInBounds_toArray, List.set_cons_zero, List.set_cons_succ]
              refine wpAnyH_take (i := 7) (v := undef) rfl (by kernel_rfl) (by kernel_rfl) (by kernel_rfl) (fun _ _ _ h => h) (Or.inr ⟨by rfl, rfl⟩) hHeld ?_
              try simp only [Act.put, List.getElem_toArray, List.getElem_cons_zero, List.getElem_cons_succ, List.setIfInBounds_toArray, List.set_cons_zero, List.set_cons_succ]
              refine wpAnyH_take (i := 8) (v := undef) rfl (by kernel_rfl) (by kernel_rfl) (by kernel_rfl) (fun _ _ _ h => h) (Or.inr ⟨by rfl, rfl⟩) hHeld ?_
              try simp only [Act.put, List.getElem_toArray, List.getElem_cons_zero, List.getElem_cons_succ, List.setIfInBounds_toArray, List.set_cons_zero, List.set_cons_succ]
              refine wpAnyH_take (i := 9) (v := undef) rfl (by kernel_rfl) (by kernel_rfl) (by kernel_rfl) (fun _ _ _ h => h) (Or.inr ⟨by rfl, rfl⟩) hHeld ?_
              try simp only [Act.put, List.getElem_toArray, List.getElem_cons_zero, List.getElem_cons_succ, List.setIfInBounds_toArray, List.set_cons_zero, List.set_cons_succ]
              refine wpAnyH_take (i := 10) (v := undef) rfl (by kernel_rfl) (by kernel_rfl) (by kernel_rfl) (fun _ _ _ h => h) (Or.inr ⟨by rfl, rfl⟩) hHeld ?_
              try simp only [Act.put, List.getElem_toArray, List.getElem_cons_zero, List.getElem_cons_succ, List.setIfInBounds_toArray, List.set_cons_zero, List.set_cons_succ]
              refine wpAnyH_take (i := 11) (v := undef) rfl (by kernel_rfl) (by kernel_rfl) (by kernel_rfl) (fun _ _ _ h => h) (Or.inr ⟨by rfl, rfl⟩) hHeld ?_
              try simp only [Act.put, List.getElem_toArray, List.getElem_cons_zero, List.getElem_cons_succ, List.setIfInBounds_toArray, List.set_cons_zero, List.set_cons_succ]
              refine wpAnyH_take (i := 12) (v := undef) rfl (by kernel_rfl) (by kernel_rfl) (by kernel_rfl) (fun _ _ _ h => h) (Or.inr ⟨by rfl, rfl⟩) hHeld ?_
              try simp only [Act.put, List.getElem_toArray, List.getElem_cons_zero, List.getElem_cons_succ, List.setIfInBounds_toArray, List.set_cons_zero, List.set_cons_succ]
              refine wpAnyH_take (i := 13) (v := ?_) rfl (by kernel_rfl) (by kernel_rfl) (by kernel_rfl) (fun _ _ _ h => h) (Or.inl ⟨by rfl, fun w hSw => ?_⟩) hHeld ?_
              rotate_left
              · ((try dsimp only at hSw); go_split_ands; go_simp; (try with_reducible rfl))
              try simp only [Act.put, List.getElem_toArray, List.getElem_cons_zero, List.getElem_cons_succ, List.setIfInBounds_toArray, List.set_cons_zero, List.set_cons_succ]
              refine wpAnyH_done (by kernel_rfl) ?_ _
              refine NoPanic.normal ?_
              go_wp2_with fail
              go_round
              case rel => exact ⟨k + 1, by omega, by go_num, k0'.drew, kg'.drew, HB'.out.drew, HN⟩
              case measure => simp [intOf]; omega
            · have HBK := Lib.hid hbk
              clear hbk
              refine wpAnyH_take (i := 3) (v := ?_) rfl (by kernel_rfl) (by kernel_rfl) (by kernel_rfl) (fun _ _ _ h => h) (Or.inl ⟨by rfl, fun w hSw => ?_⟩) hHeld ?_
              rotate_left
              · ((try dsimp only at hSw); go_split_ands; go_simp; (try with_reducible rfl))
              try simp only [Act.put, List.getElem_toArray, List.getElem_cons_zero, List.getElem_cons_succ, List.setIfInBounds_toArray, List.set_cons_zero, List.set_cons_succ]
              refine wpAnyH_take (i := 4) (v := ?_) rfl (by kernel_rfl) (by kernel_rfl) (by kernel_rfl) (fun _ _ _ h => h) (Or.inl ⟨by rfl, fun w hSw => ?_⟩) hHeld ?_
              rotate_left
              · ((try dsimp only at hSw); go_split_ands; go_simp; (try with_reducible rfl))
              try simp only [Act.put, List.getElem_toArray, List.getElem_cons_zero, List.getElem_cons_succ, List.setIfInBounds_toArray, List.set_cons_zero, List.set_cons_succ]
              refine wpAnyH_take (i := 5) (v := ?_) rfl (by kernel_rfl) (by kernel_rfl) (by kernel_rfl) (fun _ _ _ h => h) (Or.inl ⟨by rfl, fun w hSw => ?_⟩) hHeld ?_
              rotate_left
              · ((try dsimp only at hSw); go_split_ands; go_simp; (try with_reducible rfl))
              try simp only [Act.put, List.getElem_toArray, List.getElem_cons_zero, List.getElem_cons_succ, List.setIfInBounds_toArray, List.set_cons_zero, List.set_cons_succ]
              refine wpAnyH_take (i := 6) (v := ?_) rfl (by kernel_rfl) (by kernel_rfl) (by kernel_rfl) (fun _ _ _ h => h) (Or.inl ⟨by rfl, fun w hSw => ?_⟩) hHeld ?_
              rotate_left
              · ((try dsimp only at hSw); go_split_ands; go_simp; (try with_reducible rfl))
              try simp only [Act.put, List.getElem_toArray, List.getElem_cons_zero, List.getElem_cons_succ, List.setIfInBounds_toArray, List.set_cons_zero, List.set_cons_succ]
              refine wpAnyH_take (i := 8) (v := ?_) rfl (by kernel_rfl) (by kernel_rfl) (by kernel_rfl) (fun _ _ _ h => h) (Or.inl ⟨by rfl, fun w hSw => ?_⟩) hHeld ?_
              rotate_left
              · ((try dsimp only at hSw); go_split_ands; go_simp; (try with_reducible rfl))
              try simp only [Act.put, List.getElem_toArray, List.getElem_cons_zero, List.getElem_cons_succ, List.setIfInBounds_toArray, List.set_cons_zero, List.set_cons_succ]
              refine wpAnyH_take (i := 9) (v := ?_) rfl (by kernel_rfl) (by kernel_rfl) (by kernel_rfl) (fun _ _ _ h => h) (Or.inl ⟨by rfl, fun w hSw => ?_⟩) hHeld ?_
              rotate_left
              · ((try dsimp only at hSw); go_split_ands; go_simp; (try with_reducible rfl))
              try simp only [Act.put, List.getElem_toArray, List.getElem_cons_zero, List.getElem_cons_succ, List.setIfInBounds_toArray, List.set_cons_zero, List.set_cons_succ]
              refine wpAnyH_take (i := 10) (v := ?_) rfl (by kernel_rfl) (by kernel_rfl) (by kernel_rfl) (fun _ _ _ h => h) (Or.inl ⟨by rfl, fun w hSw => ?_⟩) hHeld ?_
              rotate_left
              · ((try dsimp only at hSw); go_split_ands; go_simp; (try with_reducible rfl))
              try simp only [Act.put, List.getElem_toArray, List.getElem_cons_zero, List.getElem_cons_succ, List.setIfInBounds_toArray, List.set_cons_zero, List.set_cons_succ]
              refine wpAnyH_ready (rs := [7]) (by kernel_rfl) (by simp) ?_
              refine AllReadyH.cons rfl (fun K hK => ?_) AllReadyH.nil
              try simp only [List.getElem_toArray, List.getElem_cons_zero, List.getElem_cons_succ]
              (go_simp; refine (c_impl_termValue A1 c1 s.values (k : Int) _ (HVV.out.below HB'.out.drew) (by omega) (by have := H8.out; omega)).mono ?_; rintro e w5 ⟨rfl, rfl⟩)
              refine hK.out _ _ (k0'.drew.cell) (fun hHeldN => ?_)
              clear hHeld hK K
              have hHeld := hHeldN
              clear hHeldN
              try simp only [Act.put, List.getElem_toArray, List.getElem_cons_zero, List.getElem_cons_succ, List.setIfInBounds_toArray, List.set_cons_zero, List.set_cons_succ]
              refine wpAnyH_ready (rs := [11]) (by kernel_rfl) (by simp) ?_
              refine AllReadyH.cons rfl (fun K hK => ?_) AllReadyH.nil
              try simp only [List.getElem_toArray, List.getElem_cons_zero, List.getElem_cons_succ]
              (go_simp; refine (c_impl_termValue A1 c1 s.values (t : Int) _ (HVV.out.below HB'.out.drew) (by omega) (by have := H8.out; omega)).mono ?_; rintro e w5 ⟨rfl, rfl⟩)
              refine hK.out _ _ (k0'.drew.cell) (fun hHeldN => ?_)
              clear hHeld hK K
              have hHeld := hHeldN
              clear hHeldN
              try simp only [Act.put, List.getElem_toArray, List.getElem_cons_zero, List.getElem_cons_succ, List.setIfInBounds_toArray, List.set_cons_zero, List.set_cons_succ]
              rw [← HM.out]
              by_cases hm : M (k : Int) = M (t : Int)
              · have hmb : (M (k : Int) == M (t : Int)) = true := by simpa using hm
                have HE : Hid (caseAt M S t = k) := by show _ = _; unfold caseAt; rw [HBT.out, if_pos rfl, least_is HBK.out HBT.out hm (HJ.out HBT.out)]
                have qg : wr.cell? ⟨g, t, none⟩ = some (.int .i64 (cl d2 t)) := case_cell (kg'.case HD'.out.1) (by rw [HD'.out.1]; omega)
                have rg := kg'.frozen
                have lg := kg'.lt
                have kg2 := kg'.drew.caseSet HD'.out.1 t k
                have hne := hGB.out.2
                have k02 := k0'.drew.far (p := ⟨g, t, none⟩) (by simp only; omega) (.int .i64 k)
                have HB2 : Hid (Below w.heap.size w (wr.drew.setCell ⟨g, t, none⟩ (.int .i64 k))) := HB'.out.drew.setCell (p := ⟨g, t, none⟩) hGB.out.1 _
                clear hm
                refine wpAnyH_take (i := 12) (v := ?_) rfl (by kernel_rfl) (by kernel_rfl) (by kernel_rfl) (fun _ _ _ h => h) (Or.inl ⟨by rfl, fun w hSw => ?_⟩) hHeld ?_
                rotate_left
                · ((try dsimp only at hSw); go_split_ands; go_simp; (try with_reducible rfl))
                try simp only [Act.put, List.getElem_toArray, List.getElem_cons_zero, List.getElem_cons_succ, List.setIfInBounds_toArray, List.set_cons_zero, List.set_cons_succ]
                refine wpAnyH_take (i := 13) (v := ?_) rfl (by kernel_rfl) (by kernel_rfl) (by kernel_rfl) (fun _ _ _ h => h) (Or.inl ⟨by rfl, fun w hSw => ?_⟩) hHeld ?_
                rotate_left
                · ((try dsimp only at hSw); go_split_ands; go_simp; (try with_reducible rfl))
                try simp only [Act.put, List.getElem_toArray, List.getElem_cons_zero, List.getElem_cons_succ, List.setIfInBounds_toArray, List.set_cons_zero, List.set_cons_succ]
                refine wpAnyH_done (by kernel_rfl) ?_ _
                refine NoPanic.normal ?_
                go_wp2_with fail
                go_round
                case rel => exact ⟨t + 1, d2.set t k, by omega, by go_num, ⟨by simpa using HD'.out.1, fun j hj => by
                  rw [cl_set HD'.out.1 ht _ (by omega)]
                  split
                  · rename_i e; rw [show j = t from by omega, HE.out]
                  · exact HD'.out.2.1 j (by omega)⟩, k02, kg2, HB2.out⟩
                case measure => simp [intOf]; omega
              · have hmb : (M (k : Int) == M (t : Int)) = false := by simpa using hm
                have HN : Hid (S.testBit t = true → ∀ j, j < k + 1 → S.testBit j = true → M (j : Int) ≠ M (t : Int)) := fun h j hj hb => by
                  by_cases e : j = k
                  · subst e; exact hm
                  · exact HJ.out h j (by omega) hb
                clear hm
                refine wpAnyH_take (i := 12) (v := ?_) rfl (by kernel_rfl) (by kernel_rfl) (by kernel_rfl) (fun _ _ _ h => h) (Or.inl ⟨by rfl, fun w hSw => ?_⟩) hHeld ?_
                rotate_left
                · ((try dsimp only at hSw); go_split_ands; go_simp; (try with_reducible rfl))
                try simp only [Act.put, List.getElem_toArray, List.getElem_cons_zero, List.getElem_cons_succ, List.setIfInBounds_toArray, List.set_cons_zero, List.set_cons_succ]
                refine wpAnyH_take (i := 13) (v := ?_) rfl (by kernel_rfl) (by kernel_rfl) (by kernel_rfl) (fun _ _ _ h => h) (Or.inl ⟨by rfl, fun w hSw => ?_⟩) hHeld ?_
                rotate_left
                · ((try dsimp only at hSw); go_split_ands; go_simp; (try with_reducible rfl))
                try simp only [Act.put, List.getElem_toArray, List.getElem_cons_zero, List.getElem_cons_succ, List.setIfInBounds_toArray, List.set_cons_zero, List.set_cons_succ]
                refine wpAnyH_done (by kernel_rfl) ?_ _
                refine NoPanic.normal ?_
                go_wp2_with fail
                go_round
                case rel => exact ⟨k + 1, by omega, by go_num, k0'.drew, kg'.drew, HB'.out.drew, HN⟩
                case measure => simp [intOf]; omega
        · obtain rfl : k = t + 1 := by omega
          have hki : ¬ (((t + 1 : Nat) : Int) ≤ (t : Int)) := by omega
          have HE : Hid (caseAt M S t = -1) := by
            show _ = _
            unfold caseAt
            cases hb : S.testBit t
            · rfl
            · exact absurd rfl (HJ.out hb t (by omega) hb)
          go_wp2_with fail
          go_round
          case rel => exact ⟨t + 1, d2, by omega, by go_num, ⟨HD'.out.1, fun j hj => by
            by_cases e : j = t
            · subst e; rw [HE.out]; exact HD'.out.2.2
            · exact HD'.out.2.1 j (by omega)⟩, k0', kg', HB'.out⟩
          case measure => simp [intOf]; omega
    · obtain rfl : t = 9 := by omega
      go_wp2_with fail
      go_ret2
      exact ⟨_, by rw [HS.out, HAV.out]; rfl, by rw [HC.out, ← canon_ext HD.out.1 HD.out.2]; exact IntsO.ofCase kg HD.out.1 hGB.out.1, HB.out⟩
end Go.Proofs.Ytmjgcdolnkdfoaa
