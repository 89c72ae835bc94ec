/- 'laws.FnRunSequence' returns true for all bytes that can be read. -/
import Derived.Test.YtciabhddppdioaaMDrawZb
import Derived.Test.YtciabhddppdioaaRunT
import Derived.Deep.DeepCutAuto
set_option linter.unusedSimpArgs false
set_option linter.unusedVariables false
namespace Go.Proofs.Ytciabhddppdioaa
open Go Go.RowKit Go.Proofs
attribute [local go_sem ↓] Go.wp_at_zero Go.wp_at_succ
--@ laws.FnRunSequence
set_option maxRecDepth 100000 in
set_option maxHeartbeats 6400000 in
theorem c_FnRunSequence (v : Value) (A : Option Addr × Nat × Nat) (v' : Value) (A' : Option Addr × Nat × Nat) (w : World) (h : v = .slice A.1 A.2.1 A.2.2 ∧ BytesR w A.1 A.2.1 A.2.2) (h' : v' = .slice A'.1 A'.2.1 A'.2.2 ∧ BytesR w A'.1 A'.2.1 A'.2.2) : Calls Try.prog 10 #[v, v'] w fun e w' => e = .returned (.bool true) ∧ Below w.heap.size w w' := by
  obtain ⟨A, n, c⟩ := A
  obtain ⟨A', n', c'⟩ := A'
  obtain ⟨rfl, hR⟩ := h
  obtain ⟨rfl, hR'⟩ := h'
  simp only at hR hR' ⊢
  have HR := Lib.hid hR
  clear hR hR'
  by_cases hn : 1048576 < n
  · have hni : (1048576 : Int) < (n : Int) := by omega
    clear hn
    go_enter Try.func10, Try.ntmps10
    go_wp2_with fail
    go_ret
    exact ⟨rfl, bel⟩
  have hni : ¬ (1048576 : Int) < (n : Int) := by omega
  clear hn
  by_cases hn : 1048576 < n'
  · have hni' : (1048576 : Int) < (n' : Int) := by omega
    clear hn
    go_enter Try.func10, Try.ntmps10
    go_wp2_with fail
    go_ret
    exact ⟨rfl, bel⟩
  have hni' : ¬ (1048576 : Int) < (n' : Int) := by omega
  clear hn
  go_enter Try.func10, Try.ntmps10
  go_wp2_with fail
  refine (c_DrawRun A n c _ HR.out).mono ?_
  rintro e w1 ⟨r, s, B, d, L, f, rfl, o, -, -, hV, hLS, ⟨hcap, hL1⟩, hf, hB1⟩
  obtain ⟨V1, e1, H1, g1, rfl, HS1⟩ := o.open_
  have hbx : Below w1.heap.size w1 (w1.alloc (.cells #[.slice V1 s.values.length e1, .slice H1 s.heap.length g1] tSt)) := bbox (Below.refl _ _) _
  have hS := Lib.hid (SB.new HS1.out)
  have hP := Lib.hid ((PB.mk (w := w) hB1 ⟨hV, by omega⟩).next hbx)
  have hz := hB1.size
  obtain ⟨b, off, rfl, -⟩ := hP.out.open_ hL1
  clear o hB1 hV HR HS1 hbx
  obtain ⟨hf1, hf2⟩ := hf
  obtain ⟨K, hK⟩ : ∃ K, K = codeF s L f := ⟨_, rfl⟩
  obtain ⟨X, hX⟩ : ∃ X, X = afterF s L f := ⟨_, rfl⟩
  have c2 := Lib.hid (fun W n hS hP => r_impl (w := w) (W := W) (x := w1.heap.size) (c := e1) (d := g1) (n := n) (V := V1) (H := H1) (B := some ⟨b, off, none⟩) (s := s) (L := L) f hS hP)
  have c3 := Lib.hid (fun W n hS hP => r_spec (w := w) (W := W) (x := w1.heap.size) (c := e1) (d := g1) (n := n) (V := V1) (H := H1) (B := some ⟨b, off, none⟩) (s := s) (L := L) f hS hP)
  rw [← hK, ← hX] at c2 c3
  obtain ⟨M, hM⟩ : ∃ M, M = L.len := ⟨_, rfl⟩
  have hM1 : 1 ≤ M ∧ M ≤ d ∧ M ≤ 1000 := by omega
  obtain ⟨m, hm⟩ := Int.eq_ofNat_of_zero_le (Int.emod_nonneg (n' : Int) (show (M : Int) + 1 ≠ 0 by omega))
  have hmM : m ≤ M := by
    have := Int.emod_lt_of_pos (n' : Int) (show 0 < (M : Int) + 1 by omega)
    omega
  have hM0 : ¬ (M : Int) + 1 = 0 := by omega
  have hS1 := Lib.hid (fun (h : K ≠ 4) (h0 : codeF s (L.take m) f ≠ 0) => (show codeF s L f = codeF s (L.take m) f from by
    have h4 := runs_of_code (s := s) (L := L) (f := f) (by rw [← hK]; exact h)
    have := seq_law1 (A := L.take m) (B := L.drop m) (f := f) (s := s) (by rw [Cms.take_drop]; exact h4) h0
    rwa [Cms.take_drop] at this))
  have hS2 := Lib.hid (fun (h : K ≠ 4) (h0 : codeF s (L.take m) f = 0) => (show codeF (afterF s (L.take m) f) (L.drop m) (f - stepsF s (L.take m) f) = codeF s L f ∧ afterF (afterF s (L.take m) f) (L.drop m) (f - stepsF s (L.take m) f) = afterF s L f from by
    have h4 := runs_of_code (s := s) (L := L) (f := f) (by rw [← hK]; exact h)
    have := seq_law2 (A := L.take m) (B := L.drop m) (f := f) (s := s) (by rw [Cms.take_drop]; exact h4) h0
    rwa [Cms.take_drop] at this))
  have htl : (L.take m).len = m := Cms.take_len m L (by omega)
  have hdl : (L.drop m).len = M - m := by rw [Cms.drop_len, hM]
  rw [← hM] at c2 c3 ⊢
  rw [← hK] at hS1 hS2
  rw [← hX] at hS2
  replace hM := Lib.hid hM
  clear hK hX hLS
  have q1 := hS.out.blk.cell
  have r1 := hS.out.blk.frozen
  have l1 := hS.out.blk.lt
  go_wp2_with fail
  refine (c2.out _ _ hS.out hP.out).mono ?_
  rintro e w3 ⟨V3, e3, H3, g3, rfl, hV3, hB3⟩
  have hbx := bbox hB3 (.cells #[.slice V3 X.values.length e3, .slice H3 X.heap.length g3] tSt)
  replace hS := Lib.hid (hS.out.next hbx)
  replace hP := Lib.hid (hP.out.next hbx)
  have hX := Lib.hid (SB.new hV3.out)
  have z3 := hB3.size
  clear hB3 q1 r1 l1 hbx hV3
  have q1 := hS.out.blk.cell
  have r1 := hS.out.blk.frozen
  have l1 := hS.out.blk.lt
  go_wp2_with fail
  refine (c3.out _ _ hS.out hP.out).mono ?_
  rintro e w4 ⟨V4, e4, H4, g4, rfl, hV4, hB4⟩
  have hbx := bbox hB4 (.cells #[.slice V4 X.values.length e4, .slice H4 X.heap.length g4] tSt)
  replace hS := Lib.hid (hS.out.next hbx)
  replace hP := Lib.hid (hP.out.next hbx)
  replace hX := Lib.hid (hX.out.next hbx)
  have hW := Lib.hid (SB.new hV4.out)
  clear hB4 q1 r1 l1 hbx hV4 c2 c3
  have q2 := hX.out.blk.cell
  have r2 := hX.out.blk.frozen
  have l2 := hX.out.blk.lt
  have q3 := hW.out.blk.cell
  have r3 := hW.out.blk.frozen
  have l3 := hW.out.blk.lt
  go_wp2_with fail
  refine (same_T rfl hX.out hW.out).mono ?_
  rintro e w5 ⟨rfl, hB5⟩
  replace hS := Lib.hid (hS.out.next hB5)
  replace hP := Lib.hid (hP.out.next hB5)
  replace hX := Lib.hid (hX.out.next hB5)
  replace hW := Lib.hid (hW.out.next hB5)
  clear hB5 q2 r2 l2 q3 r3 l3
  by_cases k4 : K = 4
  · subst k4
    have q2 := hX.out.blk.cell
    have r2 := hX.out.blk.frozen
    have l2 := hX.out.blk.lt
    have q3 := hW.out.blk.cell
    have r3 := hW.out.blk.frozen
    have l3 := hW.out.blk.lt
    clear hS1 hS2
    go_wp2_with fail
    refine (same_T rfl hX.out hW.out).mono ?_
    rintro e w6 ⟨rfl, hB6⟩
    go_wp2_with fail
    go_ret
    exact ⟨rfl, bgo hP.out.bel hB6⟩
  have b4 : (K == 4) = false := by simpa using k4
  replace hS1 := Lib.hid (hS1.out k4)
  replace hS2 := Lib.hid (hS2.out k4)
  obtain ⟨K1, hK1⟩ : ∃ K1, K1 = codeF s (L.take m) f := ⟨_, rfl⟩
  obtain ⟨X1, hX1⟩ : ∃ X1, X1 = afterF s (L.take m) f := ⟨_, rfl⟩
  obtain ⟨N1, hN1⟩ : ∃ N1, N1 = stepsF s (L.take m) f := ⟨_, rfl⟩
  have dA := Lib.hid (fun W n hS hP => r_impl (w := w) (W := W) (x := w1.heap.size) (c := e1) (d := g1) (n := n) (V := V1) (H := H1) (B := some ⟨b, off, none⟩) (s := s) (L := L.take m) f hS hP)
  have dN := Lib.hid (fun W n hS hP => s_impl (w := w) (W := W) (x := w1.heap.size) (c := e1) (d := g1) (n := n) (V := V1) (H := H1) (B := some ⟨b, off, none⟩) (s := s) (L := L.take m) f hS hP)
  rw [← hK1, ← hX1, htl] at dA
  rw [← hN1, htl] at dN
  rw [← hK1] at hS1
  rw [← hK1, ← hX1, ← hN1] at hS2
  have hNb : Hid (K1 = 0 → 0 ≤ N1 ∧ N1 ≤ f) := Lib.hid (by rw [hK1, hN1]; exact fun h0 => steps_le (runs_of_code (by rw [h0]; decide)))
  clear hK1 hX1 hN1 htl k4 hW
  have hmi : (m : Int) ≤ (d : Int) := by omega
  have hmi2 : (m : Int) ≤ (M : Int) := by omega
  have hm0 : (0 : Int) ≤ (m : Int) := by omega
  have q1 := hS.out.blk.cell
  have r1 := hS.out.blk.frozen
  have l1 := hS.out.blk.lt
  go_upto_region 9 with fail
  rw [hm]
  clear hm hM0
  have lw5 : w1.heap.size < w5.heap.size := l1
  have hsl := sliceCh b off M d m (by omega)
  go_cut [13, 14] (fun s13 s14 wc => ∃ (x : Nat) (V5 : Option Addr) (e5 : Nat) (H5 : Option Addr) (g5 : Nat), s13 = .pointer (some ⟨x, 0, none⟩) ∧ s14 = .int .i64 K1 ∧ Hid (SB wc x V5 e5 H5 g5 X1) ∧ Hid (Below w5.heap.size w5 wc))
  case first =>
    have k5 := hS.out.blk
    go_wp2_with fail
    refine wp_region_noPanic ?_
    refine wp_region_held_drew (S := (fun w' => ∀ i, w'.cell? ⟨w1.heap.size, i, none⟩ = #[.slice V1 s.values.length e1, .slice H1 s.heap.length g1][i]?)) (by kernel_rfl) (Blk.cell blks) (fun hHeld => ?_)
    refine wpAnyH_take (i := 0) (v := ?_) rfl (by kernel_rfl) (by kernel_rfl) (by kernel_rfl) (fun _ _ _ h => h) (Or.inl ⟨by rfl, fun w hSw => ?_⟩) hHeld ?_
    rotate_left
    · ((try dsimp only at hSw); go_split_ands; go_simp; (try with_reducible rfl))
    try simp only [Act.put, List.getElem_toArray, List.getElem_cons_zero, List.getElem_cons_succ, List.setIfInBounds_toArray, List.set_cons_zero, List.set_cons_succ]
    refine wpAnyH_take (i := 1) (v := ?_) rfl (by kernel_rfl) (by kernel_rfl) (by kernel_rfl) (fun _ _ _ h => h) (Or.inl ⟨by rfl, fun w hSw => ?_⟩) hHeld ?_
    rotate_left
    · ((try dsimp only at hSw); go_split_ands; go_simp; (try with_reducible rfl))
    try simp only [Act.put, List.getElem_toArray, List.getElem_cons_zero, List.getElem_cons_succ, List.setIfInBounds_toArray, List.set_cons_zero, List.set_cons_succ]
    refine wpAnyH_take (i := 2) (v := ?_) rfl (by kernel_rfl) (by kernel_rfl) (by kernel_rfl) (fun _ _ _ h => h) (Or.inl ⟨by rfl, fun w hSw => ?_⟩) hHeld ?_
    rotate_left
    · ((try dsimp only at hSw); go_split_ands; go_simp; (try with_reducible rfl))
    try simp only [Act.put, List.getElem_toArray, List.getElem_cons_zero, List.getElem_cons_succ, List.setIfInBounds_toArray, List.set_cons_zero, List.set_cons_succ]
    refine wpAnyH_take (i := 3) (v := ?_) rfl (by kernel_rfl) (by kernel_rfl) (by kernel_rfl) (fun _ _ _ h => h) (Or.inl ⟨by rfl, fun w hSw => ?_⟩) hHeld ?_
    rotate_left
    · ((try dsimp only at hSw); go_split_ands; go_simp; (try with_reducible rfl))
    try simp only [Act.put, List.getElem_toArray, List.getElem_cons_zero, List.getElem_cons_succ, List.setIfInBounds_toArray, List.set_cons_zero, List.set_cons_succ]
    refine wpAnyH_take (i := 4) (v := ?_) rfl (by kernel_rfl) (by kernel_rfl) (by kernel_rfl) (fun _ _ _ h => h) (Or.inl ⟨by rfl, fun w hSw => ?_⟩) hHeld ?_
    rotate_left
    · ((try dsimp only at hSw); go_split_ands; go_simp; (try with_reducible rfl))
    try simp only [Act.put, List.getElem_toArray, List.getElem_cons_zero, List.getElem_cons_succ, List.setIfInBounds_toArray, List.set_cons_zero, List.set_cons_succ]
    refine wpAnyH_ready (rs := [5, 9]) (by kernel_rfl) (by simp) ?_
    refine AllReadyH.cons rfl (fun K hK => ?_) (AllReadyH.cons rfl (fun K hK => ?_) (AllReadyH.nil))
    · skip
      try simp only [List.getElem_toArray, List.getElem_cons_zero, List.getElem_cons_succ]
      go_simp
      refine (dA.out _ _ (hS.out.next bel) (PB.take m (hP.out.next bel))).mono ?_; rintro e w6 ⟨V6, e6, H6, g6, rfl, hV6, hB6⟩; have hb6 := bgo (w := w5) bel hB6; have k6 := (hS.out.next hb6).blk; have hV6' := Lib.hid hV6.out
      refine hK.out _ _ k6.cell (fun hHeldN => ?_)
      clear hHeld hK K
      have hHeld := hHeldN
      clear hHeldN
      have l6 := k6.lt
      refine wpAnyH_take (i := 6) (v := ?_) rfl (by kernel_rfl) (by kernel_rfl) (by kernel_rfl) (fun _ _ _ h => h) (Or.inl ⟨by rfl, fun w hSw => ?_⟩) hHeld ?_
      rotate_left
      · ((try dsimp only at hSw); go_split_ands; go_simp; (try with_reducible rfl))
      try simp only [Act.put, List.getElem_toArray, List.getElem_cons_zero, List.getElem_cons_succ, List.setIfInBounds_toArray, List.set_cons_zero, List.set_cons_succ]
      refine wpAnyH_take (i := 7) (v := ?_) rfl (by kernel_rfl) (by kernel_rfl) (by kernel_rfl) (fun _ _ _ h => h) (Or.inl ⟨by rfl, fun w hSw => ?_⟩) hHeld ?_
      rotate_left
      · ((try dsimp only at hSw); go_split_ands; go_simp; (try with_reducible rfl))
      try simp only [Act.put, List.getElem_toArray, List.getElem_cons_zero, List.getElem_cons_succ, List.setIfInBounds_toArray, List.set_cons_zero, List.set_cons_succ]
      refine wpAnyH_take (i := 8) (v := ?_) rfl (by kernel_rfl) (by kernel_rfl) (by kernel_rfl) (fun _ _ _ h => h) (Or.inl ⟨by rfl, fun w hSw => ?_⟩) hHeld ?_
      rotate_left
      · ((try dsimp only at hSw); go_split_ands; go_simp; (try with_reducible rfl))
      try simp only [Act.put, List.getElem_toArray, List.getElem_cons_zero, List.getElem_cons_succ, List.setIfInBounds_toArray, List.set_cons_zero, List.set_cons_succ]
      refine wpAnyH_ready (rs := [9]) (by kernel_rfl) (by simp) ?_
      refine AllReadyH.cons rfl (fun K hK => ?_) AllReadyH.nil
      try simp only [List.getElem_toArray, List.getElem_cons_zero, List.getElem_cons_succ]
      go_simp
      refine hK.out _ _ (Blk.cell blks) (fun hHeldN => ?_)
      clear hHeld hK K
      have hHeld := hHeldN
      clear hHeldN
      try simp only [Act.put, List.getElem_toArray, List.getElem_cons_zero, List.getElem_cons_succ, List.setIfInBounds_toArray, List.set_cons_zero, List.set_cons_succ]
      refine wpAnyH_ready (rs := [10]) (by kernel_rfl) (by simp) ?_
      refine AllReadyH.cons rfl (fun K hK => ?_) AllReadyH.nil
      try simp only [List.getElem_toArray, List.getElem_cons_zero, List.getElem_cons_succ]
      go_simp
      refine hK.out _ _ (Blk.cell blks) (fun hHeldN => ?_)
      clear hHeld hK K
      have hHeld := hHeldN
      clear hHeldN
      try simp only [Act.put, List.getElem_toArray, List.getElem_cons_zero, List.getElem_cons_succ, List.setIfInBounds_toArray, List.set_cons_zero, List.set_cons_succ]
      refine wpAnyH_ready (rs := [11]) (by kernel_rfl) (by simp) ?_
      refine AllReadyH.cons rfl (fun K hK => ?_) AllReadyH.nil
      try simp only [List.getElem_toArray, List.getElem_cons_zero, List.getElem_cons_succ]
      go_simp
      refine hK.out _ _ (Blk.cell blks) (fun hHeldN => ?_)
      clear hHeld hK K
      have hHeld := hHeldN
      clear hHeldN
      try simp only [Act.put, List.getElem_toArray, List.getElem_cons_zero, List.getElem_cons_succ, List.setIfInBounds_toArray, List.set_cons_zero, List.set_cons_succ]
      refine wpAnyH_done (by kernel_rfl) ?_ _
      refine NoPanic.normal ?_
      go_wp2_with fail
      go_meet
      case rel => exact ⟨w6.heap.size, V6, e6, H6, g6, rfl, rfl, Lib.hid (SB.new hV6'.out), Lib.hid (bbox hb6 _)⟩
    · skip
      try simp only [List.getElem_toArray, List.getElem_cons_zero, List.getElem_cons_succ]
      go_simp
      refine hK.out _ _ (Blk.cell blks) (fun hHeldN => ?_)
      clear hHeld hK K
      have hHeld := hHeldN
      clear hHeldN
      refine wpAnyH_ready (rs := [5]) (by kernel_rfl) (by simp) ?_
      refine AllReadyH.cons rfl (fun K hK => ?_) AllReadyH.nil
      try simp only [List.getElem_toArray, List.getElem_cons_zero, List.getElem_cons_succ]
      (go_simp; refine (dA.out _ _ (hS.out.next bel) (PB.take m (hP.out.next bel))).mono ?_; rintro e w6 ⟨V6, e6, H6, g6, rfl, hV6, hB6⟩; have hb6 := bgo (w := w5) bel hB6; have k6 := (hS.out.next hb6).blk; have kb6 := Blk.next (g := w5.heap.size) (t := tSt) (cs := #[.slice none 0 0, .slice none 0 0]) (Blk.drew (Blk.newE rfl)) hB6; have hV6' := Lib.hid hV6.out)
      refine hK.out _ _ (k6.cell) (fun hHeldN => ?_)
      clear hHeld hK K
      have hHeld := hHeldN
      clear hHeldN
      try simp only [Act.put, List.getElem_toArray, List.getElem_cons_zero, List.getElem_cons_succ, List.setIfInBounds_toArray, List.set_cons_zero, List.set_cons_succ]
      have l6 := k6.lt
      have qb := kb6.cell
      have rb := kb6.frozen
      have lb := kb6.lt
      refine wpAnyH_take (i := 6) (v := ?_) rfl (by kernel_rfl) (by kernel_rfl) (by kernel_rfl) (fun _ _ _ h => h) (Or.inl ⟨by rfl, fun w hSw => ?_⟩) hHeld ?_
      rotate_left
      · ((try dsimp only at hSw); go_split_ands; go_simp; (try with_reducible rfl))
      try simp only [Act.put, List.getElem_toArray, List.getElem_cons_zero, List.getElem_cons_succ, List.setIfInBounds_toArray, List.set_cons_zero, List.set_cons_succ]
      refine wpAnyH_take (i := 7) (v := ?_) rfl (by kernel_rfl) (by kernel_rfl) (by kernel_rfl) (fun _ _ _ h => h) (Or.inl ⟨by rfl, fun w hSw => ?_⟩) hHeld ?_
      rotate_left
      · ((try dsimp only at hSw); go_split_ands; go_simp; (try with_reducible rfl))
      try simp only [Act.put, List.getElem_toArray, List.getElem_cons_zero, List.getElem_cons_succ, List.setIfInBounds_toArray, List.set_cons_zero, List.set_cons_succ]
      refine wpAnyH_take (i := 8) (v := ?_) rfl (by kernel_rfl) (by kernel_rfl) (by kernel_rfl) (fun _ _ _ h => h) (Or.inl ⟨by rfl, fun w hSw => ?_⟩) hHeld ?_
      rotate_left
      · ((try dsimp only at hSw); go_split_ands; go_simp; (try with_reducible rfl))
      try simp only [Act.put, List.getElem_toArray, List.getElem_cons_zero, List.getElem_cons_succ, List.setIfInBounds_toArray, List.set_cons_zero, List.set_cons_succ]
      refine wpAnyH_ready (rs := [10]) (by kernel_rfl) (by simp) ?_
      refine AllReadyH.cons rfl (fun K hK => ?_) AllReadyH.nil
      try simp only [List.getElem_toArray, List.getElem_cons_zero, List.getElem_cons_succ]
      go_simp
      refine hK.out _ _ (Blk.cell blks) (fun hHeldN => ?_)
      clear hHeld hK K
      have hHeld := hHeldN
      clear hHeldN
      try simp only [Act.put, List.getElem_toArray, List.getElem_cons_zero, List.getElem_cons_succ, List.setIfInBounds_toArray, List.set_cons_zero, List.set_cons_succ]
      refine wpAnyH_ready (rs := [11]) (by kernel_rfl) (by simp) ?_
      refine AllReadyH.cons rfl (fun K hK => ?_) AllReadyH.nil
      try simp only [List.getElem_toArray, List.getElem_cons_zero, List.getElem_cons_succ]
      go_simp
      refine hK.out _ _ (Blk.cell blks) (fun hHeldN => ?_)
      clear hHeld hK K
      have hHeld := hHeldN
      clear hHeldN
      try simp only [Act.put, List.getElem_toArray, List.getElem_cons_zero, List.getElem_cons_succ, List.setIfInBounds_toArray, List.set_cons_zero, List.set_cons_succ]
      refine wpAnyH_done (by kernel_rfl) ?_ _
      refine NoPanic.normal ?_
      go_wp2_with fail
      go_meet
      case rel => exact ⟨w5.heap.size, V6, e6, H6, g6, rfl, rfl, Lib.hid (SB.ofBox hV6'.out kb6 (by simp)), Lib.hid ((hb6.setCell (Nat.le_refl _) _).setCell (Nat.le_refl _) _)⟩
  case rest =>
    obtain ⟨x5, V5, e5, H5, g5, rfl, rfl, hY, hb5⟩ := hcut
    obtain ⟨w6, rfl⟩ : ∃ z, z = wc := ⟨_, rfl⟩
    replace hS := Lib.hid (hS.out.next hb5.out)
    replace hP := Lib.hid (hP.out.next hb5.out)
    replace hX := Lib.hid (hX.out.next hb5.out)
    clear q1 r1 l1 dA hb5 hsl
    by_cases k0 : K1 = 0
    · have k0b : (K1 == 0) = true := by simpa using k0
      have hE := Lib.hid (hS2.out k0)
      have hNb' := hNb.out k0
      clear hS1 hS2 k0 hNb
      have hw : IntKind.i64.wrap (f - N1) = f - N1 := IntWalk.i64_in _ (by omega)
      obtain ⟨A9, hsl2, hA9⟩ := sliceCl b off M d m hmM hM1.2.1
      have hsl := sliceCh b off M d m (by omega)
      have PBd := Lib.hid (fun W (h : PB w W (some ⟨b, off, none⟩) L) => (show PB w W A9 (L.drop m) from by
        by_cases hmM2 : m < M
        · rw [hA9 (by omega)]; exact h.drop m (by rw [← hM.out]; exact hmM2)
        · rw [Cms.drop_nil (by rw [← hM.out]; omega)]; exact h.nil A9))
      have dC := Lib.hid (fun W n hS hP => r_impl (w := w) (W := W) (x := x5) (c := e5) (d := g5) (n := n) (V := V5) (H := H5) (B := A9) (s := X1) (L := L.drop m) (f - N1) hS hP)
      rw [hE.out.1, hE.out.2, hdl] at dC
      clear hE hA9
      have q1 := hS.out.blk.cell
      have r1 := hS.out.blk.frozen
      have l1 := hS.out.blk.lt
      have q5 := hY.out.blk.cell
      have r5 := hY.out.blk.frozen
      have l5 := hY.out.blk.lt
      go_upto_region 12 with fail
      go_cut [15, 16] (fun s15 s16 wc => ∃ (x : Nat) (V8 : Option Addr) (e8 : Nat) (H8 : Option Addr) (g8 : Nat), s15 = .pointer (some ⟨x, 0, none⟩) ∧ s16 = .int .i64 K ∧ Hid (SB wc x V8 e8 H8 g8 X) ∧ Hid (Below w6.heap.size w6 wc))
      case first =>
        have k6 := hS.out.blk
        have y6 := hY.out.blk
        go_wp2_with fail
        refine wp_region_noPanic ?_
        refine wp_region_held_drew (S := (fun w' => (∀ i, w'.cell? ⟨w1.heap.size, i, none⟩ = #[.slice V1 s.values.length e1, .slice H1 s.heap.length g1][i]?) ∧ (∀ i, w'.cell? ⟨x5, i, none⟩ = #[.slice V5 X1.values.length e5, .slice H5 X1.heap.length g5][i]?))) (by kernel_rfl) (⟨Blk.cell blks, Blk.cell blks⟩) (fun hHeld => ?_)
        refine wpAnyH_take (i := 0) (v := ?_) rfl (by kernel_rfl) (by kernel_rfl) (by kernel_rfl) (fun _ _ _ h => h) (Or.inl ⟨by rfl, fun w hSw => ?_⟩) hHeld ?_
        rotate_left
        · ((try dsimp only at hSw); go_split_ands; go_simp; (try with_reducible rfl))
        try simp only [Act.put, List.getElem_toArray, List.getElem_cons_zero, List.getElem_cons_succ, List.setIfInBounds_toArray, List.set_cons_zero, List.set_cons_succ]
        refine wpAnyH_take (i := 1) (v := ?_) rfl (by kernel_rfl) (by kernel_rfl) (by kernel_rfl) (fun _ _ _ h => h) (Or.inl ⟨by rfl, fun w hSw => ?_⟩) hHeld ?_
        rotate_left
        · ((try dsimp only at hSw); go_split_ands; go_simp; (try with_reducible rfl))
        try simp only [Act.put, List.getElem_toArray, List.getElem_cons_zero, List.getElem_cons_succ, List.setIfInBounds_toArray, List.set_cons_zero, List.set_cons_succ]
        refine wpAnyH_take (i := 2) (v := ?_) rfl (by kernel_rfl) (by kernel_rfl) (by kernel_rfl) (fun _ _ _ h => h) (Or.inl ⟨by rfl, fun w hSw => ?_⟩) hHeld ?_
        rotate_left
        · ((try dsimp only at hSw); go_split_ands; go_simp; (try with_reducible rfl))
        try simp only [Act.put, List.getElem_toArray, List.getElem_cons_zero, List.getElem_cons_succ, List.setIfInBounds_toArray, List.set_cons_zero, List.set_cons_succ]
        refine wpAnyH_take (i := 3) (v := ?_) rfl (by kernel_rfl) (by kernel_rfl) (by kernel_rfl) (fun _ _ _ h => h) (Or.inl ⟨by rfl, fun w hSw => ?_⟩) hHeld ?_
        rotate_left
        · ((try dsimp only at hSw); go_split_ands; go_simp; (try with_reducible rfl))
        try simp only [Act.put, List.getElem_toArray, List.getElem_cons_zero, List.getElem_cons_succ, List.setIfInBounds_toArray, List.set_cons_zero, List.set_cons_succ]
        refine wpAnyH_take (i := 4) (v := ?_) rfl (by kernel_rfl) (by kernel_rfl) (by kernel_rfl) (fun _ _ _ h => h) (Or.inl ⟨by rfl, fun w hSw => ?_⟩) hHeld ?_
        rotate_left
        · ((try dsimp only at hSw); go_split_ands; go_simp; (try with_reducible rfl))
        try simp only [Act.put, List.getElem_toArray, List.getElem_cons_zero, List.getElem_cons_succ, List.setIfInBounds_toArray, List.set_cons_zero, List.set_cons_succ]
        refine wpAnyH_take (i := 5) (v := ?_) rfl (by kernel_rfl) (by kernel_rfl) (by kernel_rfl) (fun _ _ _ h => h) (Or.inl ⟨by rfl, fun w hSw => ?_⟩) hHeld ?_
        rotate_left
        · ((try dsimp only at hSw); go_split_ands; go_simp; (try with_reducible rfl))
        try simp only [Act.put, List.getElem_toArray, List.getElem_cons_zero, List.getElem_cons_succ, List.setIfInBounds_toArray, List.set_cons_zero, List.set_cons_succ]
        refine wpAnyH_take (i := 6) (v := ?_) rfl (by kernel_rfl) (by kernel_rfl) (by kernel_rfl) (fun _ _ _ h => h) (Or.inl ⟨by rfl, fun w hSw => ?_⟩) hHeld ?_
        rotate_left
        · ((try dsimp only at hSw); go_split_ands; go_simp; (try with_reducible rfl))
        try simp only [Act.put, List.getElem_toArray, List.getElem_cons_zero, List.getElem_cons_succ, List.setIfInBounds_toArray, List.set_cons_zero, List.set_cons_succ]
        refine wpAnyH_take (i := 7) (v := ?_) rfl (by kernel_rfl) (by kernel_rfl) (by kernel_rfl) (fun _ _ _ h => h) (Or.inl ⟨by rfl, fun w hSw => ?_⟩) hHeld ?_
        rotate_left
        · ((try dsimp only at hSw); go_split_ands; go_simp; (try with_reducible rfl))
        try simp only [Act.put, List.getElem_toArray, List.getElem_cons_zero, List.getElem_cons_succ, List.setIfInBounds_toArray, List.set_cons_zero, List.set_cons_succ]
        refine wpAnyH_take (i := 8) (v := ?_) rfl (by kernel_rfl) (by kernel_rfl) (by kernel_rfl) (fun _ _ _ h => h) (Or.inl ⟨by rfl, fun w hSw => ?_⟩) hHeld ?_
        rotate_left
        · ((try dsimp only at hSw); go_split_ands; go_simp; (try with_reducible rfl))
        try simp only [Act.put, List.getElem_toArray, List.getElem_cons_zero, List.getElem_cons_succ, List.setIfInBounds_toArray, List.set_cons_zero, List.set_cons_succ]
        refine wpAnyH_take (i := 9) (v := ?_) rfl (by kernel_rfl) (by kernel_rfl) (by kernel_rfl) (fun _ _ _ h => h) (Or.inl ⟨by rfl, fun w hSw => ?_⟩) hHeld ?_
        rotate_left
        · ((try dsimp only at hSw); go_split_ands; go_simp; (try with_reducible rfl))
        try simp only [Act.put, List.getElem_toArray, List.getElem_cons_zero, List.getElem_cons_succ, List.setIfInBounds_toArray, List.set_cons_zero, List.set_cons_succ]
        refine wpAnyH_ready (rs := [10, 16]) (by kernel_rfl) (by simp) ?_
        refine AllReadyH.cons rfl (fun K hK => ?_) (AllReadyH.cons rfl (fun K hK => ?_) (AllReadyH.nil))
        · skip
          try simp only [List.getElem_toArray, List.getElem_cons_zero, List.getElem_cons_succ]
          go_simp
          refine (dN.out _ _ (hS.out.next bel) (PB.take m (hP.out.next bel))).mono ?_; rintro e w7 ⟨rfl, hB7⟩; have hb7 := bgo (w := w6) bel hB7; have k7 := (hS.out.next hb7).blk; have y7 := (hY.out.next hb7).blk; have l7 := k7.lt; have ly7 := y7.lt; have z7 := hb7.size
          refine hK.out _ _ ⟨k7.cell, y7.cell⟩ (fun hHeldN => ?_)
          clear hHeld hK K
          have hHeld := hHeldN
          clear hHeldN
          refine wpAnyH_take (i := 11) (v := ?_) rfl (by kernel_rfl) (by kernel_rfl) (by kernel_rfl) (fun _ _ _ h => h) (Or.inl ⟨by rfl, fun w hSw => ?_⟩) hHeld ?_
          rotate_left
          · ((try dsimp only at hSw); go_split_ands; go_simp; (try with_reducible rfl))
          try simp only [Act.put, List.getElem_toArray, List.getElem_cons_zero, List.getElem_cons_succ, List.setIfInBounds_toArray, List.set_cons_zero, List.set_cons_succ]
          refine wpAnyH_ready (rs := [12, 16]) (by kernel_rfl) (by simp) ?_
          refine AllReadyH.cons rfl (fun K hK => ?_) (AllReadyH.cons rfl (fun K hK => ?_) (AllReadyH.nil))
          · skip
            try simp only [List.getElem_toArray, List.getElem_cons_zero, List.getElem_cons_succ]
            go_simp
            refine (dC.out _ _ (hY.out.next (bgo hb7 bel)) (PBd.out _ (hP.out.next (bgo hb7 bel)))).mono ?_; rintro e w8 ⟨V8, e8, H8, g8, rfl, hV8, hB8⟩; have hb8 := bgo (w := w6) (bgo hb7 bel) hB8; have k8 := (hS.out.next hb8).blk; have y8 := (hY.out.next hb8).blk; have l8 := k8.lt; have ly8 := y8.lt; have z8 := hb8.size; have hV8' := Lib.hid hV8.out
            refine hK.out _ _ ⟨k8.cell, y8.cell⟩ (fun hHeldN => ?_)
            clear hHeld hK K
            have hHeld := hHeldN
            clear hHeldN
            refine wpAnyH_take (i := 13) (v := ?_) rfl (by kernel_rfl) (by kernel_rfl) (by kernel_rfl) (fun _ _ _ h => h) (Or.inl ⟨by rfl, fun w hSw => ?_⟩) hHeld ?_
            rotate_left
            · ((try dsimp only at hSw); go_split_ands; go_simp; (try with_reducible rfl))
            try simp only [Act.put, List.getElem_toArray, List.getElem_cons_zero, List.getElem_cons_succ, List.setIfInBounds_toArray, List.set_cons_zero, List.set_cons_succ]
            refine wpAnyH_take (i := 14) (v := ?_) rfl (by kernel_rfl) (by kernel_rfl) (by kernel_rfl) (fun _ _ _ h => h) (Or.inl ⟨by rfl, fun w hSw => ?_⟩) hHeld ?_
            rotate_left
            · ((try dsimp only at hSw); go_split_ands; go_simp; (try with_reducible rfl))
            try simp only [Act.put, List.getElem_toArray, List.getElem_cons_zero, List.getElem_cons_succ, List.setIfInBounds_toArray, List.set_cons_zero, List.set_cons_succ]
            refine wpAnyH_take (i := 15) (v := ?_) rfl (by kernel_rfl) (by kernel_rfl) (by kernel_rfl) (fun _ _ _ h => h) (Or.inl ⟨by rfl, fun w hSw => ?_⟩) hHeld ?_
            rotate_left
            · ((try dsimp only at hSw); go_split_ands; go_simp; (try with_reducible rfl))
            try simp only [Act.put, List.getElem_toArray, List.getElem_cons_zero, List.getElem_cons_succ, List.setIfInBounds_toArray, List.set_cons_zero, List.set_cons_succ]
            refine wpAnyH_ready (rs := [16]) (by kernel_rfl) (by simp) ?_
            refine AllReadyH.cons rfl (fun K hK => ?_) AllReadyH.nil
            try simp only [List.getElem_toArray, List.getElem_cons_zero, List.getElem_cons_succ]
            go_simp
            refine hK.out _ _ (⟨Blk.cell blks, Blk.cell blks⟩) (fun hHeldN => ?_)
            clear hHeld hK K
            have hHeld := hHeldN
            clear hHeldN
            try simp only [Act.put, List.getElem_toArray, List.getElem_cons_zero, List.getElem_cons_succ, List.setIfInBounds_toArray, List.set_cons_zero, List.set_cons_succ]
            refine wpAnyH_ready (rs := [17]) (by kernel_rfl) (by simp) ?_
            refine AllReadyH.cons rfl (fun K hK => ?_) AllReadyH.nil
            try simp only [List.getElem_toArray, List.getElem_cons_zero, List.getElem_cons_succ]
            go_simp
            refine hK.out _ _ (⟨Blk.cell blks, Blk.cell blks⟩) (fun hHeldN => ?_)
            clear hHeld hK K
            have hHeld := hHeldN
            clear hHeldN
            try simp only [Act.put, List.getElem_toArray, List.getElem_cons_zero, List.getElem_cons_succ, List.setIfInBounds_toArray, List.set_cons_zero, List.set_cons_succ]
            refine wpAnyH_ready (rs := [18]) (by kernel_rfl) (by simp) ?_
            refine AllReadyH.cons rfl (fun K hK => ?_) AllReadyH.nil
            try simp only [List.getElem_toArray, List.getElem_cons_zero, List.getElem_cons_succ]
            go_simp
            refine hK.out _ _ (⟨Blk.cell blks, Blk.cell blks⟩) (fun hHeldN => ?_)
            clear hHeld hK K
            have hHeld := hHeldN
            clear hHeldN
            try simp only [Act.put, List.getElem_toArray, List.getElem_cons_zero, List.getElem_cons_succ, List.setIfInBounds_toArray, List.set_cons_zero, List.set_cons_succ]
            refine wpAnyH_done (by kernel_rfl) ?_ _
            refine NoPanic.normal ?_
            go_wp2_with fail
            go_meet
            case rel => exact ⟨w8.heap.size, V8, e8, H8, g8, rfl, rfl, Lib.hid (SB.new hV8'.out), Lib.hid (bbox hb8 _)⟩
          · skip
            try simp only [List.getElem_toArray, List.getElem_cons_zero, List.getElem_cons_succ]
            go_simp
            refine hK.out _ _ ⟨Blk.cell blks, Blk.cell blks⟩ (fun hHeldN => ?_)
            clear hHeld hK K
            have hHeld := hHeldN
            clear hHeldN
            refine wpAnyH_ready (rs := [12]) (by kernel_rfl) (by simp) ?_
            refine AllReadyH.cons rfl (fun K hK => ?_) AllReadyH.nil
            try simp only [List.getElem_toArray, List.getElem_cons_zero, List.getElem_cons_succ]
            (go_simp; refine (dC.out _ _ (hY.out.next (bgo hb7 bel)) (PBd.out _ (hP.out.next (bgo hb7 bel)))).mono ?_; rintro e w8 ⟨V8, e8, H8, g8, rfl, hV8, hB8⟩; have hb8 := bgo (w := w6) (bgo hb7 bel) hB8; have k8 := (hS.out.next hb8).blk; have y8 := (hY.out.next hb8).blk; have l8 := k8.lt; have ly8 := y8.lt; have z8 := hb8.size; have hV8' := Lib.hid hV8.out; have kb8 := Blk.next (g := w7.heap.size) (t := tSt) (cs := #[.slice none 0 0, .slice none 0 0]) (Blk.newE rfl) hB8)
            refine hK.out _ _ (⟨k8.cell, y8.cell⟩) (fun hHeldN => ?_)
            clear hHeld hK K
            have hHeld := hHeldN
            clear hHeldN
            try simp only [Act.put, List.getElem_toArray, List.getElem_cons_zero, List.getElem_cons_succ, List.setIfInBounds_toArray, List.set_cons_zero, List.set_cons_succ]
            have qb := kb8.cell
            have rb := kb8.frozen
            have lb := kb8.lt
            refine wpAnyH_take (i := 13) (v := ?_) rfl (by kernel_rfl) (by kernel_rfl) (by kernel_rfl) (fun _ _ _ h => h) (Or.inl ⟨by rfl, fun w hSw => ?_⟩) hHeld ?_
            rotate_left
            · ((try dsimp only at hSw); go_split_ands; go_simp; (try with_reducible rfl))
            try simp only [Act.put, List.getElem_toArray, List.getElem_cons_zero, List.getElem_cons_succ, List.setIfInBounds_toArray, List.set_cons_zero, List.set_cons_succ]
            refine wpAnyH_take (i := 14) (v := ?_) rfl (by kernel_rfl) (by kernel_rfl) (by kernel_rfl) (fun _ _ _ h => h) (Or.inl ⟨by rfl, fun w hSw => ?_⟩) hHeld ?_
            rotate_left
            · ((try dsimp only at hSw); go_split_ands; go_simp; (try with_reducible rfl))
            try simp only [Act.put, List.getElem_toArray, List.getElem_cons_zero, List.getElem_cons_succ, List.setIfInBounds_toArray, List.set_cons_zero, List.set_cons_succ]
            refine wpAnyH_take (i := 15) (v := ?_) rfl (by kernel_rfl) (by kernel_rfl) (by kernel_rfl) (fun _ _ _ h => h) (Or.inl ⟨by rfl, fun w hSw => ?_⟩) hHeld ?_
            rotate_left
            · ((try dsimp only at hSw); go_split_ands; go_simp; (try with_reducible rfl))
            try simp only [Act.put, List.getElem_toArray, List.getElem_cons_zero, List.getElem_cons_succ, List.setIfInBounds_toArray, List.set_cons_zero, List.set_cons_succ]
            refine wpAnyH_ready (rs := [17]) (by kernel_rfl) (by simp) ?_
            refine AllReadyH.cons rfl (fun K hK => ?_) AllReadyH.nil
            try simp only [List.getElem_toArray, List.getElem_cons_zero, List.getElem_cons_succ]
            go_simp
            refine hK.out _ _ (⟨Blk.cell blks, Blk.cell blks⟩) (fun hHeldN => ?_)
            clear hHeld hK K
            have hHeld := hHeldN
            clear hHeldN
            try simp only [Act.put, List.getElem_toArray, List.getElem_cons_zero, List.getElem_cons_succ, List.setIfInBounds_toArray, List.set_cons_zero, List.set_cons_succ]
            refine wpAnyH_ready (rs := [18]) (by kernel_rfl) (by simp) ?_
            refine AllReadyH.cons rfl (fun K hK => ?_) AllReadyH.nil
            try simp only [List.getElem_toArray, List.getElem_cons_zero, List.getElem_cons_succ]
            go_simp
            refine hK.out _ _ (⟨Blk.cell blks, Blk.cell blks⟩) (fun hHeldN => ?_)
            clear hHeld hK K
            have hHeld := hHeldN
            clear hHeldN
            try simp only [Act.put, List.getElem_toArray, List.getElem_cons_zero, List.getElem_cons_succ, List.setIfInBounds_toArray, List.set_cons_zero, List.set_cons_succ]
            refine wpAnyH_done (by kernel_rfl) ?_ _
            refine NoPanic.normal ?_
            go_wp2_with fail
            go_meet
            case rel => exact ⟨w7.heap.size, V8, e8, H8, g8, rfl, rfl, Lib.hid (SB.ofBox hV8'.out kb8 (by simp)), Lib.hid ((hb8.setCell z7 _).setCell z7 _)⟩
        · skip
          try simp only [List.getElem_toArray, List.getElem_cons_zero, List.getElem_cons_succ]
          go_simp
          refine hK.out _ _ ⟨Blk.cell blks, Blk.cell blks⟩ (fun hHeldN => ?_)
          clear hHeld hK K
          have hHeld := hHeldN
          clear hHeldN
          refine wpAnyH_ready (rs := [10]) (by kernel_rfl) (by simp) ?_
          refine AllReadyH.cons rfl (fun K hK => ?_) AllReadyH.nil
          try simp only [List.getElem_toArray, List.getElem_cons_zero, List.getElem_cons_succ]
          (go_simp; refine (dN.out _ _ (hS.out.next bel) (PB.take m (hP.out.next bel))).mono ?_; rintro e w7 ⟨rfl, hB7⟩; have hb7 := bgo (w := w6) bel hB7; have k7 := (hS.out.next hb7).blk; have y7 := (hY.out.next hb7).blk; have l7 := k7.lt; have ly7 := y7.lt; have z7 := hb7.size; have kb7 := Blk.next (g := w6.heap.size) (t := tSt) (cs := #[.slice none 0 0, .slice none 0 0]) (Blk.drew (Blk.newE rfl)) hB7)
          refine hK.out _ _ (⟨k7.cell, y7.cell⟩) (fun hHeldN => ?_)
          clear hHeld hK K
          have hHeld := hHeldN
          clear hHeldN
          try simp only [Act.put, List.getElem_toArray, List.getElem_cons_zero, List.getElem_cons_succ, List.setIfInBounds_toArray, List.set_cons_zero, List.set_cons_succ]
          refine wpAnyH_take (i := 11) (v := ?_) rfl (by kernel_rfl) (by kernel_rfl) (by kernel_rfl) (fun _ _ _ h => h) (Or.inl ⟨by rfl, fun w hSw => ?_⟩) hHeld ?_
          rotate_left
          · ((try dsimp only at hSw); go_split_ands; go_simp; (try with_reducible rfl))
          try simp only [Act.put, List.getElem_toArray, List.getElem_cons_zero, List.getElem_cons_succ, List.setIfInBounds_toArray, List.set_cons_zero, List.set_cons_succ]
          refine wpAnyH_ready (rs := [12]) (by kernel_rfl) (by simp) ?_
          refine AllReadyH.cons rfl (fun K hK => ?_) AllReadyH.nil
          try simp only [List.getElem_toArray, List.getElem_cons_zero, List.getElem_cons_succ]
          (go_simp; refine (dC.out _ _ (hY.out.next (bgo hb7 bel)) (PBd.out _ (hP.out.next (bgo hb7 bel)))).mono ?_; rintro e w8 ⟨V8, e8, H8, g8, rfl, hV8, hB8⟩; have hb8 := bgo (w := w6) (bgo hb7 bel) hB8; have k8 := (hS.out.next hb8).blk; have y8 := (hY.out.next hb8).blk; have l8 := k8.lt; have ly8 := y8.lt; have z8 := hb8.size; have hV8' := Lib.hid hV8.out; have kb8 := kb7.next (bgo (w := w7) bel hB8))
          refine hK.out _ _ (⟨k8.cell, y8.cell⟩) (fun hHeldN => ?_)
          clear hHeld hK K
          have hHeld := hHeldN
          clear hHeldN
          try simp only [Act.put, List.getElem_toArray, List.getElem_cons_zero, List.getElem_cons_succ, List.setIfInBounds_toArray, List.set_cons_zero, List.set_cons_succ]
          have qb := kb8.cell
          have rb := kb8.frozen
          have lb := kb8.lt
          have lb7 := kb7.lt
          refine wpAnyH_take (i := 13) (v := ?_) rfl (by kernel_rfl) (by kernel_rfl) (by kernel_rfl) (fun _ _ _ h => h) (Or.inl ⟨by rfl, fun w hSw => ?_⟩) hHeld ?_
          rotate_left
          · ((try dsimp only at hSw); go_split_ands; go_simp; (try with_reducible rfl))
          try simp only [Act.put, List.getElem_toArray, List.getElem_cons_zero, List.getElem_cons_succ, List.setIfInBounds_toArray, List.set_cons_zero, List.set_cons_succ]
          refine wpAnyH_take (i := 14) (v := ?_) rfl (by kernel_rfl) (by kernel_rfl) (by kernel_rfl) (fun _ _ _ h => h) (Or.inl ⟨by rfl, fun w hSw => ?_⟩) hHeld ?_
          rotate_left
          · ((try dsimp only at hSw); go_split_ands; go_simp; (try with_reducible rfl))
          try simp only [Act.put, List.getElem_toArray, List.getElem_cons_zero, List.getElem_cons_succ, List.setIfInBounds_toArray, List.set_cons_zero, List.set_cons_succ]
          refine wpAnyH_take (i := 15) (v := ?_) rfl (by kernel_rfl) (by kernel_rfl) (by kernel_rfl) (fun _ _ _ h => h) (Or.inl ⟨by rfl, fun w hSw => ?_⟩) hHeld ?_
          rotate_left
          · ((try dsimp only at hSw); go_split_ands; go_simp; (try with_reducible rfl))
          try simp only [Act.put, List.getElem_toArray, List.getElem_cons_zero, List.getElem_cons_succ, List.setIfInBounds_toArray, List.set_cons_zero, List.set_cons_succ]
          refine wpAnyH_ready (rs := [17]) (by kernel_rfl) (by simp) ?_
          refine AllReadyH.cons rfl (fun K hK => ?_) AllReadyH.nil
          try simp only [List.getElem_toArray, List.getElem_cons_zero, List.getElem_cons_succ]
          go_simp
          refine hK.out _ _ (⟨Blk.cell blks, Blk.cell blks⟩) (fun hHeldN => ?_)
          clear hHeld hK K
          have hHeld := hHeldN
          clear hHeldN
          try simp only [Act.put, List.getElem_toArray, List.getElem_cons_zero, List.getElem_cons_succ, List.setIfInBounds_toArray, List.set_cons_zero, List.set_cons_succ]
          refine wpAnyH_ready (rs := [18]) (by kernel_rfl) (by simp) ?_
          refine AllReadyH.cons rfl (fun K hK => ?_) AllReadyH.nil
          try simp only [List.getElem_toArray, List.getElem_cons_zero, List.getElem_cons_succ]
          go_simp
          refine hK.out _ _ (⟨Blk.cell blks, Blk.cell blks⟩) (fun hHeldN => ?_)
          clear hHeld hK K
          have hHeld := hHeldN
          clear hHeldN
          try simp only [Act.put, List.getElem_toArray, List.getElem_cons_zero, List.getElem_cons_succ, List.setIfInBounds_toArray, List.set_cons_zero, List.set_cons_succ]
          refine wpAnyH_done (by kernel_rfl) ?_ _
          refine NoPanic.normal ?_
          go_wp2_with fail
          go_meet
          case rel => exact ⟨w6.heap.size, V8, e8, H8, g8, rfl, rfl, Lib.hid (SB.ofBox hV8'.out kb8 (by first | omega | (simp; omega))), Lib.hid ((hb8.setCell (Nat.le_refl _) _).setCell (Nat.le_refl _) _)⟩
      case rest =>
        obtain ⟨x8, V8, e8, H8, g8, rfl, rfl, hZ, hb8⟩ := hcut
        obtain ⟨w8, rfl⟩ : ∃ z, z = wc := ⟨_, rfl⟩
        replace hP := Lib.hid (hP.out.next hb8.out)
        replace hX := Lib.hid (hX.out.next hb8.out)
        clear q1 r1 l1 q5 r5 l5 dN dC hb8 hsl hsl2 hw PBd hS hY
        have q2 := hX.out.blk.cell
        have r2 := hX.out.blk.frozen
        have l2 := hX.out.blk.lt
        have q3 := hZ.out.blk.cell
        have r3 := hZ.out.blk.frozen
        have l3 := hZ.out.blk.lt
        go_wp2_with fail
        refine (same_T rfl hZ.out hX.out).mono ?_
        rintro e w9 ⟨rfl, hB9⟩
        go_wp2_with fail
        go_ret
        exact ⟨rfl, bgo hP.out.bel hB9⟩
    · have k0b : (K1 == 0) = false := by simpa using k0
      have hE := hS1.out k0
      subst hE
      clear hS1 hS2 k0 hNb
      go_wp2_with fail
      go_ret
      exact ⟨rfl, hP.out.bel⟩
--@
end Go.Proofs.Ytciabhddppdioaa
