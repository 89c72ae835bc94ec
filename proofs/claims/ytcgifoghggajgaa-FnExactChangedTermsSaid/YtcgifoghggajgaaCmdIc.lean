/- Programs: validity, the spec's way: the count. -/
import Derived.Test.YtcgifoghggajgaaCmdI
import Derived.Test.YtcgifoghggajgaaLast
import Derived.IntWalk
set_option linter.unusedSimpArgs false
set_option linter.unusedVariables false
namespace Go.Proofs.Ytcgifoghggajgaa
open Go Go.RowKit Go.Proofs

--@ spec.l8Count
set_option maxRecDepth 100000 in
set_option maxHeartbeats 6400000 in
theorem l8Count_go : ∀ (N : Nat) (L : Cms), L.sz < N → ∀ (A : Option Addr) (c d lo hi : Nat) (D : Int) (w : World), D = d → CmsV w lo hi A L → L.len ≤ 1049600 → L.small 1049600 → L.sz ≤ 1049600 → d ≤ 4 →
    Calls Try.prog 142 #[.slice A L.len c, .int .i64 D] w fun e w' => e = .returned (.int .i64 (L.count d)) ∧ Below w.heap.size w w' := by
  intro N
  induction N with
  | zero => intro L h; omega
  | succ N IH =>
    intro L hsz A c d lo hi D w hD hV hlen hsm hcz hd
    replace IH := Lib.hid IH
    replace hV := Lib.hid hV
    replace hsm := Lib.hid hsm
    replace hsz := Lib.hid hsz
    replace hcz := Lib.hid hcz
    obtain ⟨n, hn⟩ : ∃ n, n = L.len := ⟨_, rfl⟩
    obtain ⟨R, hR⟩ : ∃ R, R = L.count d := ⟨_, rfl⟩
    have hRz : R ≤ 1049600 := by rw [hR]; exact Nat.le_trans (Cms.count_le L d) hcz.out
    rw [← hn, ← hR]
    rw [← hn] at hlen
    replace hn := Lib.hid hn
    replace hR := Lib.hid hR
    rcases Nat.eq_zero_or_pos d with rfl | hd0
    · subst hD
      have e0 : Hid (R = 0) := by rw [Hid, hR.out]; cases L <;> simp [Cms.count]
      go_enter Try.func142, Try.ntmps142
      go_wp2_with fail
      go_loopw [5, 6] (fun m x wr => m = .int .i64 0 ∧ x = .int .i64 0 ∧ Below w.heap.size w wr) (fun _ _ _ => 0)
      case atStart => exact ⟨rfl, rfl, bel⟩
      case round =>
        obtain ⟨rfl, rfl, hB⟩ := hrel
        by_cases q1 : 0 < n
        all_goals
          go_wp2_with fail
          go_ret
          exact ⟨by rw [e0.out]; rfl, hB⟩
    obtain ⟨d, rfl⟩ : ∃ e, d = e + 1 := ⟨d - 1, by omega⟩
    clear hd0
    have hD1 : 0 < D := by omega
    have hD4 : D ≤ 4 := by omega
    replace hD := Lib.hid hD
    go_enter Try.func142, Try.ntmps142
    go_wp2_with fail
    go_loopw [5, 6] (fun y x wr => ∃ j m : Nat, j ≤ n ∧ x = .int .i64 j ∧ y = .int .i64 m ∧ m ≤ R ∧ Hid (R = m + (L.drop j).count (d + 1)) ∧ Below w.heap.size w wr) (fun _ x _ => n - (intOf x).toNat)
    case atStart => exact ⟨0, 0, Nat.zero_le _, rfl, rfl, Nat.zero_le _, Lib.hid (by rw [Nat.zero_add]; exact hR.out), bel⟩
    case round =>
      obtain ⟨j, m, hj, rfl, rfl, hmR, HR, hB⟩ := hrel
      by_cases hlt : j < n
      · have hpos : 0 < (L.drop j).len := by rw [Cms.drop_len, ← hn.out]; omega
        obtain ⟨k, a, b, t, i, body, els, r, eL⟩ := Cms.cons_of_len hpos
        obtain ⟨bl, o, rfl, -, -, hAt⟩ := (hV.out.below hB) (by rw [← hn.out]; omega)
        have hD := hAt.drop j
        have hS := Cms.small_drop j hsm.out
        have hZ := Cms.sz_drop j L
        have hDs := Cms.drop_succ j L eL
        have HR' := HR.out
        rw [eL] at hD hS hZ HR'
        obtain ⟨⟨p0, p1, p2, p3, p4, p5⟩, ⟨A6, c6, p6, g6⟩, ⟨A7, c7, p7, g7⟩, ⟨A8, c8, p8, g8⟩, ⟨A9, c9, p9, g9⟩, -⟩ := hD
        obtain ⟨s1, s2, s3, s4, s5, s6, -⟩ := hS
        simp only [Cms.sz] at hZ
        have hbs : body.sz < N := by have := hsz.out; omega
        have hes : els.sz < N := by have := hsz.out; omega
        have hbz : body.sz ≤ 1049600 := by have := hcz.out; omega
        have hez : els.sz ≤ 1049600 := by have := hcz.out; omega
        have gB : Hid (CmsV wr lo hi A8 body) := g8
        have gE : Hid (CmsV wr lo hi A9 els) := g9
        rw [Cms.count, if_pos (by omega), Nat.add_sub_cancel, ← hDs] at HR'
        obtain ⟨x1, hx1⟩ : ∃ x, x = body.count d := ⟨_, rfl⟩
        obtain ⟨x2, hx2⟩ : ∃ x, x = els.count d := ⟨_, rfl⟩
        rw [← hx1, ← hx2] at HR'
        have y1 : m + x1 + x2 + 1 ≤ R := by omega
        replace HR' := Lib.hid HR'
        replace hx1 := Lib.hid hx1
        replace hx2 := Lib.hid hx2
        replace hbs := Lib.hid hbs
        replace hes := Lib.hid hes
        replace hbz := Lib.hid hbz
        replace hez := Lib.hid hez
        replace s5 := Lib.hid s5
        replace s6 := Lib.hid s6
        clear hZ hpos hAt g6 g7 g8 g9 HR hDs eL s1 s2
        go_wp2_with fail
        have hlt8 := block_lt_of_cell p8
        have i1 : IntKind.i64.wrap ((m : Int) + 1) = (m : Int) + 1 := IntWalk.i64_in _ (by omega)
        have i2 : IntKind.i64.wrap ((m : Int) + 1 + x1) = (m : Int) + 1 + x1 := IntWalk.i64_in _ (by omega)
        have i3 : IntKind.i64.wrap ((m : Int) + 1 + x1 + x2) = (m : Int) + 1 + x1 + x2 := IntWalk.i64_in _ (by omega)
        have i4 : IntKind.i64.wrap (D - 1) = D - 1 := IntWalk.i64_in _ (by omega)
        clear p0 p1 p2 p3 p4 p5 p6 p7
        refine wp_region_noPanic ?_
        refine wp_region_held_drew (S := (fun w' => w'.cell? ⟨bl, o + j * 10 + 8, none⟩ = some (.slice A8 body.len c8) ∧ w'.cell? ⟨bl, o + j * 10 + 9, none⟩ = some (.slice A9 els.len c9))) (by kernel_rfl) (⟨p8, p9⟩) (fun hHeld => ?_)
        refine wpAnyH_take (i := 0) (v := ?_) rfl (by kernel_rfl) (by kernel_rfl) (by kernel_rfl) (fun _ _ _ h => h) (Or.inl ⟨by rfl, fun w hSw => ?_⟩) hHeld ?_
        rotate_left
        · ((try dsimp only at hSw); go_split_ands; go_simp; (try with_reducible rfl))
        try simp only [Act.put, List.getElem_toArray, List.getElem_cons_zero, List.getElem_cons_succ, List.setIfInBounds_toArray, List.set_cons_zero, List.set_cons_succ]
        refine wpAnyH_take (i := 1) (v := ?_) rfl (by kernel_rfl) (by kernel_rfl) (by kernel_rfl) (fun _ _ _ h => h) (Or.inl ⟨by rfl, fun w hSw => ?_⟩) hHeld ?_
        rotate_left
        · ((try dsimp only at hSw); go_split_ands; go_simp; (try with_reducible rfl))
        try simp only [Act.put, List.getElem_toArray, List.getElem_cons_zero, List.getElem_cons_succ, List.setIfInBounds_toArray, List.set_cons_zero, List.set_cons_succ]
        refine wpAnyH_take (i := 2) (v := ?_) rfl (by kernel_rfl) (by kernel_rfl) (by kernel_rfl) (fun _ _ _ h => h) (Or.inl ⟨by rfl, fun w hSw => ?_⟩) hHeld ?_
        rotate_left
        · ((try dsimp only at hSw); go_split_ands; go_simp; (try with_reducible rfl))
        try simp only [Act.put, List.getElem_toArray, List.getElem_cons_zero, List.getElem_cons_succ, List.setIfInBounds_toArray, List.set_cons_zero, List.set_cons_succ]
        refine wpAnyH_take (i := 3) (v := ?_) rfl (by kernel_rfl) (by kernel_rfl) (by kernel_rfl) (fun _ _ _ h => h) (Or.inl ⟨by rfl, fun w hSw => ?_⟩) hHeld ?_
        rotate_left
        · ((try dsimp only at hSw); go_split_ands; go_simp; (try with_reducible rfl))
        try simp only [Act.put, List.getElem_toArray, List.getElem_cons_zero, List.getElem_cons_succ, List.setIfInBounds_toArray, List.set_cons_zero, List.set_cons_succ]
        refine wpAnyH_take (i := 4) (v := ?_) rfl (by kernel_rfl) (by kernel_rfl) (by kernel_rfl) (fun _ _ _ h => h) (Or.inl ⟨by rfl, fun w hSw => ?_⟩) hHeld ?_
        rotate_left
        · ((try dsimp only at hSw); go_split_ands; go_simp; (try with_reducible rfl))
        try simp only [Act.put, List.getElem_toArray, List.getElem_cons_zero, List.getElem_cons_succ, List.setIfInBounds_toArray, List.set_cons_zero, List.set_cons_succ]
        refine wpAnyH_take (i := 5) (v := ?_) rfl (by kernel_rfl) (by kernel_rfl) (by kernel_rfl) (fun _ _ _ h => h) (Or.inl ⟨by rfl, fun w hSw => ?_⟩) hHeld ?_
        rotate_left
        · ((try dsimp only at hSw); go_split_ands; go_simp; (try with_reducible rfl))
        try simp only [Act.put, List.getElem_toArray, List.getElem_cons_zero, List.getElem_cons_succ, List.setIfInBounds_toArray, List.set_cons_zero, List.set_cons_succ]
        refine wpAnyH_take (i := 6) (v := ?_) rfl (by kernel_rfl) (by kernel_rfl) (by kernel_rfl) (fun _ _ _ h => h) (Or.inl ⟨by rfl, fun w hSw => ?_⟩) hHeld ?_
        rotate_left
        · ((try dsimp only at hSw); go_split_ands; go_simp; (try with_reducible rfl))
        try simp only [Act.put, List.getElem_toArray, List.getElem_cons_zero, List.getElem_cons_succ, List.setIfInBounds_toArray, List.set_cons_zero, List.set_cons_succ]
        refine wpAnyH_take (i := 7) (v := ?_) rfl (by kernel_rfl) (by kernel_rfl) (by kernel_rfl) (fun _ _ _ h => h) (Or.inl ⟨by rfl, fun w hSw => ?_⟩) hHeld ?_
        rotate_left
        · ((try dsimp only at hSw); go_split_ands; go_simp; (try with_reducible rfl))
        try simp only [Act.put, List.getElem_toArray, List.getElem_cons_zero, List.getElem_cons_succ, List.setIfInBounds_toArray, List.set_cons_zero, List.set_cons_succ]
        refine wpAnyH_take (i := 8) (v := ?_) rfl (by kernel_rfl) (by kernel_rfl) (by kernel_rfl) (fun _ _ _ h => h) (Or.inl ⟨by rfl, fun w hSw => ?_⟩) hHeld ?_
        rotate_left
        · ((try dsimp only at hSw); go_split_ands; go_simp; (try with_reducible rfl))
        try simp only [Act.put, List.getElem_toArray, List.getElem_cons_zero, List.getElem_cons_succ, List.setIfInBounds_toArray, List.set_cons_zero, List.set_cons_succ]
        refine wpAnyH_take (i := 11) (v := ?_) rfl (by kernel_rfl) (by kernel_rfl) (by kernel_rfl) (fun _ _ _ h => h) (Or.inl ⟨by rfl, fun w hSw => ?_⟩) hHeld ?_
        rotate_left
        · ((try dsimp only at hSw); go_split_ands; go_simp; (try with_reducible rfl))
        try simp only [Act.put, List.getElem_toArray, List.getElem_cons_zero, List.getElem_cons_succ, List.setIfInBounds_toArray, List.set_cons_zero, List.set_cons_succ]
        refine wpAnyH_take (i := 12) (v := ?_) rfl (by kernel_rfl) (by kernel_rfl) (by kernel_rfl) (fun _ _ _ h => h) (Or.inl ⟨by rfl, fun w hSw => ?_⟩) hHeld ?_
        rotate_left
        · ((try dsimp only at hSw); go_split_ands; go_simp; (try with_reducible rfl))
        try simp only [Act.put, List.getElem_toArray, List.getElem_cons_zero, List.getElem_cons_succ, List.setIfInBounds_toArray, List.set_cons_zero, List.set_cons_succ]
        refine wpAnyH_take (i := 13) (v := ?_) rfl (by kernel_rfl) (by kernel_rfl) (by kernel_rfl) (fun _ _ _ h => h) (Or.inl ⟨by rfl, fun w hSw => ?_⟩) hHeld ?_
        rotate_left
        · ((try dsimp only at hSw); go_split_ands; go_simp; (try with_reducible rfl))
        try simp only [Act.put, List.getElem_toArray, List.getElem_cons_zero, List.getElem_cons_succ, List.setIfInBounds_toArray, List.set_cons_zero, List.set_cons_succ]
        refine wpAnyH_take (i := 14) (v := ?_) rfl (by kernel_rfl) (by kernel_rfl) (by kernel_rfl) (fun _ _ _ h => h) (Or.inl ⟨by rfl, fun w hSw => ?_⟩) hHeld ?_
        rotate_left
        · ((try dsimp only at hSw); go_split_ands; go_simp; (try with_reducible rfl))
        try simp only [Act.put, List.getElem_toArray, List.getElem_cons_zero, List.getElem_cons_succ, List.setIfInBounds_toArray, List.set_cons_zero, List.set_cons_succ]
        refine wpAnyH_take (i := 15) (v := ?_) rfl (by kernel_rfl) (by kernel_rfl) (by kernel_rfl) (fun _ _ _ h => h) (Or.inl ⟨by rfl, fun w hSw => ?_⟩) hHeld ?_
        rotate_left
        · ((try dsimp only at hSw); go_split_ands; go_simp; (try with_reducible rfl))
        try simp only [Act.put, List.getElem_toArray, List.getElem_cons_zero, List.getElem_cons_succ, List.setIfInBounds_toArray, List.set_cons_zero, List.set_cons_succ]
        refine wpAnyH_take (i := 16) (v := ?_) rfl (by kernel_rfl) (by kernel_rfl) (by kernel_rfl) (fun _ _ _ h => h) (Or.inl ⟨by rfl, fun w hSw => ?_⟩) hHeld ?_
        rotate_left
        · ((try dsimp only at hSw); go_split_ands; go_simp; (try with_reducible rfl))
        try simp only [Act.put, List.getElem_toArray, List.getElem_cons_zero, List.getElem_cons_succ, List.setIfInBounds_toArray, List.set_cons_zero, List.set_cons_succ]
        refine wpAnyH_take (i := 17) (v := ?_) rfl (by kernel_rfl) (by kernel_rfl) (by kernel_rfl) (fun _ _ _ h => h) (Or.inl ⟨by rfl, fun w hSw => ?_⟩) hHeld ?_
        rotate_left
        · ((try dsimp only at hSw); go_split_ands; go_simp; (try with_reducible rfl))
        try simp only [Act.put, List.getElem_toArray, List.getElem_cons_zero, List.getElem_cons_succ, List.setIfInBounds_toArray, List.set_cons_zero, List.set_cons_succ]
        refine wpAnyH_ready (rs := [9]) (by kernel_rfl) (by simp) ?_
        refine AllReadyH.cons rfl (fun K hK => ?_) AllReadyH.nil
        try simp only [List.getElem_toArray, List.getElem_cons_zero, List.getElem_cons_succ]
        (go_simp; refine (IH.out body hbs.out A8 c8 d lo hi _ _ (by have := hD.out; push_cast at this; omega) (gB.out.below bel) s3 s5.out hbz.out (by omega)).mono ?_; rintro e w8 ⟨rfl, hBx⟩; rw [← hx1.out]; replace hB := bgo hB.drew hBx; replace gE := Lib.hid ((gE.out.below (Below.refl _ _).drew).below hBx); replace p8 := (hBx.cell (p := ⟨bl, o + j * 10 + 8, none⟩) hlt8).trans p8; replace p9 := (hBx.cell (p := ⟨bl, o + j * 10 + 9, none⟩) hlt8).trans p9; clear hBx hlt8; have hlt8 := block_lt_of_cell p8)
        refine hK.out _ _ (⟨p8, p9⟩) (fun hHeldN => ?_)
        clear hHeld hK K
        have hHeld := hHeldN
        clear hHeldN
        try simp only [Act.put, List.getElem_toArray, List.getElem_cons_zero, List.getElem_cons_succ, List.setIfInBounds_toArray, List.set_cons_zero, List.set_cons_succ]
        refine wpAnyH_take (i := 10) (v := ?_) rfl (by kernel_rfl) (by kernel_rfl) (by kernel_rfl) (fun _ _ _ h => h) (Or.inl ⟨by rfl, fun w hSw => ?_⟩) hHeld ?_
        rotate_left
        · ((try dsimp only at hSw); go_split_ands; go_simp; (try with_reducible rfl))
        try simp only [Act.put, List.getElem_toArray, List.getElem_cons_zero, List.getElem_cons_succ, List.setIfInBounds_toArray, List.set_cons_zero, List.set_cons_succ]
        refine wpAnyH_ready (rs := [18]) (by kernel_rfl) (by simp) ?_
        refine AllReadyH.cons rfl (fun K hK => ?_) AllReadyH.nil
        try simp only [List.getElem_toArray, List.getElem_cons_zero, List.getElem_cons_succ]
        (go_simp; refine (IH.out els hes.out A9 c9 d lo hi _ _ (by have := hD.out; push_cast at this; omega) gE.out s4 s6.out hez.out (by omega)).mono ?_; rintro e w9 ⟨rfl, hBx⟩; rw [← hx2.out]; replace hB := bgo hB hBx; replace p8 := (hBx.cell (p := ⟨bl, o + j * 10 + 8, none⟩) hlt8).trans p8; replace p9 := (hBx.cell (p := ⟨bl, o + j * 10 + 9, none⟩) hlt8).trans p9; clear hBx hlt8)
        refine hK.out _ _ (⟨p8, p9⟩) (fun hHeldN => ?_)
        clear hHeld hK K
        have hHeld := hHeldN
        clear hHeldN
        try simp only [Act.put, List.getElem_toArray, List.getElem_cons_zero, List.getElem_cons_succ, List.setIfInBounds_toArray, List.set_cons_zero, List.set_cons_succ]
        refine wpAnyH_take (i := 19) (v := ?_) rfl (by kernel_rfl) (by kernel_rfl) (by kernel_rfl) (fun _ _ _ h => h) (Or.inl ⟨by rfl, fun w hSw => ?_⟩) hHeld ?_
        rotate_left
        · ((try dsimp only at hSw); go_split_ands; go_simp; (try with_reducible rfl))
        try simp only [Act.put, List.getElem_toArray, List.getElem_cons_zero, List.getElem_cons_succ, List.setIfInBounds_toArray, List.set_cons_zero, List.set_cons_succ]
        refine wpAnyH_take (i := 20) (v := ?_) rfl (by kernel_rfl) (by kernel_rfl) (by kernel_rfl) (fun _ _ _ h => h) (Or.inl ⟨by rfl, fun w hSw => ?_⟩) hHeld ?_
        rotate_left
        · ((try dsimp only at hSw); go_split_ands; go_simp; (try with_reducible rfl))
        try simp only [Act.put, List.getElem_toArray, List.getElem_cons_zero, List.getElem_cons_succ, List.setIfInBounds_toArray, List.set_cons_zero, List.set_cons_succ]
        refine wpAnyH_done (by kernel_rfl) ?_ _
        refine NoPanic.normal ?_
        clear p8 p9 i1 i2 i3 i4
        go_wp2_with fail
        go_round
        case rel => exact ⟨j + 1, m + x1 + x2 + 1, by omega, by go_num, by push_cast; congr 1; omega, by omega, Lib.hid (by have := HR'.out; omega), hB⟩
        case measure => simp [intOf]; omega
      · go_wp2_with fail
        go_ret
        obtain rfl : j = n := by omega
        have e1 : L.drop j = .nil := by rw [hn.out]; exact Cms.drop_all L
        have h2 := HR.out
        rw [e1] at h2
        exact ⟨by rw [h2]; rfl, hB⟩

--@ spec.ProgramValid
set_option maxHeartbeats 1600000 in
theorem c_spec_ProgramValid {lo hi : Nat} (L : Cms) (A : Option Addr) (c : Nat) (w : World) (hV : CmsV w lo hi A L) (hlen : L.len ≤ 1049600) (hsm : L.small 1049600) (hz : L.sz ≤ 1049600) :
    Calls Try.prog 74 #[.slice A L.len c] w fun e w' => e = .returned (.bool L.prog) ∧ Below w.heap.size w w' := by
  obtain ⟨R, hR⟩ : ∃ R, R = L.prog := ⟨_, rfl⟩
  obtain ⟨x, hx⟩ : ∃ x, x = L.shape 4 := ⟨_, rfl⟩
  rw [← hR]
  rw [Cms.prog, ← hx] at hR
  have hc : x = true → L.count 4 = L.sz := fun h => Cms.count_shape (by rw [← hx]; exact h)
  replace hc := Lib.hid hc
  replace hR := Lib.hid hR
  replace hx := Lib.hid hx
  replace hV := Lib.hid hV
  replace hsm := Lib.hid hsm
  go_enter Try.func74, Try.ntmps74
  go_wp2_with fail
  refine (l8Shape_go _ L (Nat.lt_succ_self _) A c 4 lo hi w hV.out hlen hsm.out (by omega)).mono ?_
  rintro e w1 ⟨rfl, hB1⟩
  rw [← hx.out]
  cases x
  · go_wp2_with fail
    go_ret
    exact ⟨ret_bool (by rw [hR.out]; rfl), hB1⟩
  go_wp2_with fail
  refine (l8Count_go _ L (Nat.lt_succ_self _) A c 4 lo hi 4 w1 rfl (hV.out.below hB1) hlen hsm.out hz (by omega)).mono ?_
  rintro e w2 ⟨rfl, hB2⟩
  rw [hc.out (by simp)]
  have hB := bgo hB1 hB2
  go_wp2_with fail
  go_ret
  exact ⟨ret_bool (by rw [hR.out, Bool.true_and]; simp; omega), hB⟩
--@
end Go.Proofs.Ytcgifoghggajgaa
