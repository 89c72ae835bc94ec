/- Programs: validity, the spec's way: the count. -/
import Derived.Test.YtcgifoghggajgaaCmdI
import Derived.Test.YtcgifoghggajgaaLast
import Derived.IntWalk
import Derived.Test.YtcgifoghggajgaaRunD
import Derived.Test.YtcgifoghggajgaaMRunF
import Derived.Test.YtcgifoghggajgaaMCmdK
set_option linter.unusedSimpArgs false
set_option linter.unusedVariables false
namespace Go.Proofs.Ytcgifoghggajgaa
open Go Go.RowKit Go.Proofs

--@ spec.l8Count
set_option maxRecDepth 100000 in
set_option maxHeartbeats 6400000 in
theorem l8Count_go : ∀ (N : Nat) (L : Cms), L.sz < N → ∀ (A : Option Addr) (c d lo hi : Nat) (D : Int) (w : World), D = d → CmsV w lo hi A L → L.len ≤ 1049600 → L.small 1049600 → L.sz ≤ 1049600 → d ≤ 4 →
    Calls Try.prog 142 #[.slice A L.len c, .int .i64 D] w fun e w' => e = .returned (.int .i64 (L.count d)) ∧ Below w.heap.size w w' := by
  intro N
  induction N with
  | zero => intro L h; omega
  | succ N IH =>
    intro L hsz A c d lo hi D w hD hV hlen hsm hcz hd
    replace IH := Lib.hid IH
    replace hV := Lib.hid hV
    replace hsm := Lib.hid hsm
    replace hsz := Lib.hid hsz
    replace hcz := Lib.hid hcz
    obtain ⟨n, hn⟩ : ∃ n, n = L.len := ⟨_, rfl⟩
    obtain ⟨R, hR⟩ : ∃ R, R = L.count d := ⟨_, rfl⟩
    have hRz : R ≤ 1049600 := by rw [hR]; exact Nat.le_trans (Cms.count_le L d) hcz.out
    rw [← hn, ← hR]
    rw [← hn] at hlen
    replace hn := Lib.hid hn
    replace hR := Lib.hid hR
    rcases Nat.eq_zero_or_pos d with rfl | hd0
    · subst hD
      have e0 : Hid (R = 0) := by rw [Hid, hR.out]; cases L <;> simp [Cms.count]
      go_enter Try.func142, Try.ntmps142
      go_wp2_with fail
      go_loopw [5, 6] (fun m x wr => m = .int .i64 0 ∧ x = .int .i64 0 ∧ Below w.heap.size w wr) (fun _ _ _ => 0)
      case atStart => exact ⟨rfl, rfl, bel⟩
      case round =>
        obtain ⟨rfl, rfl, hB⟩ := hrel
        by_cases q1 : 0 < n
        all_goals
          go_wp2_with fail
          go_ret
          exact ⟨by rw [e0.out]; rfl, hB⟩
    obtain ⟨d, rfl⟩ : ∃ e, d = e + 1 := ⟨d - 1, by omega⟩
    clear hd0
    have hD1 : 0 < D := by omega
    have hD4 : D ≤ 4 := by omega
    replace hD := Lib.hid hD
    go_enter Try.func142, Try.ntmps142
    go_wp2_with fail
    go_loopw [5, 6] (fun y x wr => ∃ j m : Nat, j ≤ n ∧ x = .int .i64 j ∧ y = .int .i64 m ∧ m ≤ R ∧ Hid (R = m + (L.drop j).count (d + 1)) ∧ Below w.heap.size w wr) (fun _ x _ => n - (intOf x).toNat)
    case atStart => exact ⟨0, 0, Nat.zero_le _, rfl, rfl, Nat.zero_le _, Lib.hid (by rw [Nat.zero_add]; exact hR.out), bel⟩
    case round =>
      obtain ⟨j, m, hj, rfl, rfl, hmR, HR, hB⟩ := hrel
      by_cases hlt : j < n
      · have hpos : 0 < (L.drop j).len := by rw [Cms.drop_len, ← hn.out]; omega
        obtain ⟨k, a, b, t, i, body, els, r, eL⟩ := Cms.cons_of_len hpos
        obtain ⟨bl, o, rfl, -, -, hAt⟩ := (hV.out.below hB) (by rw [← hn.out]; omega)
        have hD := hAt.drop j
        have hS := Cms.small_drop j hsm.out
        have hZ := Cms.sz_drop j L
        have hDs := Cms.drop_succ j L eL
        have HR' := HR.out
        rw [eL] at hD hS hZ HR'
        obtain ⟨⟨p0, p1, p2, p3, p4, p5⟩, ⟨A6, c6, p6, g6⟩, ⟨A7, c7, p7, g7⟩, ⟨A8, c8, p8, g8⟩, ⟨A9, c9, p9, g9⟩, -⟩ := hD
        obtain ⟨s1, s2, s3, s4, s5, s6, -⟩ := hS
        simp only [Cms.sz] at hZ
        have hbs : body.sz < N := by have := hsz.out; omega
        have hes : els.sz < N := by have := hsz.out; omega
        have hbz : body.sz ≤ 1049600 := by have := hcz.out; omega
        have hez : els.sz ≤ 1049600 := by have := hcz.out; omega
        have gB : Hid (CmsV wr lo hi A8 body) := g8
        have gE : Hid (CmsV wr lo hi A9 els) := g9
        rw [Cms.count, if_pos (by omega), Nat.add_sub_cancel, ← hDs] at HR'
        obtain ⟨x1, hx1⟩ : ∃ x, x = body.count d := ⟨_, rfl⟩
        obtain ⟨x2, hx2⟩ : ∃ x, x = els.count d := ⟨_, rfl⟩
        rw [← hx1, ← hx2] at HR'
        have y1 : m + x1 + x2 + 1 ≤ R := by omega
        replace HR' := Lib.hid HR'
        replace hx1 := Lib.hid hx1
        replace hx2 := Lib.hid hx2
        replace hbs := Lib.hid hbs
        replace hes := Lib.hid hes
        replace hbz := Lib.hid hbz
        replace hez := Lib.hid hez
        replace s5 := Lib.hid s5
        replace s6 := Lib.hid s6
        clear hZ hpos hAt g6 g7 g8 g9 HR hDs eL s1 s2
        go_wp2_with fail
        have hlt8 := block_lt_of_cell p8
        have i1 : IntKind.i64.wrap ((m : Int) + 1) = (m : Int) + 1 := IntWalk.i64_in _ (by omega)
        have i2 : IntKind.i64.wrap ((m : Int) + 1 + x1) = (m : Int) + 1 + x1 := IntWalk.i64_in _ (by omega)
        have i3 : IntKind.i64.wrap ((m : Int) + 1 + x1 + x2) = (m : Int) + 1 + x1 + x2 := IntWalk.i64_in _ (by omega)
        have i4 : IntKind.i64.wrap (D - 1) = D - 1 := IntWalk.i64_in _ (by omega)
        clear p0 p1 p2 p3 p4 p5 p6 p7
        refine wp_region_noPanic ?_
        refine wp_region_held_drew (S := (fun w' => w'.cell? ⟨bl, o + j * 10 + 8, none⟩ = some (.slice A8 body.len c8) ∧ w'.cell? ⟨bl, o + j * 10 + 9, none⟩ = some (.slice A9 els.len c9))) (by kernel_rfl) (⟨p8, p9⟩) (fun hHeld => ?_)
        refine wpAnyH_take (i := 0) (v := ?_) rfl (by kernel_rfl) (by kernel_rfl) (by kernel_rfl) (fun _ _ _ h => h) (Or.inl ⟨by rfl, fun w hSw => ?_⟩) hHeld ?_
        rotate_left
        · ((try dsimp only at hSw); go_split_ands; go_simp; (try with_reducible rfl))
        try simp only [Act.put, List.getElem_toArray, List.getElem_cons_zero, List.getElem_cons_succ, List.setIfInBounds_toArray, List.set_cons_zero, List.set_cons_succ]
        refine wpAnyH_take (i := 1) (v := ?_) rfl (by kernel_rfl) (by kernel_rfl) (by kernel_rfl) (fun _ _ _ h => h) (Or.inl ⟨by rfl, fun w hSw => ?_⟩) hHeld ?_
        rotate_left
        · ((try dsimp only at hSw); go_split_ands; go_simp; (try with_reducible rfl))
        try simp only [Act.put, List.getElem_toArray, List.getElem_cons_zero, List.getElem_cons_succ, List.setIfInBounds_toArray, List.set_cons_zero, List.set_cons_succ]
        refine wpAnyH_take (i := 2) (v := ?_) rfl (by kernel_rfl) (by kernel_rfl) (by kernel_rfl) (fun _ _ _ h => h) (Or.inl ⟨by rfl, fun w hSw => ?_⟩) hHeld ?_
        rotate_left
        · ((try dsimp only at hSw); go_split_ands; go_simp; (try with_reducible rfl))
        try simp only [Act.put, List.getElem_toArray, List.getElem_cons_zero, List.getElem_cons_succ, List.setIfInBounds_toArray, List.set_cons_zero, List.set_cons_succ]
        refine wpAnyH_take (i := 3) (v := ?_) rfl (by kernel_rfl) (by kernel_rfl) (by kernel_rfl) (fun _ _ _ h => h) (Or.inl ⟨by rfl, fun w hSw => ?_⟩) hHeld ?_
        rotate_left
        · ((try dsimp only at hSw); go_split_ands; go_simp; (try with_reducible rfl))
        try simp only [Act.put, List.getElem_toArray, List.getElem_cons_zero, List.getElem_cons_succ, List.setIfInBounds_toArray, List.set_cons_zero, List.set_cons_succ]
        refine wpAnyH_take (i := 4) (v := ?_) rfl (by kernel_rfl) (by kernel_rfl) (by kernel_rfl) (fun _ _ _ h => h) (Or.inl ⟨by rfl, fun w hSw => ?_⟩) hHeld ?_
        rotate_left
        · ((try dsimp only at hSw); go_split_ands; go_simp; (try with_reducible rfl))
        try simp only [Act.put, List.getElem_toArray, List.getElem_cons_zero, List.getElem_cons_succ, List.setIfInBounds_toArray, List.set_cons_zero, List.set_cons_succ]
        refine wpAnyH_take (i := 5) (v := ?_) rfl (by kernel_rfl) (by kernel_rfl) (by kernel_rfl) (fun _ _ _ h => h) (Or.inl ⟨by rfl, fun w hSw => ?_⟩) hHeld ?_
        rotate_left
        · ((try dsimp only at hSw); go_split_ands; go_simp; (try with_reducible rfl))
        try simp only [Act.put, List.getElem_toArray, List.getElem_cons_zero, List.getElem_cons_succ, List.setIfInBounds_toArray, List.set_cons_zero, List.set_cons_succ]
        refine wpAnyH_take (i := 6) (v := ?_) rfl (by kernel_rfl) (by kernel_rfl) (by kernel_rfl) (fun _ _ _ h => h) (Or.inl ⟨by rfl, fun w hSw => ?_⟩) hHeld ?_
        rotate_left
        · ((try dsimp only at hSw); go_split_ands; go_simp; (try with_reducible rfl))
        try simp only [Act.put, List.getElem_toArray, List.getElem_cons_zero, List.getElem_cons_succ, List.setIfInBounds_toArray, List.set_cons_zero, List.set_cons_succ]
        refine wpAnyH_take (i := 7) (v := ?_) rfl (by kernel_rfl) (by kernel_rfl) (by kernel_rfl) (fun _ _ _ h => h) (Or.inl ⟨by rfl, fun w hSw => ?_⟩) hHeld ?_
        rotate_left
        · ((try dsimp only at hSw); go_split_ands; go_simp; (try with_reducible rfl))
        try simp only [Act.put, List.getElem_toArray, List.getElem_cons_zero, List.getElem_cons_succ, List.setIfInBounds_toArray, List.set_cons_zero, List.set_cons_succ]
        refine wpAnyH_take (i := 8) (v := ?_) rfl (by kernel_rfl) (by kernel_rfl) (by kernel_rfl) (fun _ _ _ h => h) (Or.inl ⟨by rfl, fun w hSw => ?_⟩) hHeld ?_
        rotate_left
        · ((try dsimp only at hSw); go_split_ands; go_simp; (try with_reducible rfl))
        try simp only [Act.put, List.getElem_toArray, List.getElem_cons_zero, List.getElem_cons_succ, List.setIfInBounds_toArray, List.set_cons_zero, List.set_cons_succ]
        refine wpAnyH_take (i := 11) (v := ?_) rfl (by kernel_rfl) (by kernel_rfl) (by kernel_rfl) (fun _ _ _ h => h) (Or.inl ⟨by rfl, fun w hSw => ?_⟩) hHeld ?_
        rotate_left
        · ((try dsimp only at hSw); go_split_ands; go_simp; (try with_reducible rfl))
        try simp only [Act.put, List.getElem_toArray, List.getElem_cons_zero, List.getElem_cons_succ, List.setIfInBounds_toArray, List.set_cons_zero, List.set_cons_succ]
        refine wpAnyH_take (i := 12) (v := ?_) rfl (by kernel_rfl) (by kernel_rfl) (by kernel_rfl) (fun _ _ _ h => h) (Or.inl ⟨by rfl, fun w hSw => ?_⟩) hHeld ?_
        rotate_left
        · ((try dsimp only at hSw); go_split_ands; go_simp; (try with_reducible rfl))
        try simp only [Act.put, List.getElem_toArray, List.getElem_cons_zero, List.getElem_cons_succ, List.setIfInBounds_toArray, List.set_cons_zero, List.set_cons_succ]
        refine wpAnyH_take (i := 13) (v := ?_) rfl (by kernel_rfl) (by kernel_rfl) (by kernel_rfl) (fun _ _ _ h => h) (Or.inl ⟨by rfl, fun w hSw => ?_⟩) hHeld ?_
        rotate_left
        · ((try dsimp only at hSw); go_split_ands; go_simp; (try with_reducible rfl))
        try simp only [Act.put, List.getElem_toArray, List.getElem_cons_zero, List.getElem_cons_succ, List.setIfInBounds_toArray, List.set_cons_zero, List.set_cons_succ]
        refine wpAnyH_take (i := 14) (v := ?_) rfl (by kernel_rfl) (by kernel_rfl) (by kernel_rfl) (fun _ _ _ h => h) (Or.inl ⟨by rfl, fun w hSw => ?_⟩) hHeld ?_
        rotate_left
        · ((try dsimp only at hSw); go_split_ands; go_simp; (try with_reducible rfl))
        try simp only [Act.put, List.getElem_toArray, List.getElem_cons_zero, List.getElem_cons_succ, List.setIfInBounds_toArray, List.set_cons_zero, List.set_cons_succ]
        refine wpAnyH_take (i := 15) (v := ?_) rfl (by kernel_rfl) (by kernel_rfl) (by kernel_rfl) (fun _ _ _ h => h) (Or.inl ⟨by rfl, fun w hSw => ?_⟩) hHeld ?_
        rotate_left
        · ((try dsimp only at hSw); go_split_ands; go_simp; (try with_reducible rfl))
        try simp only [Act.put, List.getElem_toArray, List.getElem_cons_zero, List.getElem_cons_succ, List.setIfInBounds_toArray, List.set_cons_zero, List.set_cons_succ]
        refine wpAnyH_take (i := 16) (v := ?_) rfl (by kernel_rfl) (by kernel_rfl) (by kernel_rfl) (fun _ _ _ h => h) (Or.inl ⟨by rfl, fun w hSw => ?_⟩) hHeld ?_
        rotate_left
        · ((try dsimp only at hSw); go_split_ands; go_simp; (try with_reducible rfl))
        try simp only [Act.put, List.getElem_toArray, List.getElem_cons_zero, List.getElem_cons_succ, List.setIfInBounds_toArray, List.set_cons_zero, List.set_cons_succ]
        refine wpAnyH_take (i := 17) (v := ?_) rfl (by kernel_rfl) (by kernel_rfl) (by kernel_rfl) (fun _ _ _ h => h) (Or.inl ⟨by rfl, fun w hSw => ?_⟩) hHeld ?_
        rotate_left
        · ((try dsimp only at hSw); go_split_ands; go_simp; (try with_reducible rfl))
        try simp only [Act.put, List.getElem_toArray, List.getElem_cons_zero, List.getElem_cons_succ, List.setIfInBounds_toArray, List.set_cons_zero, List.set_cons_succ]
        refine wpAnyH_ready (rs := [9]) (by kernel_rfl) (by simp) ?_
        refine AllReadyH.cons rfl (fun K hK => ?_) AllReadyH.nil
        try simp only [List.getElem_toArray, List.getElem_cons_zero, List.getElem_cons_succ]
        (go_simp; refine (IH.out body hbs.out A8 c8 d lo hi _ _ (by have := hD.out; push_cast at this; omega) (gB.out.below bel) s3 s5.out hbz.out (by omega)).mono ?_; rintro e w8 ⟨rfl, hBx⟩; rw [← hx1.out]; replace hB := bgo hB.drew hBx; replace gE := Lib.hid ((gE.out.below (Below.refl _ _).drew).below hBx); replace p8 := (hBx.cell (p := ⟨bl, o + j * 10 + 8, none⟩) hlt8).trans p8; replace p9 := (hBx.cell (p := ⟨bl, o + j * 10 + 9, none⟩) hlt8).trans p9; clear hBx hlt8; have hlt8 := block_lt_of_cell p8)
        refine hK.out _ _ (⟨p8, p9⟩) (fun hHeldN => ?_)
        clear hHeld hK K
        have hHeld := hHeldN
        clear hHeldN
        try simp only [Act.put, List.getElem_toArray, List.getElem_cons_zero, List.getElem_cons_succ, List.setIfInBounds_toArray, List.set_cons_zero, List.set_cons_succ]
        refine wpAnyH_take (i := 10) (v := ?_) rfl (by kernel_rfl) (by kernel_rfl) (by kernel_rfl) (fun _ _ _ h => h) (Or.inl ⟨by rfl, fun w hSw => ?_⟩) hHeld ?_
        rotate_left
        · ((try dsimp only at hSw); go_split_ands; go_simp; (try with_reducible rfl))
        try simp only [Act.put, List.getElem_toArray, List.getElem_cons_zero, List.getElem_cons_succ, List.setIfInBounds_toArray, List.set_cons_zero, List.set_cons_succ]
        refine wpAnyH_ready (rs := [18]) (by kernel_rfl) (by simp) ?_
        refine AllReadyH.cons rfl (fun K hK => ?_) AllReadyH.nil
        try simp only [List.getElem_toArray, List.getElem_cons_zero, List.getElem_cons_succ]
        (go_simp; refine (IH.out els hes.out A9 c9 d lo hi _ _ (by have := hD.out; push_cast at this; omega) gE.out s4 s6.out hez.out (by omega)).mono ?_; rintro e w9 ⟨rfl, hBx⟩; rw [← hx2.out]; replace hB := bgo hB hBx; replace p8 := (hBx.cell (p := ⟨bl, o + j * 10 + 8, none⟩) hlt8).trans p8; replace p9 := (hBx.cell (p := ⟨bl, o + j * 10 + 9, none⟩) hlt8).trans p9; clear hBx hlt8)
        refine hK.out _ _ (⟨p8, p9⟩) (fun hHeldN => ?_)
        clear hHeld hK K
        have hHeld := hHeldN
        clear hHeldN
        try simp only [Act.put, List.getElem_toArray, List.getElem_cons_zero, List.getElem_cons_succ, List.setIfInBounds_toArray, List.set_cons_zero, List.set_cons_succ]
        refine wpAnyH_take (i := 19) (v := ?_) rfl (by kernel_rfl) (by kernel_rfl) (by kernel_rfl) (fun _ _ _ h => h) (Or.inl ⟨by rfl, fun w hSw => ?_⟩) hHeld ?_
        rotate_left
        · ((try dsimp only at hSw); go_split_ands; go_simp; (try with_reducible rfl))
        try simp only [Act.put, List.getElem_toArray, List.getElem_cons_zero, List.getElem_cons_succ, List.setIfInBounds_toArray, List.set_cons_zero, List.set_cons_succ]
        refine wpAnyH_take (i := 20) (v := ?_) rfl (by kernel_rfl) (by kernel_rfl) (by kernel_rfl) (fun _ _ _ h => h) (Or.inl ⟨by rfl, fun w hSw => ?_⟩) hHeld ?_
        rotate_left
        · ((try dsimp only at hSw); go_split_ands; go_simp; (try with_reducible rfl))
        try simp only [Act.put, List.getElem_toArray, List.getElem_cons_zero, List.getElem_cons_succ, List.setIfInBounds_toArray, List.set_cons_zero, List.set_cons_succ]
        refine wpAnyH_done (by kernel_rfl) ?_ _
        refine NoPanic.normal ?_
        clear p8 p9 i1 i2 i3 i4
        go_wp2_with fail
        go_round
        case rel => exact ⟨j + 1, m + x1 + x2 + 1, by omega, by go_num, by push_cast; congr 1; omega, by omega, Lib.hid (by have := HR'.out; omega), hB⟩
        case measure => simp [intOf]; omega
      · go_wp2_with fail
        go_ret
        obtain rfl : j = n := by omega
        have e1 : L.drop j = .nil := by rw [hn.out]; exact Cms.drop_all L
        have h2 := HR.out
        rw [e1] at h2
        exact ⟨by rw [h2]; rfl, hB⟩

--@ spec.ProgramValid
set_option maxHeartbeats 1600000 in
theorem c_spec_ProgramValid {lo hi : Nat} (L : Cms) (A : Option Addr) (c : Nat) (w : World) (hV : CmsV w lo hi A L) (hlen : L.len ≤ 1049600) (hsm : L.small 1049600) (hz : L.sz ≤ 1049600) :
    Calls Try.prog 74 #[.slice A L.len c] w fun e w' => e = .returned (.bool L.prog) ∧ Below w.heap.size w w' := by
  obtain ⟨R, hR⟩ : ∃ R, R = L.prog := ⟨_, rfl⟩
  obtain ⟨x, hx⟩ : ∃ x, x = L.shape 4 := ⟨_, rfl⟩
  rw [← hR]
  rw [Cms.prog, ← hx] at hR
  have hc : x = true → L.count 4 = L.sz := fun h => Cms.count_shape (by rw [← hx]; exact h)
  replace hc := Lib.hid hc
  replace hR := Lib.hid hR
  replace hx := Lib.hid hx
  replace hV := Lib.hid hV
  replace hsm := Lib.hid hsm
  go_enter Try.func74, Try.ntmps74
  go_wp2_with fail
  refine (l8Shape_go _ L (Nat.lt_succ_self _) A c 4 lo hi w hV.out hlen hsm.out (by omega)).mono ?_
  rintro e w1 ⟨rfl, hB1⟩
  rw [← hx.out]
  cases x
  · go_wp2_with fail
    go_ret
    exact ⟨ret_bool (by rw [hR.out]; rfl), hB1⟩
  go_wp2_with fail
  refine (l8Count_go _ L (Nat.lt_succ_self _) A c 4 lo hi 4 w1 rfl (hV.out.below hB1) hlen hsm.out hz (by omega)).mono ?_
  rintro e w2 ⟨rfl, hB2⟩
  rw [hc.out (by simp)]
  have hB := bgo hB1 hB2
  go_wp2_with fail
  go_ret
  exact ⟨ret_bool (by rw [hR.out, Bool.true_and]; simp; omega), hB⟩
--@
end Go.Proofs.Ytcgifoghggajgaa

/- Running programs: spec.RunProgram, RunSteps; the words for the laws. -/
namespace Go.Proofs.Ytcgifoghggajgaa
open Go Go.RowKit Go.Proofs

--@ spec.l9Fits
set_option maxHeartbeats 1600000 in
theorem c_spec_l9Fits {lo hi lo' hi' : Nat} (v : Value) (s : Ste) (A : Option Addr) (c : Nat) (L : Cms) (f : Int) (w : World) (h : StateV w lo hi v s) (hV : CmsV w lo' hi' A L) (hlen : L.len ≤ 1049600) (hsm : L.small 1049600) (hz : L.sz ≤ 1049600) :
    Calls Try.prog 107 #[v, .slice A L.len c, .int .i64 f] w fun e w' => e = .returned (.bool (runsP s L f)) ∧ Below w.heap.size w w' := by
  have hS := Lib.hid h
  obtain ⟨A1, c1, A2, c2, rfl, -, -⟩ := h
  replace hV := Lib.hid hV
  replace hsm := Lib.hid hsm
  obtain ⟨sv, hsv⟩ : ∃ x, x = s.valid := ⟨_, rfl⟩
  obtain ⟨pv, hpv⟩ : ∃ x, x = L.prog := ⟨_, rfl⟩
  obtain ⟨R, hR⟩ : ∃ x, x = runsP s L f := ⟨_, rfl⟩
  rw [← hR]
  have hR' : R = (sv && (pv && decide (0 ≤ f ∧ f ≤ 200))) := by rw [hR, hsv, hpv]; rfl
  replace hsv := Lib.hid hsv
  replace hpv := Lib.hid hpv
  replace hR' := Lib.hid hR'
  clear hR
  go_enter Try.func107, Try.ntmps107
  go_wp2_with fail
  refine (c_spec_StateValid _ s _ (hS.out.below bel)).mono ?_
  rintro e w1 ⟨rfl, hB1⟩
  rw [← hsv.out]
  have hB := bgo (w := w) bel hB1
  clear hB1
  cases sv
  · go_wp2_with fail
    go_ret
    exact ⟨ret_bool (by rw [hR'.out]; rfl), bel⟩
  go_wp2_with fail
  refine (c_spec_ProgramValid L A c _ (hV.out.below hB) hlen hsm.out hz).mono ?_
  rintro e w2 ⟨rfl, hB2⟩
  rw [← hpv.out]
  have hBB := bgo hB hB2
  clear hB2 hB
  cases pv
  · go_wp2_with fail
    go_ret
    exact ⟨ret_bool (by rw [hR'.out]; rfl), bel⟩
  by_cases f0 : 0 ≤ f
  · by_cases f2 : f ≤ 200
    all_goals
      go_wp2_with fail
      go_ret
      exact ⟨ret_bool (by rw [hR'.out]; simp [f0, f2]), bel⟩
  · go_wp2_with fail
    go_ret
    exact ⟨ret_bool (by rw [hR'.out]; simp; omega), bel⟩

--@ spec.RunSteps
set_option maxRecDepth 100000 in
set_option maxHeartbeats 3200000 in
theorem c_spec_RunSteps {lo hi lo' hi' : Nat} (v : Value) (s : Ste) (A : Option Addr) (c : Nat) (L : Cms) (f : Int) (w : World) (h : StateV w lo hi v s) (hV : CmsV w lo' hi' A L) (hlen : L.len ≤ 1049600) (hsm : L.small 1049600) (hz : L.sz ≤ 1049600) :
    Calls Try.prog 44 #[v, .slice A L.len c, .int .i64 f] w fun e w' => e = .returned (.int .i64 (stepsF s L f)) ∧ Below w.heap.size w w' := by
  have hS := Lib.hid h
  obtain ⟨A1, c1, A2, c2, rfl, -, -⟩ := h
  replace hV := Lib.hid hV
  replace hsm := Lib.hid hsm
  cases hr : runsP s L f
  · have E : Hid (stepsF s L f = 0) := by show _ = _; unfold stepsF; rw [hr]; rfl
    replace hr := Lib.hid hr
    go_enter Try.func44, Try.ntmps44
    go_wp2_with fail
    refine (c_spec_l9Fits _ s A c L f _ (hS.out.below bel) (hV.out.below bel) hlen hsm.out hz).mono ?_
    rintro e w1 ⟨rfl, hB1⟩
    rw [hr.out]
    have hB := bgo (w := w) bel hB1
    go_wp2_with fail
    go_ret
    rw [E.out]
    exact ⟨rfl, bel⟩
  obtain ⟨h1, h2, h3, n, rfl, hn⟩ := runsP_yes hr
  have E : Hid (stepsF s L (n : Int) = (n : Int) - ((L.run s n).2.2 : Int)) := by show _ = _; unfold stepsF; rw [hr]; rfl
  have hok := Cms.run_ok L s n h1
  have hrun := l9Run_go _ L (Nat.lt_succ_self _) A c 4 lo' hi' hlen hsm.out h3
  obtain ⟨P, hP⟩ : ∃ P, P = L.run s n := ⟨_, rfl⟩
  rw [← hP] at E hok
  obtain ⟨s2, c2', f2⟩ := P
  simp only at E hok
  obtain ⟨-, k2, k3, k4⟩ := hok
  replace hrun := Lib.hid hrun
  replace hr := Lib.hid hr
  replace h1 := Lib.hid h1
  replace hP := Lib.hid hP
  clear h2 h3
  go_enter Try.func44, Try.ntmps44
  go_wp2_with fail
  refine (c_spec_l9Fits _ s A c L (n : Int) _ (hS.out.below bel) (hV.out.below bel) hlen hsm.out hz).mono ?_
  rintro e w1 ⟨rfl, hB1⟩
  rw [hr.out]
  have hB := bgo (w := w) bel hB1
  have k0 : Blk w1 w.heap.size 58 #[.slice A1 s.values.length c1, .slice A2 s.heap.length c2] := Blk.next blks hB1
  (replace qk0 := k0.cell; replace rk0 := k0.frozen; replace lk0 := k0.lt)
  clear hB1
  go_wp2_with fail
  refine (c_l2Copy _ s _ (hS.out.below hB)).mono ?_
  rintro e w2 ⟨r, rfl, o, hB2⟩
  have hz1 := hB2.size
  replace hB := bgo hB hB2
  clear k0 qk0 rk0 lk0 hB2
  have hl := hrun.out r s n w1.heap.size (n : Int) w2 rfl o hz1 h1.out hn (hV.out.below hB)
  rw [← hP.out] at hl
  obtain ⟨fv, hv, rfl, o1, o2, -⟩ := o
  obtain ⟨F, e1, rfl, -⟩ := o1.reads
  obtain ⟨G, e2, rfl, -⟩ := o2.reads
  simp only at hl
  replace hl := Lib.hid hl
  clear o1 o2 hrun
  go_wp2_with fail
  refine hl.out.mono ?_
  rintro e w3 ⟨r, rfl, o, hB3⟩
  replace hB := bgo hB hB3
  obtain ⟨fv, hv, rfl, o1, o2, -⟩ := o
  obtain ⟨F2, d1, rfl, -⟩ := o1.reads
  obtain ⟨G2, d2, rfl, -⟩ := o2.reads
  clear o1 o2 hl hB3
  go_wp2_with fail
  go_ret
  rw [E.out]
  exact ⟨rfl, bel⟩

--@ spec.RunProgram
set_option maxRecDepth 100000 in
set_option maxHeartbeats 3200000 in
theorem c_spec_RunProgram {lo hi lo' hi' : Nat} (v : Value) (s : Ste) (A : Option Addr) (c : Nat) (L : Cms) (f : Int) (w : World) (h : StateV w lo hi v s) (hV : CmsV w lo' hi' A L) (hlen : L.len ≤ 1049600) (hsm : L.small 1049600) (hz : L.sz ≤ 1049600) :
    Calls Try.prog 48 #[v, .slice A L.len c, .int .i64 f] w fun e w' => ∃ r, e = .returned (.tuple #[r, .int .i64 (codeF s L f)]) ∧ StateO w' w.heap.size r (afterF s L f) ∧ Below w.heap.size w w' := by
  have hS := Lib.hid h
  obtain ⟨A1, c1, A2, c2, rfl, -, -⟩ := h
  replace hV := Lib.hid hV
  replace hsm := Lib.hid hsm
  obtain ⟨k0, k1⟩ := blk2 w 58 58 #[.slice A1 s.values.length c1, .slice A2 s.heap.length c2] #[.slice none 0 0, .slice none 0 0]
  cases hr : runsP s L f
  · have E : Hid (codeF s L f = 4) := by show _ = _; unfold codeF; rw [hr]; rfl
    have E2 : Hid (afterF s L f = ⟨[], []⟩) := by show _ = _; unfold afterF; rw [E.out]; rfl
    replace hr := Lib.hid hr
    go_enter Try.func48, Try.ntmps48
    go_wp2_with fail
    refine (c_spec_l9Fits _ s A c L f _ (hS.out.below bel) (hV.out.below bel) hlen hsm.out hz).mono ?_
    rintro e w1 ⟨rfl, hB1⟩
    rw [hr.out]
    have hB := bgo (w := w) bel hB1
    (replace k0 := k0.next hB1; replace qk0 := k0.cell; replace rk0 := k0.frozen; replace lk0 := k0.lt; replace k1 := k1.next hB1; replace qk1 := k1.cell; replace rk1 := k1.frozen; replace lk1 := k1.lt)
    clear hB1
    go_wp2_with fail
    refine bodyPost_ret (v := .tuple #[.agg #[.slice none 0 0, .slice none 0 0], .int .i64 4]) (by simp [results, Try.results48, go_sem, qk1, lk1]) rfl ⟨_, by rw [E.out], ?_, bel⟩
    rw [E2.out]
    exact zeroO _
  obtain ⟨h1, h2, h3, n, rfl, hn⟩ := runsP_yes hr
  have E : Hid (codeF s L (n : Int) = (L.run s n).2.1) := by show _ = _; unfold codeF; rw [hr]; rfl
  have E2 : Hid (afterF s L (n : Int) = resS (L.run s n)) := by show _ = _; unfold afterF; rw [E.out]; rfl
  have hrun := l9Run_go _ L (Nat.lt_succ_self _) A c 4 lo' hi' hlen hsm.out h3
  obtain ⟨P, hP⟩ : ∃ P, P = L.run s n := ⟨_, rfl⟩
  rw [← hP] at E E2
  obtain ⟨c2', hc2⟩ : ∃ x, x = P.2.1 := ⟨_, rfl⟩
  obtain ⟨f2, hf2⟩ : ∃ x, x = P.2.2 := ⟨_, rfl⟩
  obtain ⟨s2, hs2⟩ : ∃ x, x = resS P := ⟨_, rfl⟩
  rw [← hc2] at E
  rw [← hs2] at E2
  replace hrun := Lib.hid hrun
  replace hr := Lib.hid hr
  replace h1 := Lib.hid h1
  replace hP := Lib.hid hP
  replace hc2 := Lib.hid hc2
  replace hf2 := Lib.hid hf2
  replace hs2 := Lib.hid hs2
  clear h2 h3
  go_enter Try.func48, Try.ntmps48
  go_wp2_with fail
  refine (c_spec_l9Fits _ s A c L (n : Int) _ (hS.out.below bel) (hV.out.below bel) hlen hsm.out hz).mono ?_
  rintro e w1 ⟨rfl, hB1⟩
  rw [hr.out]
  have hB := bgo (w := w) bel hB1
  (replace k0 := k0.next hB1; replace qk0 := k0.cell; replace rk0 := k0.frozen; replace lk0 := k0.lt; replace k1 := k1.next hB1; replace qk1 := k1.cell; replace rk1 := k1.frozen; replace lk1 := k1.lt)
  clear hB1
  go_wp2_with fail
  refine (c_l2Copy _ s _ (hS.out.below hB)).mono ?_
  rintro e w2 ⟨r, rfl, o, hB2⟩
  have hz0 := hB.size
  have hz1 := hB2.size
  (replace hB := bgo hB hB2; replace k0 := k0.next hB2; replace qk0 := k0.cell; replace rk0 := k0.frozen; replace lk0 := k0.lt; replace k1 := k1.next hB2; replace qk1 := k1.cell; replace rk1 := k1.frozen; replace lk1 := k1.lt)
  clear hB2
  have hl := hrun.out r s n w1.heap.size (n : Int) w2 rfl o hz1 h1.out hn (hV.out.below hB)
  rw [← hP.out, ← hc2.out, ← hf2.out, ← hs2.out] at hl
  obtain ⟨fv, hv, rfl, o1, o2, -⟩ := o
  obtain ⟨F, e1, rfl, -⟩ := o1.reads
  obtain ⟨G, e2, rfl, -⟩ := o2.reads
  replace hl := Lib.hid hl
  clear o1 o2 hrun
  go_wp2_with fail
  refine hl.out.mono ?_
  rintro e w3 ⟨r, rfl, o, hB3⟩
  (replace hB := bgo hB hB3; replace k0 := k0.next hB3; replace qk0 := k0.cell; replace rk0 := k0.frozen; replace lk0 := k0.lt; replace k1 := k1.next hB3; replace qk1 := k1.cell; replace rk1 := k1.frozen; replace lk1 := k1.lt)
  clear hB3
  obtain ⟨fv, hv, rfl, o1, o2, dj⟩ := o
  obtain ⟨F2, d1, rfl, -⟩ := o1.reads
  obtain ⟨G2, d2, rfl, -⟩ := o2.reads
  replace o1 := Lib.hid (o1.lower (base' := w.heap.size) hz0)
  replace o2 := Lib.hid (o2.lower (base' := w.heap.size) hz0)
  replace dj := Lib.hid dj
  have KB := Lib.hid k1
  clear hl
  go_wp2_with fail
  refine bodyPost_ret (v := .tuple #[.agg #[.slice F2 s2.values.length d1, .slice G2 s2.heap.length d2], .int .i64 c2']) (by simp [results, Try.results48, go_sem, qk1, lk1]) rfl ⟨_, by rw [E.out], ?_, ?_⟩
  · rw [E2.out]
    exact ⟨_, _, rfl, ((o1.out.setT KB.out (by decide) 0 _).setT (KB.out.set_ 0 _) (by decide) 1 _).below (bbox (Below.refl _ _) _), ((o2.out.setT KB.out (by decide) 0 _).setT (KB.out.set_ 0 _) (by decide) 1 _).below (bbox (Below.refl _ _) _), dj.out⟩
  · exact bbox ((hB.setCell (p := ⟨w.heap.size + 1, 0, none⟩) (by simp) _).setCell (p := ⟨w.heap.size + 1, 1, none⟩) (by simp) _) _
--@ impl.RunSteps
theorem k_impl_RunSteps {lo hi lo' : Nat} (v : Value) (s : Ste) (A : Option Addr) (c : Nat) (L : Cms) (f : Int) (w : World) (h : StateV w lo hi v s) (hV : CmsW w lo' w.heap.size A L) : Calls Try.prog 46 #[v, .slice A L.len c, .int .i64 f] w fun e w' => e = .returned (.int .i64 (stepsF s L f)) ∧ Below w.heap.size w w' :=
  c_impl_RunSteps v s A c L f w h hV.1 (Nat.le_refl _) hV.len hV.small
--@ spec.RunSteps
theorem k_spec_RunSteps {lo hi lo' : Nat} (v : Value) (s : Ste) (A : Option Addr) (c : Nat) (L : Cms) (f : Int) (w : World) (h : StateV w lo hi v s) (hV : CmsW w lo' w.heap.size A L) : Calls Try.prog 44 #[v, .slice A L.len c, .int .i64 f] w fun e w' => e = .returned (.int .i64 (stepsF s L f)) ∧ Below w.heap.size w w' :=
  c_spec_RunSteps v s A c L f w h hV.1 hV.len hV.small hV.sz
--@ impl.RunProgram
theorem k_impl_RunProgram {lo hi lo' : Nat} (v : Value) (s : Ste) (A : Option Addr) (c : Nat) (L : Cms) (f : Int) (w : World) (h : StateV w lo hi v s) (hV : CmsW w lo' w.heap.size A L) : Calls Try.prog 49 #[v, .slice A L.len c, .int .i64 f] w fun e w' => ∃ r, e = .returned (.tuple #[r, .int .i64 (codeF s L f)]) ∧ StateO w' w.heap.size r (afterF s L f) ∧ Below w.heap.size w w' :=
  c_impl_RunProgram v s A c L f w h hV.1 (Nat.le_refl _) hV.len hV.small
--@ spec.RunProgram
theorem k_spec_RunProgram {lo hi lo' : Nat} (v : Value) (s : Ste) (A : Option Addr) (c : Nat) (L : Cms) (f : Int) (w : World) (h : StateV w lo hi v s) (hV : CmsW w lo' w.heap.size A L) : Calls Try.prog 48 #[v, .slice A L.len c, .int .i64 f] w fun e w' => ∃ r, e = .returned (.tuple #[r, .int .i64 (codeF s L f)]) ∧ StateO w' w.heap.size r (afterF s L f) ∧ Below w.heap.size w w' :=
  c_spec_RunProgram v s A c L f w h hV.1 hV.len hV.small hV.sz
--@
end Go.Proofs.Ytcgifoghggajgaa
