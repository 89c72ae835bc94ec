/- What the reader draws: valid states. -/
import Derived.Test.YtmjgcdolnkdfoaaMCaseP
set_option linter.unusedSimpArgs false
set_option linter.unusedVariables false
namespace Go.Proofs.Ytmjgcdolnkdfoaa
open Go Go.RowKit Go.Proofs

theorem StateO.fr {w w' : World} {g base : Nat} {v : Value} {s : Ste} (h : StateO w base v s) (hf : Fr g w w') (hg : g < base) : StateO w' base v s := by
  obtain ⟨fv, av, e, h1, h2, h3⟩ := h
  exact ⟨fv, av, e, h1.fr hf hg, h2.fr hf hg, h3⟩

--@ spec.l2Draw
set_option maxRecDepth 100000 in
set_option maxHeartbeats 6400000 in
theorem c_l2Draw (g p : Nat) (w : World) (h : Rdr w g p) (hp : p ≤ 999900) :
    Calls Try.prog 248 #[.pointer (some ⟨g, 0, none⟩)] w fun e w' => ∃ r s q, e = .returned r ∧ StateO w' w.heap.size r s ∧ s.valid = true ∧ Rdr w' g q ∧ q ≤ p + 40 ∧ Fr g w w' := by
  have H := Lib.hid h
  have hlt := h.lt
  clear h
  go_enter Try.func248, Try.ntmps248
  have kr : Blk (w.alloc (.cells #[.slice none 0 0, .slice none 0 0] tSt)) w.heap.size tSt #[.slice none 0 0, .slice none 0 0] := blks
  go_wp2_with fail
  refine (c_l2Blank _).mono ?_
  rintro e w1 ⟨r1, rfl, o1, hB1⟩
  have hsz1 := hB1.size
  rw [World.size_alloc] at hsz1
  have hB := bgo (w := w) bel hB1
  replace kr := kr.next hB1
  replace o1 := o1.lower (base' := w.heap.size) (by simp)
  obtain ⟨fv, av, rfl, ov, oh, dj⟩ := o1
  obtain ⟨A, c, rfl, -⟩ := ov.reads
  obtain ⟨B, d, rfl, -⟩ := oh.reads
  simp only [blankS, List.length_replicate] at dj ov oh ⊢
  have DJ := Lib.hid dj
  clear dj
  have kx : Blk (w1.alloc (.cells #[.slice A 8 c, .slice B 8 d] tSt)) w1.heap.size tSt #[.slice A 8 c, .slice B 8 d] := Blk.new _ _ _
  have HF1 : Hid (Fr g w (w1.alloc (.cells #[.slice A 8 c, .slice B 8 d] tSt))) := (Fr.ofBelow hB).alloc _
  have HR1 : Hid (Rdr (w1.alloc (.cells #[.slice A 8 c, .slice B 8 d] tSt)) g p) := (H.out.below hB).below (bbox (Below.refl _ _) _)
  have ov1 := ov.below (bbox (Below.refl _ _) (.cells #[.slice A 8 c, .slice B 8 d] tSt))
  have oh1 := oh.below (bbox (Below.refl _ _) (.cells #[.slice A 8 c, .slice B 8 d] tSt))
  replace kr := kr.alloc (.cells #[.slice A 8 c, .slice B 8 d] tSt)
  have lr := kr.lt
  clear hB1 hB ov oh H
  go_wp2_with fail
  go_loopw [4] (fun i wr => ∃ (k : Nat) (vs : List Int) (q : Nat), k ≤ 8 ∧ i = .int .i64 k ∧ Hid (vs.length = 8 ∧ vs.all valB = true) ∧ IntsO wr w.heap.size (.slice A 8 c) vs ∧ IntsO wr w.heap.size (.slice B 8 d) (List.replicate 8 (-1)) ∧ Blk wr w.heap.size tSt #[.slice none 0 0, .slice none 0 0] ∧ Blk wr w1.heap.size tSt #[.slice A 8 c, .slice B 8 d] ∧ Hid (Rdr wr g q) ∧ q ≤ p + k ∧ Hid (Fr g w wr)) (fun i _ => 8 - (intOf i).toNat)
  case atStart => exact ⟨0, List.replicate 8 0, p, by omega, rfl, ⟨by simp, by decide⟩, ov1, oh1, kr, kx, HR1.out, by omega, HF1.out⟩
  case round =>
    clear kr kx HF1 HR1 ov1 oh1
    obtain ⟨k, vs, q, hk, rfl, HV, hO, hP, kr, kx, HR, hq, HF⟩ := hrel
    have HO := Lib.hid hO
    have HP := Lib.hid hP
    have hsz := HF.out.size
    have lx := kx.lt
    clear hO hP
    by_cases hlt8 : k < 8
    · have hki : (k : Int) < 8 := by omega
      obtain ⟨gv, cur0, -, hA, hgv, -, -, -⟩ := HO.out.cell_ (k := k) (by have := HV.out.1; omega)
      subst hA
      go_wp2_with fail
      refine wp_region_noPanic ?_
      refine wp_region_held_drew (S := (fun w' => ∀ i, w'.cell? ⟨w1.heap.size, i, none⟩ = #[.slice (some ⟨gv, 0, none⟩) 8 c, .slice B 8 d][i]?)) (by kernel_rfl) (Blk.cell blks) (fun hHeld => ?_)
      refine wpAnyH_take (i := 0) (v := ?_) rfl (by kernel_rfl) (by kernel_rfl) (by kernel_rfl) (fun _ _ _ h => h) (Or.inl ⟨by rfl, fun w hSw => ?_⟩) hHeld ?_
      rotate_left
      · ((try dsimp only at hSw); go_split_ands; go_simp; (try with_reducible rfl))
      try simp only [Act.put, List.getElem_toArray, List.getElem_cons_zero, List.getElem_cons_succ, List.setIfInBounds_toArray, List.set_cons_zero, List.set_cons_succ]
      refine wpAnyH_take (i := 1) (v := ?_) rfl (by kernel_rfl) (by kernel_rfl) (by kernel_rfl) (fun _ _ _ h => h) (Or.inl ⟨by rfl, fun w hSw => ?_⟩) hHeld ?_
      rotate_left
      · ((try dsimp only at hSw); go_split_ands; go_simp; (try with_reducible rfl))
      try simp only [Act.put, List.getElem_toArray, List.getElem_cons_zero, List.getElem_cons_succ, List.setIfInBounds_toArray, List.set_cons_zero, List.set_cons_succ]
      refine wpAnyH_take (i := 2) (v := ?_) rfl (by kernel_rfl) (by kernel_rfl) (by kernel_rfl) (fun _ _ _ h => h) (Or.inl ⟨by rfl, fun w hSw => ?_⟩) hHeld ?_
      rotate_left
      · ((try dsimp only at hSw); go_split_ands; go_simp; (try with_reducible rfl))
      try simp only [Act.put, List.getElem_toArray, List.getElem_cons_zero, List.getElem_cons_succ, List.setIfInBounds_toArray, List.set_cons_zero, List.set_cons_succ]
      refine wpAnyH_take (i := 3) (v := ?_) rfl (by kernel_rfl) (by kernel_rfl) (by kernel_rfl) (fun _ _ _ h => h) (Or.inl ⟨by rfl, fun w hSw => ?_⟩) hHeld ?_
      rotate_left
      · ((try dsimp only at hSw); go_split_ands; go_simp; (try with_reducible rfl))
      try simp only [Act.put, List.getElem_toArray, List.getElem_cons_zero, List.getElem_cons_succ, List.setIfInBounds_toArray, List.set_cons_zero, List.set_cons_succ]
      refine wpAnyH_ready (rs := [4]) (by kernel_rfl) (by simp) ?_
      refine AllReadyH.cons rfl (fun K hK => ?_) AllReadyH.nil
      try simp only [List.getElem_toArray, List.getElem_cons_zero, List.getElem_cons_succ]
      go_simp
      refine hK.out _ _ (Blk.cell blks) (fun hHeldN => ?_)
      clear hHeld hK K
      have hHeld := hHeldN
      clear hHeldN
      try simp only [Act.put, List.getElem_toArray, List.getElem_cons_zero, List.getElem_cons_succ, List.setIfInBounds_toArray, List.set_cons_zero, List.set_cons_succ]
      refine wpAnyH_ready (rs := [5]) (by kernel_rfl) (by simp) ?_
      refine AllReadyH.cons rfl (fun K hK => ?_) AllReadyH.nil
      try simp only [List.getElem_toArray, List.getElem_cons_zero, List.getElem_cons_succ]
      (go_simp; refine (c_numL g q [1, 2, 0, 3, 4, 1, 5] _ _ _ _ (HR.out.below bel) (by omega) blks (by rfl) (by first | (have := HR.out.lt; omega) | (have := HR.out.lt; simp; omega)) (by rfl) (by decide) (by decide)).mono ?_; rintro e w4 ⟨m, hm, rfl, hR, hF⟩; have kx4 := Blk.fr (a := wr.drew.alloc (.cells #[.int .i64 1, .int .i64 2, .int .i64 0, .int .i64 3, .int .i64 4, .int .i64 1, .int .i64 5] tI)) blks hF (show w1.heap.size ≠ g by omega); have kr4 : Blk w4 w.heap.size tSt #[.slice none 0 0, .slice none 0 0] := Blk.fr (a := wr.drew.alloc (.cells #[.int .i64 1, .int .i64 2, .int .i64 0, .int .i64 3, .int .i64 4, .int .i64 1, .int .i64 5] tI)) blks hF (by omega); have HO4 := Lib.hid ((HO.out.below (w' := wr.drew.alloc (.cells #[.int .i64 1, .int .i64 2, .int .i64 0, .int .i64 3, .int .i64 4, .int .i64 1, .int .i64 5] tI)) bel).fr hF hlt); have HP4 := Lib.hid ((HP.out.below (w' := wr.drew.alloc (.cells #[.int .i64 1, .int .i64 2, .int .i64 0, .int .i64 3, .int .i64 4, .int .i64 1, .int .i64 5] tI)) bel).fr hF hlt); have HR4 := Lib.hid hR; have HF4 := Lib.hid ((HF.out.drew.alloc _).trans hF); have HM := Lib.hid ((by decide : ∀ m ∈ [(1 : Int), 2, 0, 3, 4, 1, 5], valB m = true) m hm); clear hR hF hm)
      refine hK.out _ _ (kx4.cell) (fun hHeldN => ?_)
      clear hHeld hK K
      have hHeld := hHeldN
      clear hHeldN
      try simp only [Act.put, List.getElem_toArray, List.getElem_cons_zero, List.getElem_cons_succ, List.setIfInBounds_toArray, List.set_cons_zero, List.set_cons_succ]
      obtain ⟨gv2, cur, -, hA2, hgv2, kv, hcm, hset⟩ := HO4.out.cell_ (k := k) (by have := HV.out.1; omega)
      injection hA2 with hA2
      injection hA2 with hA2
      subst hA2
      have HSET := Lib.hid (hset m)
      have qv := (kv.cell k).trans hcm
      have rv := kv.frozen
      have hgx : gv ≠ w1.heap.size := Blk.ne_ kv kx4 (by decide)
      have hgr : gv ≠ w.heap.size := Blk.ne_ kv kr4 (by decide)
      clear hset hcm
      refine wpAnyH_take (i := 6) (v := ?_) rfl (by kernel_rfl) (by kernel_rfl) (by kernel_rfl) (fun _ _ _ h => h) (Or.inl ⟨by rfl, fun w hSw => ?_⟩) hHeld ?_
      rotate_left
      · ((try dsimp only at hSw); go_split_ands; go_simp; (try with_reducible rfl))
      try simp only [Act.put, List.getElem_toArray, List.getElem_cons_zero, List.getElem_cons_succ, List.setIfInBounds_toArray, List.set_cons_zero, List.set_cons_succ]
      refine wpAnyH_ready (rs := [7]) (by kernel_rfl) (by simp) ?_
      refine AllReadyH.cons rfl (fun K hK => ?_) AllReadyH.nil
      try simp only [List.getElem_toArray, List.getElem_cons_zero, List.getElem_cons_succ]
      go_simp
      refine hK.out _ _ (Blk.cell blks) (fun hHeldN => ?_)
      clear hHeld hK K
      have hHeld := hHeldN
      clear hHeldN
      try simp only [Act.put, List.getElem_toArray, List.getElem_cons_zero, List.getElem_cons_succ, List.setIfInBounds_toArray, List.set_cons_zero, List.set_cons_succ]
      refine wpAnyH_done (by kernel_rfl) ?_ _
      refine NoPanic.normal ?_
      go_wp2_with fail
      go_round
      case rel => exact ⟨k + 1, vs.set k m, q + 1, by omega, by go_num, ⟨by simpa using HV.out.1, by
          rw [List.all_eq_true]
          intro x hx
          rcases List.mem_or_eq_of_mem_set hx with h | h
          · exact List.all_eq_true.1 HV.out.2 x h
          · rw [h]; exact HM.out⟩, HSET.out, HP4.out.set_ne (q := ⟨gv, k, none⟩) (fun e => DJ.out gv rfl e) _, kr4.far (by simp only; omega) _, kx4.far (by simp only; omega) _, HR4.out.set_ (by simp only; omega) _, by omega, HF4.out.set_ (Or.inr (by simp only; omega)) _⟩
      case measure => simp [intOf]; omega
    · obtain rfl : k = 8 := by omega
      go_wp2_with fail
      refine (c_numL g q [3, 4, 2, 5, 1, 0, 8] _ _ _ _ (HR.out.below bel) (by omega) blks (by rfl) (by have := HR.out.lt; omega) (by rfl) (by decide) (by decide)).mono ?_
      rintro e w2 ⟨m, hm, rfl, hR, hF⟩
      replace kr := (kr.alloc (.cells #[.int .i64 3, .int .i64 4, .int .i64 2, .int .i64 5, .int .i64 1, .int .i64 0, .int .i64 8] tI)).fr hF (by omega)
      replace kx := (kx.alloc (.cells #[.int .i64 3, .int .i64 4, .int .i64 2, .int .i64 5, .int .i64 1, .int .i64 0, .int .i64 8] tI)).fr hF (by omega)
      have HF2 : Hid (Fr g w w2) := (HF.out.alloc _).trans hF
      have hO2 := (HO.out.below (bbox (Below.refl _ _) (.cells #[.int .i64 3, .int .i64 4, .int .i64 2, .int .i64 5, .int .i64 1, .int .i64 0, .int .i64 8] tI))).fr hF hlt
      have hP2 := (HP.out.below (bbox (Below.refl _ _) (.cells #[.int .i64 3, .int .i64 4, .int .i64 2, .int .i64 5, .int .i64 1, .int .i64 0, .int .i64 8] tI))).fr hF hlt
      obtain ⟨k1, rfl⟩ := Int.eq_ofNat_of_zero_le ((by decide : ∀ m ∈ [(3 : Int), 4, 2, 5, 1, 0, 8], 0 ≤ m) m hm)
      have hk8 : k1 ≤ 8 := by have := (by decide : ∀ m ∈ [(3 : Int), 4, 2, 5, 1, 0, 8], m ≤ 8) _ hm; omega
      have HR2 := Lib.hid hR
      clear hm hR hF HF HR HO HP lx
      go_wp2_with fail
      go_loopw [5] (fun i wx => ∃ (k : Nat) (hs : List Int) (q' : Nat), i = .int .i64 k ∧ k ≤ 8 ∧ Hid (hs.length = 8 ∧ hs.all cellB = true) ∧ IntsO wx w.heap.size (.slice A 8 c) vs ∧ IntsO wx w.heap.size (.slice B 8 d) hs ∧ Blk wx w.heap.size tSt #[.slice none 0 0, .slice none 0 0] ∧ Blk wx w1.heap.size tSt #[.slice A 8 c, .slice B 8 d] ∧ Hid (Rdr wx g q') ∧ q' + 2 * k ≤ p + 30 ∧ Hid (Fr g w wx)) (fun i _ => (intOf i).toNat)
      case atStart => exact ⟨k1, List.replicate 8 (-1), q + 1, rfl, hk8, ⟨by simp, by decide⟩, hO2, hP2, kr, kx, HR2.out, by omega, HF2.out⟩
      case round =>
        clear kr kx HF2 HR2 hO2 hP2 hk8
        obtain ⟨k, hs, q', rfl, hk, HH, hO, hP, kr, kx, HR, hq', HF⟩ := hrel
        have HO := Lib.hid hO
        have HP := Lib.hid hP
        have hsz := HF.out.size
        have lx := kx.lt
        have lr := kr.lt
        clear hO hP
        by_cases hk0 : 0 < k
        · have hki : (0 : Int) < (k : Int) := by omega
          obtain ⟨gv, cur0, -, hA, hgv, -, -, -⟩ := HP.out.cell_ (k := 0) (by have := HH.out.1; omega)
          subst hA
          go_wp2_with fail
          refine wp_region_noPanic ?_
          refine wp_region_held_drew (S := (fun w' => ∀ i, w'.cell? ⟨w1.heap.size, i, none⟩ = #[.slice A 8 c, .slice (some ⟨gv, 0, none⟩) 8 d][i]?)) (by kernel_rfl) (Blk.cell blks) (fun hHeld => ?_)
          refine wpAnyH_take (i := 0) (v := ?_) rfl (by kernel_rfl) (by kernel_rfl) (by kernel_rfl) (fun _ _ _ h => h) (Or.inl ⟨by rfl, fun w hSw => ?_⟩) hHeld ?_
          rotate_left
          · ((try dsimp only at hSw); go_split_ands; go_simp; (try with_reducible rfl))
          try simp only [Act.put, List.getElem_toArray, List.getElem_cons_zero, List.getElem_cons_succ, List.setIfInBounds_toArray, List.set_cons_zero, List.set_cons_succ]
          refine wpAnyH_take (i := 1) (v := ?_) rfl (by kernel_rfl) (by kernel_rfl) (by kernel_rfl) (fun _ _ _ h => h) (Or.inl ⟨by rfl, fun w hSw => ?_⟩) hHeld ?_
          rotate_left
          · ((try dsimp only at hSw); go_split_ands; go_simp; (try with_reducible rfl))
          try simp only [Act.put, List.getElem_toArray, List.getElem_cons_zero, List.getElem_cons_succ, List.setIfInBounds_toArray, List.set_cons_zero, List.set_cons_succ]
          refine wpAnyH_take (i := 2) (v := ?_) rfl (by kernel_rfl) (by kernel_rfl) (by kernel_rfl) (fun _ _ _ h => h) (Or.inl ⟨by rfl, fun w hSw => ?_⟩) hHeld ?_
          rotate_left
          · ((try dsimp only at hSw); go_split_ands; go_simp; (try with_reducible rfl))
          try simp only [Act.put, List.getElem_toArray, List.getElem_cons_zero, List.getElem_cons_succ, List.setIfInBounds_toArray, List.set_cons_zero, List.set_cons_succ]
          refine wpAnyH_take (i := 4) (v := ?_) rfl (by kernel_rfl) (by kernel_rfl) (by kernel_rfl) (fun _ _ _ h => h) (Or.inl ⟨by rfl, fun w hSw => ?_⟩) hHeld ?_
          rotate_left
          · ((try dsimp only at hSw); go_split_ands; go_simp; (try with_reducible rfl))
          try simp only [Act.put, List.getElem_toArray, List.getElem_cons_zero, List.getElem_cons_succ, List.setIfInBounds_toArray, List.set_cons_zero, List.set_cons_succ]
          refine wpAnyH_par [3, 5, 6] #[true, true, true, true, true, true, true, false, false] 3 (by kernel_rfl) hHeld
            (fun a0 D a w' => Fr g wr w' ∧ (∃ qq, Rdr w' g qq ∧ qq ≤ q' + (dn D 3).toNat + (dn D 6).toNat) ∧ ∃ v28 v30 v31, a = (((a0.put (some 28) v28).put (some 30) v30).put (some 31) v31) ∧
              (dn D 3 = true → ∃ m : Nat, (m = 0 ∨ (m : Int) < 8) ∧ v28 = .int .i64 (m : Int)) ∧
              (dn D 5 = true → ∃ x, v30 = .slice (some ⟨x, 0, none⟩) 6 6 ∧ g < x ∧ Blk w' x tI #[.int .i64 0, .int .i64 2, .int .i64 3, .int .i64 1, .int .i64 4, .int .i64 5]) ∧
              (dn D 6 = true → ∃ m, m ∈ [(0 : Int), 2, 3, 1, 4, 5] ∧ v31 = .int .i64 m)) ?start ?steps ?fin
          case start =>
            refine ⟨(Fr.refl g wr).drew, ⟨q', HR.out.below bel, by omega⟩, u28, u30, u31, rfl, ?_, ?_, ?_⟩
            all_goals exact fun h => absurd h (by decide)
          case steps =>
            refine ParSteps.cons rfl (fun D a w' hu hd hI hS K' hK G hG => ?_) (ParSteps.cons rfl (fun D a w' hu hd hI hS K' hK G hG => ?_) (ParSteps.cons rfl (fun D a w' hu hd hI hS K' hK G hG => ?_) (ParSteps.nil)))
            · obtain ⟨hF, ⟨qq, hR, hqq⟩, v28, v30, v31, ha, h3, h5, h6⟩ := hI
              rw [ha] at hG
              clear ha a
              replace hqq := Lib.hid hqq
              replace hR := Lib.hid hR
              replace hF := Lib.hid hF
              replace hS := Lib.hid hS
              replace h3 := Lib.hid h3
              replace h5 := Lib.hid h5
              replace h6 := Lib.hid h6
              refine hG ?_
              clear hG
              try simp only [Act.put, List.setIfInBounds_toArray, List.set_cons_zero, List.set_cons_succ]
              go_simp
              refine (c_pick g qq 8 _ hR.out (by have := hqq.out; have := Bool.toNat_le (dn D 3); have := Bool.toNat_le (dn D 6); omega)).mono ?_
              rintro e w2 ⟨m, rfl, hmb, hR2, hF2⟩
              have hF3 := hF.out.trans hF2
              exact hK.out _ _ (fun i => (kx.fr hF3 (by omega)).cell i) ⟨hF3, ⟨qq + 1, hR2, (by have z := hqq.out; rw [dn_un hu] at z; rw [dn_self hu, dn_ne (show 3 ≠ 6 by decide)]; simp only [Bool.toNat_true, Bool.toNat_false] at z ⊢; omega)⟩, (.int .i64 (m : Int)), v30, v31, rfl, fun _ => ⟨m, hmb, rfl⟩, dn_keep (by decide) h5.out (fun ⟨x, e, hx, hb⟩ => ⟨x, e, hx, hb.fr hF2 (by omega)⟩), dn_keep (by decide) h6.out id⟩
            · obtain ⟨hF, ⟨qq, hR, hqq⟩, v28, v30, v31, ha, h3, h5, h6⟩ := hI
              rw [ha] at hG
              clear ha a
              replace hqq := Lib.hid hqq
              replace hR := Lib.hid hR
              replace hF := Lib.hid hF
              replace hS := Lib.hid hS
              replace h3 := Lib.hid h3
              replace h5 := Lib.hid h5
              replace h6 := Lib.hid h6
              refine hG ?_
              clear hG
              try simp only [Act.put, List.setIfInBounds_toArray, List.set_cons_zero, List.set_cons_succ]
              go_simp
              have hF3 := hF.out.alloc (.cells #[.int .i64 0, .int .i64 2, .int .i64 3, .int .i64 1, .int .i64 4, .int .i64 5] tI)
              exact hK.out _ _ (fun i => (kx.fr hF3 (by omega)).cell i) ⟨hF3, ⟨qq, hR.out.below bel, (by rw [dn_ne (show 5 ≠ 3 by decide), dn_ne (show 5 ≠ 6 by decide)]; exact hqq.out)⟩, v28, (.slice (some ⟨w'.heap.size, 0, none⟩) 6 6), v31, rfl, dn_keep (by decide) h3.out id, fun _ => ⟨w'.heap.size, rfl, hR.out.lt, Blk.new _ _ _⟩, dn_keep (by decide) h6.out id⟩
            · obtain ⟨hF, ⟨qq, hR, hqq⟩, v28, v30, v31, ha, h3, h5, h6⟩ := hI
              rw [ha] at hG
              clear ha a
              replace hqq := Lib.hid hqq
              replace hR := Lib.hid hR
              replace hF := Lib.hid hF
              replace hS := Lib.hid hS
              replace h3 := Lib.hid h3
              replace h5 := Lib.hid h5
              replace h6 := Lib.hid h6
              have d5 : dn D 5 = true := hd ⟨5, .data⟩ (by simp) (by decide)
              obtain ⟨x, rfl, hx, hb⟩ := h5.out d5
              clear h5 hd
              refine hG ?_
              clear hG
              try simp only [Act.put, List.setIfInBounds_toArray, List.set_cons_zero, List.set_cons_succ]
              go_simp
              refine (c_numL g qq [(0 : Int), 2, 3, 1, 4, 5] x 6 _ _ hR.out (by have := hqq.out; have := Bool.toNat_le (dn D 3); have := Bool.toNat_le (dn D 6); omega) hb (by rfl) hx (by rfl) (by decide) (by decide)).mono ?_
              rintro e w2 ⟨m, hm, rfl, hR2, hF2⟩
              have hF3 := hF.out.trans hF2
              exact hK.out _ _ (fun i => (kx.fr hF3 (by omega)).cell i) ⟨hF3, ⟨qq + 1, hR2, (by have z := hqq.out; rw [dn_un hu] at z; rw [dn_self hu, dn_ne (show 6 ≠ 3 by decide)]; simp only [Bool.toNat_true, Bool.toNat_false] at z ⊢; omega)⟩, v28, (.slice (some ⟨x, 0, none⟩) 6 6), (.int .i64 m), rfl, dn_keep (by decide) h3.out id, fun _ => ⟨x, rfl, hx, hb.fr hF2 (by omega)⟩, fun _ => ⟨m, hm, rfl⟩⟩
          case fin =>
            rintro a w4 hHeld ⟨hF, ⟨qq, hR, hqq⟩, v28, v30, v31, rfl, h3, h5, h6⟩
            obtain ⟨m3, hm3, rfl⟩ := h3 (by decide)
            obtain ⟨m6, hm6, rfl⟩ := h6 (by decide)
            replace hqq : qq ≤ q' + 2 := hqq
            clear h5
            try simp only [Act.put, List.setIfInBounds_toArray, List.set_cons_zero, List.set_cons_succ]
            have kx4 := kx.fr hF (show w1.heap.size ≠ g by omega)
            have kr4 := kr.fr hF (show w.heap.size ≠ g by omega)
            have HO4 := Lib.hid (HO.out.fr hF hlt)
            have HP4 := Lib.hid (HP.out.fr hF hlt)
            have HR4 := Lib.hid hR
            have HF4 := Lib.hid (HF.out.trans hF)
            have HM := Lib.hid ((by decide : ∀ m ∈ [(0 : Int), 2, 3, 1, 4, 5], cellB m = true) m6 hm6)
            have hm8 : m3 < 8 := by omega
            have hm8i : (m3 : Int) < 8 := by omega
            clear hF hR hm6 hm3 kx kr
            obtain ⟨gv2, cur, -, hA2, hgv2, kv, hcm, hset⟩ := HP4.out.cell_ (k := m3) (by have := HH.out.1; omega)
            injection hA2 with hA2
            injection hA2 with hA2
            subst hA2
            have HSET := Lib.hid (hset m6)
            have qv := (kv.cell m3).trans hcm
            have rv := kv.frozen
            have hgx : gv ≠ w1.heap.size := Blk.ne_ kv kx4 (by decide)
            have hgr : gv ≠ w.heap.size := Blk.ne_ kv kr4 (by decide)
            clear hset hcm
            refine wpAnyH_take (i := 7) (v := ?_) rfl (by kernel_rfl) (by kernel_rfl) (by kernel_rfl) (fun _ _ _ h => h) (Or.inl ⟨by rfl, fun w hSw => ?_⟩) hHeld ?_
            rotate_left
            · ((try dsimp only at hSw); go_split_ands; go_simp; (try with_reducible rfl))
            try simp only [Act.put, List.getElem_toArray, List.getElem_cons_zero, List.getElem_cons_succ, List.setIfInBounds_toArray, List.set_cons_zero, List.set_cons_succ]
            refine wpAnyH_ready (rs := [8]) (by kernel_rfl) (by simp) ?_
            refine AllReadyH.cons rfl (fun K hK => ?_) AllReadyH.nil
            try simp only [List.getElem_toArray, List.getElem_cons_zero, List.getElem_cons_succ]
            go_simp
            refine hK.out _ _ (Blk.cell blks) (fun hHeldN => ?_)
            clear hHeld hK K
            have hHeld := hHeldN
            clear hHeldN
            try simp only [Act.put, List.getElem_toArray, List.getElem_cons_zero, List.getElem_cons_succ, List.setIfInBounds_toArray, List.set_cons_zero, List.set_cons_succ]
            refine wpAnyH_done (by kernel_rfl) ?_ _
            refine NoPanic.normal ?_
            go_wp2_with fail
            go_round
            case rel => exact ⟨k - 1, hs.set m3 m6, qq, by go_num, by omega, ⟨by simpa using HH.out.1, by
                rw [List.all_eq_true]
                intro x hx
                rcases List.mem_or_eq_of_mem_set hx with h | h
                · exact List.all_eq_true.1 HH.out.2 x h
                · rw [h]; exact HM.out⟩, HO4.out.set_ne (q := ⟨gv, m3, none⟩) (fun e => DJ.out gv e rfl) _, HSET.out, kr4.far (by simp only; omega) _, kx4.far (by simp only; omega) _, HR4.out.set_ (by simp only; omega) _, by omega, HF4.out.set_ (Or.inr (by simp only; omega)) _⟩
            case measure => simp [intOf]; omega
        · obtain rfl : k = 0 := by omega
          (replace qkr := kr.cell; replace rkr := kr.frozen; replace lkr := kr.lt; replace qkx := kx.cell; replace rkx := kx.frozen; replace lkx := kx.lt)
          have hne : w.heap.size ≠ w1.heap.size := by omega
          have HVAL : Hid ((⟨vs, hs⟩ : Ste).valid = true) := by
            show _ = _
            simp only [Ste.valid, Bool.and_eq_true, decide_eq_true_eq]
            exact ⟨⟨HV.out.1, HH.out.1⟩, HV.out.2, HH.out.2⟩
          have hvl := HV.out.1
          have hhl := HH.out.1
          go_wp2_with fail
          refine bodyPost_ret (v := .agg #[.slice A 8 c, .slice B 8 d]) (by simp [results, Try.results248, go_sem, qkr]) rfl ⟨_, ⟨vs, hs⟩, q', rfl, ⟨_, _, rfl, ?_, ?_, DJ.out⟩, HVAL.out, ?_, by omega, ?_⟩
          · exact (HO.out.setT kr (by decide) 0 _).setT (kr.set_ 0 _) (by decide) 1 _
          · exact (HP.out.setT kr (by decide) 0 _).setT (kr.set_ 0 _) (by decide) 1 _
          · exact (HR.out.set_ (by simp only; omega) _).set_ (by simp only; omega) _
          · exact (HF.out.set_ (Or.inr (by simp only; omega)) _).set_ (Or.inr (by simp only; omega)) _
end Go.Proofs.Ytmjgcdolnkdfoaa
