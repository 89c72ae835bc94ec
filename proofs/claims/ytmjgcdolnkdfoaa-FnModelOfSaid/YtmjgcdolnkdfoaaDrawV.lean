/- What the reader draws: states, sometimes made invalid. -/
import Derived.Test.YtmjgcdolnkdfoaaDrawU
set_option linter.unusedSimpArgs false
set_option linter.unusedVariables false
namespace Go.Proofs.Ytmjgcdolnkdfoaa
open Go Go.RowKit Go.Proofs

--@ spec.l2Mutate
set_option maxRecDepth 100000 in
set_option maxHeartbeats 6400000 in
theorem c_l2Mutate {lo hi : Nat} (g p : Nat) (v : Value) (s : Ste) (w : World) (h : Rdr w g p) (hp : p ≤ 999900) (hs : StateV w lo hi v s) (hl : s.values.length ≤ 900) (hl2 : s.heap.length ≤ 900) :
    Calls Try.prog 249 #[.pointer (some ⟨g, 0, none⟩), v] w fun e w' => ∃ r s' q, e = .returned r ∧ StateO w' w.heap.size r s' ∧ s'.values.length ≤ 900 ∧ s'.heap.length ≤ 901 ∧ Rdr w' g q ∧ q ≤ p + 4 ∧ Fr g w w' := by
  have H := Lib.hid h
  have hV := Lib.hid hs
  have hlt := h.lt
  obtain ⟨A1, c1, A2, c2, rfl, -, -⟩ := hs
  clear h
  go_enter Try.func249, Try.ntmps249
  have kr : Blk ((w.alloc (.cells #[.slice A1 s.values.length c1, .slice A2 s.heap.length c2] tSt)).alloc (.cells #[.slice none 0 0, .slice none 0 0] tSt)) (w.heap.size + 1) tSt #[.slice none 0 0, .slice none 0 0] := blks
  go_wp2_with fail
  refine (c_l2Copy _ s _ (hV.out.below bel)).mono ?_
  rintro e w1 ⟨r, rfl, o, hB1⟩
  have hB := bgo (w := w) bel hB1
  replace kr := kr.next hB1
  replace o := o.lower (base' := w.heap.size) (by simp; omega)
  obtain ⟨fv, av, rfl, o1, o2, dj⟩ := o
  obtain ⟨A, c, rfl, -⟩ := o1.reads
  obtain ⟨B, d, rfl, -⟩ := o2.reads
  have DJ := Lib.hid dj
  have HF1 : Hid (Fr g w w1) := Fr.ofBelow hB
  have HR1 : Hid (Rdr w1 g p) := H.out.below hB
  have l1 := kr.lt
  have ko : Blk (w1.alloc (.cells #[.slice A s.values.length c, .slice B s.heap.length d] tSt)) w1.heap.size tSt #[.slice A s.values.length c, .slice B s.heap.length d] := Blk.new _ _ _
  have O1 := Lib.hid (o1.below (bbox (Below.refl _ _) (.cells #[.slice A s.values.length c, .slice B s.heap.length d] tSt)))
  have O2 := Lib.hid (o2.below (bbox (Below.refl _ _) (.cells #[.slice A s.values.length c, .slice B s.heap.length d] tSt)))
  clear hB1 hB o1 o2 dj
  go_wp2_with fail
  refine (c_pick g p 50 _ (HR1.out.below bel) (by omega)).mono ?_
  rintro e w2 ⟨m, rfl, -, hR, hF⟩
  replace kr := (kr.alloc (.cells #[.slice A s.values.length c, .slice B s.heap.length d] tSt)).fr hF (by omega)
  replace ko := ko.fr hF (by omega)
  have HF2 := Lib.hid ((HF1.out.alloc _).trans hF)
  have HR2 := Lib.hid hR
  have HO1 := Lib.hid (O1.out.fr hF hlt)
  have HO2 := Lib.hid (O2.out.fr hF hlt)
  have lk := ko.lt
  have hne : w.heap.size + 1 ≠ w1.heap.size := by omega
  clear hR hF HF1 HR1 O1 O2
  (replace qko := ko.cell; replace rko := ko.frozen; replace lko := ko.lt; replace qkr := kr.cell; replace rkr := kr.frozen; replace lkr := kr.lt)
  by_cases hm0 : (m : Int) = 0
  · have t0 : ((m : Int) == 0) = true := by simpa using hm0
    clear hm0
    by_cases hln : 0 < s.values.length
    · have hlni : (0 : Int) < (s.values.length : Int) := by omega
      obtain ⟨gv, cur0, -, hA, hgv, -, -, -⟩ := HO1.out.cell_ (k := 0) hln
      subst hA
      go_wp2_with fail
      refine wp_region_noPanic ?_
      refine wp_region_held_drew (S := (fun w' => ∀ i, w'.cell? ⟨w1.heap.size, i, none⟩ = #[.slice (some ⟨gv, 0, none⟩) s.values.length c, .slice B s.heap.length d][i]?)) (by kernel_rfl) (Blk.cell blks) (fun hHeld => ?_)
      refine wpAnyH_take (i := 0) (v := ?_) rfl (by kernel_rfl) (by kernel_rfl) (by kernel_rfl) (fun _ _ _ h => h) (Or.inl ⟨by rfl, fun w hSw => ?_⟩) hHeld ?_
      rotate_left
      · ((try dsimp only at hSw); go_split_ands; go_simp; (try with_reducible rfl))
      try simp only [Act.put, List.getElem_toArray, List.getElem_cons_zero, List.getElem_cons_succ, List.setIfInBounds_toArray, List.set_cons_zero, List.set_cons_succ]
      refine wpAnyH_take (i := 1) (v := ?_) rfl (by kernel_rfl) (by kernel_rfl) (by kernel_rfl) (fun _ _ _ h => h) (Or.inl ⟨by rfl, fun w hSw => ?_⟩) hHeld ?_
      rotate_left
      · ((try dsimp only at hSw); go_split_ands; go_simp; (try with_reducible rfl))
      try simp only [Act.put, List.getElem_toArray, List.getElem_cons_zero, List.getElem_cons_succ, List.setIfInBounds_toArray, List.set_cons_zero, List.set_cons_succ]
      refine wpAnyH_take (i := 2) (v := ?_) rfl (by kernel_rfl) (by kernel_rfl) (by kernel_rfl) (fun _ _ _ h => h) (Or.inl ⟨by rfl, fun w hSw => ?_⟩) hHeld ?_
      rotate_left
      · ((try dsimp only at hSw); go_split_ands; go_simp; (try with_reducible rfl))
      try simp only [Act.put, List.getElem_toArray, List.getElem_cons_zero, List.getElem_cons_succ, List.setIfInBounds_toArray, List.set_cons_zero, List.set_cons_succ]
      refine wpAnyH_ready (rs := [3]) (by kernel_rfl) (by simp) ?_
      refine AllReadyH.cons rfl (fun K hK => ?_) AllReadyH.nil
      try simp only [List.getElem_toArray, List.getElem_cons_zero, List.getElem_cons_succ]
      go_simp
      refine hK.out _ _ (Blk.cell blks) (fun hHeldN => ?_)
      clear hHeld hK K
      have hHeld := hHeldN
      clear hHeldN
      try simp only [Act.put, List.getElem_toArray, List.getElem_cons_zero, List.getElem_cons_succ, List.setIfInBounds_toArray, List.set_cons_zero, List.set_cons_succ]
      refine wpAnyH_ready (rs := [4]) (by kernel_rfl) (by simp) ?_
      refine AllReadyH.cons rfl (fun K hK => ?_) AllReadyH.nil
      try simp only [List.getElem_toArray, List.getElem_cons_zero, List.getElem_cons_succ]
      (go_simp; refine (c_numL g (p + 1) [9, -1, 9223372036854775807] _ _ _ _ (HR2.out.below bel) (by omega) blks (by rfl) (by first | (have := HR2.out.lt; omega) | (have := HR2.out.lt; simp; omega)) (by rfl) (by decide) (by decide)).mono ?_; rintro e w5 ⟨m5, -, rfl, hR, hF⟩; have kx5 := Blk.fr (a := w2.drew.alloc (.cells #[.int .i64 9, .int .i64 (-1), .int .i64 9223372036854775807] tI)) blks hF (show w1.heap.size ≠ g by omega); have kr5 : Blk w5 (w.heap.size + 1) tSt #[.slice none 0 0, .slice none 0 0] := Blk.fr (a := w2.drew.alloc (.cells #[.int .i64 9, .int .i64 (-1), .int .i64 9223372036854775807] tI)) blks hF (by omega); have HO5 := Lib.hid ((HO1.out.below (w' := w2.drew.alloc (.cells #[.int .i64 9, .int .i64 (-1), .int .i64 9223372036854775807] tI)) bel).fr hF hlt); have HP5 := Lib.hid ((HO2.out.below (w' := w2.drew.alloc (.cells #[.int .i64 9, .int .i64 (-1), .int .i64 9223372036854775807] tI)) bel).fr hF hlt); have HR5 := Lib.hid hR; have HF5 := Lib.hid ((HF2.out.drew.alloc _).trans hF); clear hR hF)
      refine hK.out _ _ (kx5.cell) (fun hHeldN => ?_)
      clear hHeld hK K
      have hHeld := hHeldN
      clear hHeldN
      try simp only [Act.put, List.getElem_toArray, List.getElem_cons_zero, List.getElem_cons_succ, List.setIfInBounds_toArray, List.set_cons_zero, List.set_cons_succ]
      obtain ⟨gv2, cur, -, hA2, hgv2, kv, hcm, hset⟩ := HO5.out.cell_ (k := 0) hln
      injection hA2 with hA2
      injection hA2 with hA2
      subst hA2
      have HSET := Lib.hid (hset m5)
      have HQ5 := Lib.hid (HP5.out.set_ne (q := ⟨gv, 0, none⟩) (fun e => DJ.out gv rfl e) (.int .i64 m5))
      have qv := (kv.cell 0).trans hcm
      have rv := kv.frozen
      have hgx : gv ≠ w1.heap.size := Blk.ne_ kv kx5 (by decide)
      have hgr : gv ≠ w.heap.size + 1 := Blk.ne_ kv kr5 (by decide)
      clear hset hcm
      refine wpAnyH_take (i := 5) (v := ?_) rfl (by kernel_rfl) (by kernel_rfl) (by kernel_rfl) (fun _ _ _ h => h) (Or.inl ⟨by rfl, fun w hSw => ?_⟩) hHeld ?_
      rotate_left
      · ((try dsimp only at hSw); go_split_ands; go_simp; (try with_reducible rfl))
      try simp only [Act.put, List.getElem_toArray, List.getElem_cons_zero, List.getElem_cons_succ, List.setIfInBounds_toArray, List.set_cons_zero, List.set_cons_succ]
      refine wpAnyH_ready (rs := [6]) (by kernel_rfl) (by simp) ?_
      refine AllReadyH.cons rfl (fun K hK => ?_) AllReadyH.nil
      try simp only [List.getElem_toArray, List.getElem_cons_zero, List.getElem_cons_succ]
      go_simp
      refine hK.out _ _ (Blk.cell blks) (fun hHeldN => ?_)
      clear hHeld hK K
      have hHeld := hHeldN
      clear hHeldN
      try simp only [Act.put, List.getElem_toArray, List.getElem_cons_zero, List.getElem_cons_succ, List.setIfInBounds_toArray, List.set_cons_zero, List.set_cons_succ]
      refine wpAnyH_done (by kernel_rfl) ?_ _
      refine NoPanic.normal ?_
      have kr6 := kr5.far (p := ⟨gv, 0, none⟩) (by simp only; omega) (.int .i64 m5)
      have kx6 := kx5.far (p := ⟨gv, 0, none⟩) (by simp only; omega) (.int .i64 m5)
      (replace qkr6 := kr6.cell; replace rkr6 := kr6.frozen; replace lkr6 := kr6.lt; replace qkx6 := kx6.cell; replace rkx6 := kx6.frozen; replace lkx6 := kx6.lt)
      go_wp2_with fail
      refine bodyPost_ret (v := .agg #[.slice (some ⟨gv, 0, none⟩) s.values.length c, .slice B s.heap.length d]) (by simp [results, Try.results249, go_sem, qkr6]) rfl ⟨_, rfl, ⟨s.values.set 0 m5, s.heap⟩, ⟨_, _, rfl, ?_, ?_, DJ.out⟩, by (try simp only [List.length_set]); omega, by (try simp only [List.length_set]); omega, p + 1 + 1, ?_, by omega, ?_⟩
      · exact by simpa using (HSET.out.setT kr6 (by decide) 0 _).setT (kr6.set_ 0 _) (by decide) 1 _
      · exact (HQ5.out.setT kr6 (by decide) 0 _).setT (kr6.set_ 0 _) (by decide) 1 _
      · exact ((HR5.out.set_ (by simp only; omega) _).set_ (by simp only; omega) _).set_ (by simp only; omega) _
      · exact ((HF5.out.set_ (Or.inr (by simp only; omega)) _).set_ (Or.inr (by simp only; omega)) _).set_ (Or.inr (by simp only; omega)) _
    · have hlni : ¬ (0 : Int) < (s.values.length : Int) := by omega
      go_wp2_with fail
      refine bodyPost_ret (v := .agg #[.slice A s.values.length c, .slice B s.heap.length d]) (by simp [results, Try.results249, go_sem, qkr]) rfl ⟨_, s, p + 1, rfl, ⟨_, _, rfl, ?_, ?_, DJ.out⟩, by omega, by omega, ?_, by omega, ?_⟩
      · exact (HO1.out.setT kr (by decide) 0 _).setT (kr.set_ 0 _) (by decide) 1 _
      · exact (HO2.out.setT kr (by decide) 0 _).setT (kr.set_ 0 _) (by decide) 1 _
      · exact (HR2.out.set_ (by simp only; omega) _).set_ (by simp only; omega) _
      · exact (HF2.out.set_ (Or.inr (by simp only; omega)) _).set_ (Or.inr (by simp only; omega)) _
  · have t0 : ((m : Int) == 0) = false := by simpa using hm0
    clear hm0
    by_cases hm1 : (m : Int) = 1
    · have t1 : ((m : Int) == 1) = true := by simpa using hm1
      clear hm1
      by_cases hln : 0 < s.heap.length
      · have hlni : (0 : Int) < (s.heap.length : Int) := by omega
        obtain ⟨gv, cur0, -, hA, hgv, -, -, -⟩ := HO2.out.cell_ (k := 0) hln
        subst hA
        go_wp2_with fail
        refine wp_region_noPanic ?_
        refine wp_region_held_drew (S := (fun w' => ∀ i, w'.cell? ⟨w1.heap.size, i, none⟩ = #[.slice A s.values.length c, .slice (some ⟨gv, 0, none⟩) s.heap.length d][i]?)) (by kernel_rfl) (Blk.cell blks) (fun hHeld => ?_)
        refine wpAnyH_take (i := 0) (v := ?_) rfl (by kernel_rfl) (by kernel_rfl) (by kernel_rfl) (fun _ _ _ h => h) (Or.inl ⟨by rfl, fun w hSw => ?_⟩) hHeld ?_
        rotate_left
        · ((try dsimp only at hSw); go_split_ands; go_simp; (try with_reducible rfl))
        try simp only [Act.put, List.getElem_toArray, List.getElem_cons_zero, List.getElem_cons_succ, List.setIfInBounds_toArray, List.set_cons_zero, List.set_cons_succ]
        refine wpAnyH_take (i := 1) (v := ?_) rfl (by kernel_rfl) (by kernel_rfl) (by kernel_rfl) (fun _ _ _ h => h) (Or.inl ⟨by rfl, fun w hSw => ?_⟩) hHeld ?_
        rotate_left
        · ((try dsimp only at hSw); go_split_ands; go_simp; (try with_reducible rfl))
        try simp only [Act.put, List.getElem_toArray, List.getElem_cons_zero, List.getElem_cons_succ, List.setIfInBounds_toArray, List.set_cons_zero, List.set_cons_succ]
        refine wpAnyH_take (i := 2) (v := ?_) rfl (by kernel_rfl) (by kernel_rfl) (by kernel_rfl) (fun _ _ _ h => h) (Or.inl ⟨by rfl, fun w hSw => ?_⟩) hHeld ?_
        rotate_left
        · ((try dsimp only at hSw); go_split_ands; go_simp; (try with_reducible rfl))
        try simp only [Act.put, List.getElem_toArray, List.getElem_cons_zero, List.getElem_cons_succ, List.setIfInBounds_toArray, List.set_cons_zero, List.set_cons_succ]
        refine wpAnyH_ready (rs := [3]) (by kernel_rfl) (by simp) ?_
        refine AllReadyH.cons rfl (fun K hK => ?_) AllReadyH.nil
        try simp only [List.getElem_toArray, List.getElem_cons_zero, List.getElem_cons_succ]
        go_simp
        refine hK.out _ _ (Blk.cell blks) (fun hHeldN => ?_)
        clear hHeld hK K
        have hHeld := hHeldN
        clear hHeldN
        try simp only [Act.put, List.getElem_toArray, List.getElem_cons_zero, List.getElem_cons_succ, List.setIfInBounds_toArray, List.set_cons_zero, List.set_cons_succ]
        refine wpAnyH_ready (rs := [4]) (by kernel_rfl) (by simp) ?_
        refine AllReadyH.cons rfl (fun K hK => ?_) AllReadyH.nil
        try simp only [List.getElem_toArray, List.getElem_cons_zero, List.getElem_cons_succ]
        (go_simp; refine (c_numL g (p + 1) [9, -2, -1] _ _ _ _ (HR2.out.below bel) (by omega) blks (by rfl) (by first | (have := HR2.out.lt; omega) | (have := HR2.out.lt; simp; omega)) (by rfl) (by decide) (by decide)).mono ?_; rintro e w5 ⟨m5, -, rfl, hR, hF⟩; have kx5 := Blk.fr (a := w2.drew.alloc (.cells #[.int .i64 9, .int .i64 (-2), .int .i64 (-1)] tI)) blks hF (show w1.heap.size ≠ g by omega); have kr5 : Blk w5 (w.heap.size + 1) tSt #[.slice none 0 0, .slice none 0 0] := Blk.fr (a := w2.drew.alloc (.cells #[.int .i64 9, .int .i64 (-2), .int .i64 (-1)] tI)) blks hF (by omega); have HO5 := Lib.hid ((HO2.out.below (w' := w2.drew.alloc (.cells #[.int .i64 9, .int .i64 (-2), .int .i64 (-1)] tI)) bel).fr hF hlt); have HP5 := Lib.hid ((HO1.out.below (w' := w2.drew.alloc (.cells #[.int .i64 9, .int .i64 (-2), .int .i64 (-1)] tI)) bel).fr hF hlt); have HR5 := Lib.hid hR; have HF5 := Lib.hid ((HF2.out.drew.alloc _).trans hF); clear hR hF)
        refine hK.out _ _ (kx5.cell) (fun hHeldN => ?_)
        clear hHeld hK K
        have hHeld := hHeldN
        clear hHeldN
        try simp only [Act.put, List.getElem_toArray, List.getElem_cons_zero, List.getElem_cons_succ, List.setIfInBounds_toArray, List.set_cons_zero, List.set_cons_succ]
        obtain ⟨gv2, cur, -, hA2, hgv2, kv, hcm, hset⟩ := HO5.out.cell_ (k := 0) hln
        injection hA2 with hA2
        injection hA2 with hA2
        subst hA2
        have HSET := Lib.hid (hset m5)
        have HQ5 := Lib.hid (HP5.out.set_ne (q := ⟨gv, 0, none⟩) (fun e => DJ.out gv e rfl) (.int .i64 m5))
        have qv := (kv.cell 0).trans hcm
        have rv := kv.frozen
        have hgx : gv ≠ w1.heap.size := Blk.ne_ kv kx5 (by decide)
        have hgr : gv ≠ w.heap.size + 1 := Blk.ne_ kv kr5 (by decide)
        clear hset hcm
        refine wpAnyH_take (i := 5) (v := ?_) rfl (by kernel_rfl) (by kernel_rfl) (by kernel_rfl) (fun _ _ _ h => h) (Or.inl ⟨by rfl, fun w hSw => ?_⟩) hHeld ?_
        rotate_left
        · ((try dsimp only at hSw); go_split_ands; go_simp; (try with_reducible rfl))
        try simp only [Act.put, List.getElem_toArray, List.getElem_cons_zero, List.getElem_cons_succ, List.setIfInBounds_toArray, List.set_cons_zero, List.set_cons_succ]
        refine wpAnyH_ready (rs := [6]) (by kernel_rfl) (by simp) ?_
        refine AllReadyH.cons rfl (fun K hK => ?_) AllReadyH.nil
        try simp only [List.getElem_toArray, List.getElem_cons_zero, List.getElem_cons_succ]
        go_simp
        refine hK.out _ _ (Blk.cell blks) (fun hHeldN => ?_)
        clear hHeld hK K
        have hHeld := hHeldN
        clear hHeldN
        try simp only [Act.put, List.getElem_toArray, List.getElem_cons_zero, List.getElem_cons_succ, List.setIfInBounds_toArray, List.set_cons_zero, List.set_cons_succ]
        refine wpAnyH_done (by kernel_rfl) ?_ _
        refine NoPanic.normal ?_
        have kr6 := kr5.far (p := ⟨gv, 0, none⟩) (by simp only; omega) (.int .i64 m5)
        have kx6 := kx5.far (p := ⟨gv, 0, none⟩) (by simp only; omega) (.int .i64 m5)
        (replace qkr6 := kr6.cell; replace rkr6 := kr6.frozen; replace lkr6 := kr6.lt; replace qkx6 := kx6.cell; replace rkx6 := kx6.frozen; replace lkx6 := kx6.lt)
        go_wp2_with fail
        refine bodyPost_ret (v := .agg #[.slice A s.values.length c, .slice (some ⟨gv, 0, none⟩) s.heap.length d]) (by simp [results, Try.results249, go_sem, qkr6]) rfl ⟨_, rfl, ⟨s.values, s.heap.set 0 m5⟩, ⟨_, _, rfl, ?_, ?_, DJ.out⟩, by (try simp only [List.length_set]); omega, by (try simp only [List.length_set]); omega, p + 1 + 1, ?_, by omega, ?_⟩
        · exact (HQ5.out.setT kr6 (by decide) 0 _).setT (kr6.set_ 0 _) (by decide) 1 _
        · exact by simpa using (HSET.out.setT kr6 (by decide) 0 _).setT (kr6.set_ 0 _) (by decide) 1 _
        · exact ((HR5.out.set_ (by simp only; omega) _).set_ (by simp only; omega) _).set_ (by simp only; omega) _
        · exact ((HF5.out.set_ (Or.inr (by simp only; omega)) _).set_ (Or.inr (by simp only; omega)) _).set_ (Or.inr (by simp only; omega)) _
      · have hlni : ¬ (0 : Int) < (s.heap.length : Int) := by omega
        go_wp2_with fail
        refine bodyPost_ret (v := .agg #[.slice A s.values.length c, .slice B s.heap.length d]) (by simp [results, Try.results249, go_sem, qkr]) rfl ⟨_, s, p + 1, rfl, ⟨_, _, rfl, ?_, ?_, DJ.out⟩, by omega, by omega, ?_, by omega, ?_⟩
        · exact (HO1.out.setT kr (by decide) 0 _).setT (kr.set_ 0 _) (by decide) 1 _
        · exact (HO2.out.setT kr (by decide) 0 _).setT (kr.set_ 0 _) (by decide) 1 _
        · exact (HR2.out.set_ (by simp only; omega) _).set_ (by simp only; omega) _
        · exact (HF2.out.set_ (Or.inr (by simp only; omega)) _).set_ (Or.inr (by simp only; omega)) _
    · have t1 : ((m : Int) == 1) = false := by simpa using hm1
      clear hm1
      by_cases hm2 : (m : Int) = 2
      · have t2 : ((m : Int) == 2) = true := by simpa using hm2
        clear hm2
        go_wp2_with (at_builtin; refine appIX (ys := [-1]) (base := w.heap.size) rfl _ _ rfl rfl (HO2.out.below bel) rfl (Blk.newE rfl) (by rfl) (by simp; omega) (by simp; omega) ?_; intro A4 d4 w4 o4 hg4 hB4 hx4; have HX4 := Lib.hid hx4; clear hx4; rw [List.length_append, List.length_singleton] at o4 ⊢; have ko4 := Blk.grownO (hg := hg4) (ko.alloc _) (HO2.out.below (bbox (Below.refl _ _) _)).1 (by decide); have kr4 := Blk.grownO (hg := hg4) (kr.alloc _) (HO2.out.below (bbox (Below.refl _ _) _)).1 (by decide); have ov4 := IntsO.grown (HO1.out.below (bbox (Below.refl _ _) _)) hg4 DJ.out; (replace qko4 := ko4.cell; replace rko4 := ko4.frozen; replace lko4 := ko4.lt; replace qkr4 := kr4.cell; replace rkr4 := kr4.frozen; replace lkr4 := kr4.lt); clear hg4)
        have hF4 : Fr g w w4 := (HF2.out.alloc _).goB hB4 (Nat.le_refl _)
        have hR4 : Rdr w4 g (p + 1) := (HR2.out.below (bbox (Below.refl _ _) _)).belowB hB4 hlt
        have HD4 : Hid (∀ g, (Value.slice A s.values.length c).ownBlock = some g → (Value.slice A4 (s.heap.length + 1) d4).ownBlock ≠ some g) := fun g hg e => by
          have hlt2 := (HO1.out.1.lt g hg).2
          have hx4 := HX4.out
          rw [List.length_append, List.length_singleton] at hx4
          rcases hx4 with h | h
          · rw [h] at e; exact DJ.out g hg e
          · rw [h, World.size_alloc] at e; injection e with e; omega
        have krx := kr4.far (p := ⟨w1.heap.size, 1, none⟩) (by simp only; omega) (.slice A4 (s.heap.length + 1) d4)
        refine bodyPost_ret (v := .agg #[.slice A s.values.length c, .slice A4 (s.heap.length + 1) d4]) (by simp [results, Try.results249, go_sem, qkr4]) rfl ⟨_, ⟨s.values, s.heap ++ [-1]⟩, p + 1, rfl, ⟨_, _, rfl, ?_, ?_, ?_⟩, by simp only; omega, by simp; omega, ?_, by omega, ?_⟩
        · exact ((ov4.setT ko4 (by decide) 1 _).setT krx (by decide) 0 _).setT (krx.set_ 0 _) (by decide) 1 _
        · exact ((o4.setT ko4 (by decide) 1 _).setT krx (by decide) 0 _).setT (krx.set_ 0 _) (by decide) 1 _
        · exact HD4.out
        · exact ((hR4.set_ (by simp only; omega) _).set_ (by simp only; omega) _).set_ (by simp only; omega) _
        · exact ((hF4.set_ (Or.inr (by simp only; omega)) _).set_ (Or.inr (by simp only; omega)) _).set_ (Or.inr (by simp only; omega)) _
      · have t2 : ((m : Int) == 2) = false := by simpa using hm2
        clear hm2
        by_cases hm3 : (m : Int) = 3
        · have t3 : ((m : Int) == 3) = true := by simpa using hm3
          clear hm3
          go_wp2_with fail
          refine bodyPost_ret (v := .agg #[.slice none 0 0, .slice none 0 0]) (by simp [results, Try.results249, go_sem, qkr]) rfl ⟨_, ⟨[], []⟩, p + 1, rfl, ⟨_, _, rfl, IntsO.nil _ _, IntsO.nil _ _, fun g hg => by simp [Value.ownBlock] at hg⟩, by simp, by simp, ?_, by omega, ?_⟩
          · exact (HR2.out.set_ (by simp only; omega) _).set_ (by simp only; omega) _
          · exact (HF2.out.set_ (Or.inr (by simp only; omega)) _).set_ (Or.inr (by simp only; omega)) _
        · have t3 : ((m : Int) == 3) = false := by simpa using hm3
          clear hm3
          go_wp2_with fail
          refine bodyPost_ret (v := .agg #[.slice A s.values.length c, .slice B s.heap.length d]) (by simp [results, Try.results249, go_sem, qkr]) rfl ⟨_, s, p + 1, rfl, ⟨_, _, rfl, ?_, ?_, DJ.out⟩, by omega, by omega, ?_, by omega, ?_⟩
          · exact (HO1.out.setT kr (by decide) 0 _).setT (kr.set_ 0 _) (by decide) 1 _
          · exact (HO2.out.setT kr (by decide) 0 _).setT (kr.set_ 0 _) (by decide) 1 _
          · exact (HR2.out.set_ (by simp only; omega) _).set_ (by simp only; omega) _
          · exact (HF2.out.set_ (Or.inr (by simp only; omega)) _).set_ (Or.inr (by simp only; omega)) _
end Go.Proofs.Ytmjgcdolnkdfoaa
