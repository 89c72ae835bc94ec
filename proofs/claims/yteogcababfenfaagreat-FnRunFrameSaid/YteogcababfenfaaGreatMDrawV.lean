/- What the reader draws: states. -/
import Derived.Test.YteogcababfenfaaGreatDrawB
import Derived.Test.YteogcababfenfaaGreatMSte
import Derived.Test.YteogcababfenfaaGreatMCmdG
set_option linter.unusedSimpArgs false
set_option linter.unusedVariables false
namespace Go.Proofs.YteogcababfenfaaGreat
open Go Go.RowKit Go.Proofs

--@ spec.l2Blank
abbrev tSt : Nat := 25
def blankS : Ste := ⟨List.replicate 8 0, List.replicate 8 (-1)⟩
set_option maxRecDepth 100000 in
set_option maxHeartbeats 1600000 in
theorem c_l2Blank (w : World) : Calls Tryz.prog 77 #[] w fun e w' => ∃ r, e = .returned r ∧ StateO w' w.heap.size r blankS ∧ Below w.heap.size w w' := by
  go_enter Tryz.func77, Tryz.ntmps77
  have kr : Blk ((w.alloc (.cells #[.slice none 0 0, .slice none 0 0] tSt)).alloc (.cells #[.slice none 0 0, .slice none 0 0] tSt)) w.heap.size tSt #[.slice none 0 0, .slice none 0 0] := blks
  have ks : Blk ((w.alloc (.cells #[.slice none 0 0, .slice none 0 0] tSt)).alloc (.cells #[.slice none 0 0, .slice none 0 0] tSt)) (w.heap.size + 1) tSt #[.slice none 0 0, .slice none 0 0] := blks
  have hB : Below w.heap.size w ((w.alloc (.cells #[.slice none 0 0, .slice none 0 0] tSt)).alloc (.cells #[.slice none 0 0, .slice none 0 0] tSt)) := bel
  go_wp2_with fail
  go_loopw [2] (fun i wr => ∃ (k : Nat) (A : Option Addr) (c : Nat), k ≤ 8 ∧ i = .int .i64 k ∧ IntsO wr w.heap.size (.slice A k c) (List.replicate k 0) ∧ Blk wr w.heap.size tSt #[.slice none 0 0, .slice none 0 0] ∧ Blk wr (w.heap.size + 1) tSt #[.slice A k c, .slice none 0 0] ∧ Hid (Below w.heap.size w wr)) (fun i _ => 8 - (intOf i).toNat)
  case atStart => exact ⟨0, none, 0, by omega, rfl, IntsO.nil _ _, kr, ks, hB⟩
  case round =>
    clear kr ks hB
    obtain ⟨k, A, c, hk, rfl, hO, kr, ks, HB⟩ := hrel
    have HO := Lib.hid hO
    have hsz := HB.out.size
    have ls := ks.lt
    clear hO
    (replace qkr := kr.cell; replace rkr := kr.frozen; replace lkr := kr.lt; replace qks := ks.cell; replace rks := ks.frozen; replace lks := ks.lt)
    by_cases hlt : k < 8
    · have hki : (k : Int) < 8 := by omega
      go_wp2_with (at_builtin; refine appIX (ys := [0]) (base := w.heap.size) rfl _ _ rfl rfl (HO.out.below bel) rfl (Blk.newE rfl) (by rfl) (by simp; omega) (by simp; omega) ?_; intro A4 d4 w4 o4 hg4 hB4 hx4; rw [List.length_append, List.length_replicate, List.length_singleton] at o4 ⊢; have ks4 := Blk.grownO (hg := hg4) (ks.alloc _) (HO.out.below (bbox (Below.refl _ _) _)).1 (by decide); have kr4 := Blk.grownO (hg := hg4) (kr.alloc _) (HO.out.below (bbox (Below.refl _ _) _)).1 (by decide); (replace qks4 := ks4.cell; replace rks4 := ks4.frozen; replace lks4 := ks4.lt; replace qkr4 := kr4.cell; replace rkr4 := kr4.frozen; replace lkr4 := kr4.lt); clear hg4 hx4)
      have hBB : Below w.heap.size w w4 := ((HB.out.alloc hsz _).trans hB4)
      go_round
      case rel => exact ⟨k + 1, A4, d4, by omega, by go_num, by rw [List.replicate_succ']; exact o4.setT ks4 (by decide) 0 _, kr4.far (by simp) _, by simpa using ks4.set_ 0 (.slice A4 (k + 1) d4), hBB.setCell (p := ⟨w.heap.size + 1, 0, none⟩) (by simp only; omega) _⟩
      case measure => simp [intOf]; omega
    · obtain rfl : k = 8 := by omega
      go_wp2_with fail
      go_loopw [3] (fun i wx => ∃ (k : Nat) (B : Option Addr) (d : Nat), k ≤ 8 ∧ i = .int .i64 k ∧ IntsO wx w.heap.size (.slice A 8 c) (List.replicate 8 0) ∧ IntsO wx w.heap.size (.slice B k d) (List.replicate k (-1)) ∧ Hid (∀ g, (Value.slice A 8 c).ownBlock = some g → (Value.slice B k d).ownBlock ≠ some g) ∧ Blk wx w.heap.size tSt #[.slice none 0 0, .slice none 0 0] ∧ Blk wx (w.heap.size + 1) tSt #[.slice A 8 c, .slice B k d] ∧ Hid (Below w.heap.size w wx)) (fun i _ => 8 - (intOf i).toNat)
      case atStart => exact ⟨0, none, 0, by omega, rfl, HO.out, IntsO.nil _ _, (fun g _ h => by simp [Value.ownBlock] at h), kr, ks, HB.out⟩
      case round =>
        clear kr ks HB HO hsz ls qkr rkr lkr qks rks lks
        obtain ⟨k, B, d, hk, rfl, hO, hP, HD, kr, ks, HB⟩ := hrel
        have HO := Lib.hid hO
        have HP := Lib.hid hP
        have hsz := HB.out.size
        have ls := ks.lt
        clear hO hP
        (replace qkr := kr.cell; replace rkr := kr.frozen; replace lkr := kr.lt; replace qks := ks.cell; replace rks := ks.frozen; replace lks := ks.lt)
        by_cases hlt : k < 8
        · have hki : (k : Int) < 8 := by omega
          go_wp2_with (at_builtin; refine appIX (ys := [-1]) (base := w.heap.size) rfl _ _ rfl rfl (HP.out.below bel) rfl (Blk.newE rfl) (by rfl) (by simp; omega) (by simp; omega) ?_; intro A4 d4 w4 o4 hg4 hB4 hx4; have HX4 := Lib.hid hx4; clear hx4; rw [List.length_append, List.length_replicate, List.length_singleton] at o4 ⊢; have ks4 := Blk.grownO (hg := hg4) (ks.alloc _) (HP.out.below (bbox (Below.refl _ _) _)).1 (by decide); have kr4 := Blk.grownO (hg := hg4) (kr.alloc _) (HP.out.below (bbox (Below.refl _ _) _)).1 (by decide); have ov4 := IntsO.grown (HO.out.below (bbox (Below.refl _ _) _)) hg4 HD.out; (replace qks4 := ks4.cell; replace rks4 := ks4.frozen; replace lks4 := ks4.lt; replace qkr4 := kr4.cell; replace rkr4 := kr4.frozen; replace lkr4 := kr4.lt); clear hg4)
          have hBB : Below w.heap.size w w4 := ((HB.out.alloc hsz _).trans hB4)
          have HD4 : Hid (∀ g, (Value.slice A 8 c).ownBlock = some g → (Value.slice A4 (k + 1) d4).ownBlock ≠ some g) := fun g hg e => by
            have hlt2 := (HO.out.1.lt g hg).2
            have hx4 := HX4.out
            rw [List.length_append, List.length_replicate, List.length_singleton] at hx4
            rcases hx4 with h | h
            · rw [h] at e; exact HD.out g hg e
            · rw [h, World.size_alloc] at e; injection e with e; omega
          go_round
          case rel => exact ⟨.int .i64 ((k : Int) + 1), _, _, _, _, _, _, _, _, _, ⟨k + 1, A4, d4, by omega, by go_num, ov4.setT ks4 (by decide) 1 _, by rw [List.replicate_succ']; exact o4.setT ks4 (by decide) 1 _, HD4.out, kr4.far (by simp) _, by simpa using ks4.set_ 1 (.slice A4 (k + 1) d4), hBB.setCell (p := ⟨w.heap.size + 1, 1, none⟩) (by simp only; omega) _⟩, rfl⟩
          case measure => simp [intOf]; omega
        · obtain rfl : k = 8 := by omega
          have hne : w.heap.size ≠ w.heap.size + 1 := by omega
          go_wp2_with fail
          refine bodyPost_ret (v := .agg #[.slice A 8 c, .slice B 8 d]) (by simp [results, Tryz.results77, go_sem, qkr]) rfl ⟨_, rfl, ⟨_, _, rfl, ?_, ?_, HD.out⟩, ?_⟩
          · exact (HO.out.setT kr (by decide) 0 _).setT (kr.set_ 0 _) (by decide) 1 _
          · exact (HP.out.setT kr (by decide) 0 _).setT (kr.set_ 0 _) (by decide) 1 _
          · exact (HB.out.setCell (p := ⟨w.heap.size, 0, none⟩) (Nat.le_refl _) _).setCell (p := ⟨w.heap.size, 1, none⟩) (Nat.le_refl _) _

--@ spec.l2Copy
/-- two rows lie in different blocks -/
def Dj (v v' : Value) : Prop := ∀ g, v.ownBlock = some g → v'.ownBlock ≠ some g
theorem Dj.symm {v v' : Value} (h : Dj v v') : Dj v' v := fun g h1 h2 => h g h2 h1
theorem Dj.new {w : World} {b : Nat} {v : Value} {xs : List Int} (h : IntsO w b v xs) {v' : Value} {x : Nat} (he : v'.ownBlock = some x) (hx : w.heap.size ≤ x) : Dj v v' := fun g hg e => by
  have := (h.1.lt g hg).2
  rw [he] at e; injection e with e; omega
theorem Dj.step {w : World} {b : Nat} {v u v' : Value} {xs : List Int} (h : IntsO w b v xs) (hd : Dj v u) (h5 : v'.ownBlock = u.ownBlock ∨ v'.ownBlock = some w.heap.size) : Dj v v' := by
  rcases h5 with e | e
  · intro g hg; rw [e]; exact hd g hg
  · exact Dj.new h e (Nat.le_refl _)
set_option maxRecDepth 100000 in
set_option maxHeartbeats 3200000 in
theorem c_l2Copy {lo hi : Nat} (v : Value) (s : Ste) (w : World) (h : StateV w lo hi v s) : Calls Tryz.prog 47 #[v] w fun e w' => ∃ r, e = .returned r ∧ StateO w' w.heap.size r s ∧ Below w.heap.size w w' := by
  obtain ⟨A1, c1, A2, c2, rfl, h1, h2⟩ := h
  have H1 := Lib.hid h1
  have H2 := Lib.hid h2
  have hl1 := h1.le
  have hl2 := h2.le
  clear h1 h2
  go_enter Tryz.func47, Tryz.ntmps47
  have k0 : Blk ((w.alloc (.cells #[.slice A1 s.values.length c1, .slice A2 s.heap.length c2] tSt)).alloc (.cells #[.slice none 0 0, .slice none 0 0] tSt)) w.heap.size tSt #[.slice A1 s.values.length c1, .slice A2 s.heap.length c2] := blks
  have kr : Blk ((w.alloc (.cells #[.slice A1 s.values.length c1, .slice A2 s.heap.length c2] tSt)).alloc (.cells #[.slice none 0 0, .slice none 0 0] tSt)) (w.heap.size + 1) tSt #[.slice none 0 0, .slice none 0 0] := blks
  have hB : Below w.heap.size w ((w.alloc (.cells #[.slice A1 s.values.length c1, .slice A2 s.heap.length c2] tSt)).alloc (.cells #[.slice none 0 0, .slice none 0 0] tSt)) := bel
  go_wp2_with fail
  generalize ((w.alloc (.cells #[.slice A1 s.values.length c1, .slice A2 s.heap.length c2] tSt)).alloc (.cells #[.slice none 0 0, .slice none 0 0] tSt)) = W at k0 kr hB ⊢
  refine wp_region_noPanic ?_
  refine wp_region_held_drew (S := (fun w' => ∀ i, w'.cell? ⟨w.heap.size, i, none⟩ = #[.slice A1 s.values.length c1, .slice A2 s.heap.length c2][i]?)) (by kernel_rfl) (k0.drew.cell) (fun hHeld => ?_)
  refine wpAnyH_take (i := 1) (v := ?_) rfl (by kernel_rfl) (by kernel_rfl) (by kernel_rfl) (fun _ _ _ h => h) (Or.inl ⟨by rfl, fun w hSw => ?_⟩) hHeld ?_
  rotate_left
  · ((try dsimp only at hSw); go_split_ands; go_simp; (try with_reducible rfl))
  try simp only [Act.put, List.getElem_toArray, List.getElem_cons_zero, List.getElem_cons_succ, List.setIfInBounds_toArray, List.set_cons_zero, List.set_cons_succ]
  refine wpAnyH_take (i := 2) (v := ?_) rfl (by kernel_rfl) (by kernel_rfl) (by kernel_rfl) (fun _ _ _ h => h) (Or.inl ⟨by rfl, fun w hSw => ?_⟩) hHeld ?_
  rotate_left
  · ((try dsimp only at hSw); go_split_ands; go_simp; (try with_reducible rfl))
  try simp only [Act.put, List.getElem_toArray, List.getElem_cons_zero, List.getElem_cons_succ, List.setIfInBounds_toArray, List.set_cons_zero, List.set_cons_succ]
  refine wpAnyH_take (i := 5) (v := ?_) rfl (by kernel_rfl) (by kernel_rfl) (by kernel_rfl) (fun _ _ _ h => h) (Or.inl ⟨by rfl, fun w hSw => ?_⟩) hHeld ?_
  rotate_left
  · ((try dsimp only at hSw); go_split_ands; go_simp; (try with_reducible rfl))
  try simp only [Act.put, List.getElem_toArray, List.getElem_cons_zero, List.getElem_cons_succ, List.setIfInBounds_toArray, List.set_cons_zero, List.set_cons_succ]
  refine wpAnyH_take (i := 6) (v := ?_) rfl (by kernel_rfl) (by kernel_rfl) (by kernel_rfl) (fun _ _ _ h => h) (Or.inl ⟨by rfl, fun w hSw => ?_⟩) hHeld ?_
  rotate_left
  · ((try dsimp only at hSw); go_split_ands; go_simp; (try with_reducible rfl))
  try simp only [Act.put, List.getElem_toArray, List.getElem_cons_zero, List.getElem_cons_succ, List.setIfInBounds_toArray, List.set_cons_zero, List.set_cons_succ]
  refine wpAnyH_par [0, 3, 4, 7] #[true, true, true, true, true, true, true, true, false, false] 4 (by kernel_rfl) hHeld
    (fun a0 D a w' => Hid (Below w.heap.size w w' ∧ Blk w' w.heap.size tSt #[.slice A1 s.values.length c1, .slice A2 s.heap.length c2] ∧ Blk w' (w.heap.size + 1) tSt #[.slice none 0 0, .slice none 0 0]) ∧
      Hid ((dn D 3 = true → dn D 0 = true) ∧ (dn D 7 = true → dn D 3 = true ∧ dn D 4 = true)) ∧
      ∃ v3 v6 v7 v10, a = (((a0.put (some 3) v3).put (some 6) v6).put (some 7) v7).put (some 10) v10 ∧
        Hid (dn D 0 = true → dn D 3 = false → (∃ x, v3 = .slice (some ⟨x, 0, none⟩) 0 0) ∧ IntsO w' w.heap.size v3 []) ∧
        Hid (dn D 3 = true → (∃ A c, v6 = .slice A s.values.length c) ∧ IntsO w' w.heap.size v6 s.values) ∧
        Hid (dn D 4 = true → dn D 7 = false → (∃ x, v7 = .slice (some ⟨x, 0, none⟩) 0 0) ∧ IntsO w' w.heap.size v7 []) ∧
        Hid (dn D 7 = true → (∃ A c, v10 = .slice A s.heap.length c) ∧ IntsO w' w.heap.size v10 s.heap) ∧
        Hid (dn D 0 = true → dn D 3 = false → dn D 4 = true → Dj v3 v7) ∧ Hid (dn D 3 = true → dn D 4 = true → dn D 7 = false → Dj v6 v7) ∧ Hid (dn D 7 = true → Dj v6 v10)) ?start ?steps ?fin
  case start =>
    refine ⟨⟨hB.drew, k0.drew, kr.drew⟩, ⟨fun h => absurd h (by decide), fun h => absurd h (by decide)⟩, undef, undef, undef, undef, rfl, fun h => absurd h (by decide), fun h => absurd h (by decide), fun h => absurd h (by decide), fun h => absurd h (by decide), fun h => absurd h (by decide), fun h => absurd h (by decide), fun h => absurd h (by decide)⟩
  case steps =>
    refine ParSteps.cons rfl (fun D a w' hu hd hI hS K' hK G hG => ?_) (ParSteps.cons rfl (fun D a w' hu hd hI hS K' hK G hG => ?_) (ParSteps.cons rfl (fun D a w' hu hd hI hS K' hK G hG => ?_) (ParSteps.cons rfl (fun D a w' hu hd hI hS K' hK G hG => ?_) ParSteps.nil)))
    · -- the empty list for the values
      obtain ⟨HW, HC, v3, v6, v7, v10, ha, h0, h3, h4, h7, d1, d2, d3⟩ := hI
      rw [ha] at hG
      clear ha a
      have u0 := dn_un hu
      have u3 : dn D 3 = false := by cases e : dn D 3; rfl; have := HC.out.1 e; rw [u0] at this; cases this
      have u7 : dn D 7 = false := by cases e : dn D 7; rfl; have := (HC.out.2 e).1; rw [u3] at this; cases this
      have HU := Lib.hid (And.intro u3 u7)
      clear u0 u3 u7
      refine hG ?_
      clear hG hd
      try simp only [Act.put, List.setIfInBounds_toArray, List.set_cons_zero, List.set_cons_succ]
      go_simp
      have hB2 : Below w.heap.size w (w'.alloc (.cells #[] tI)) := HW.out.1.alloc HW.out.1.size _
      have hBw : Below w'.heap.size w' (w'.alloc (.cells #[] tI)) := bbox (Below.refl _ _) _
      refine hK.out _ _ (HW.out.2.1.alloc _).cell ⟨⟨hB2, HW.out.2.1.alloc _, HW.out.2.2.alloc _⟩, ⟨fun h => ?_, fun h => ?_⟩, .slice (some ⟨w'.heap.size, 0, none⟩) 0 0, v6, v7, v10, rfl, ?_, ?_, ?_, ?_, ?_, ?_, ?_⟩
      · exact dn_self hu
      · rw [dn_ne (by decide)] at h; rw [HU.out.2] at h; cases h
      · exact fun _ _ => ⟨⟨_, rfl⟩, (IntsO.empty w' rfl).lower HW.out.1.size⟩
      · intro h; rw [dn_ne (by decide)] at h; rw [HU.out.1] at h; cases h
      · intro h h'; rw [dn_ne (by decide)] at h h'; exact ⟨(h4.out h h').1, (h4.out h h').2.below hBw⟩
      · intro h; rw [dn_ne (by decide)] at h; rw [HU.out.2] at h; cases h
      · intro _ _ h; rw [dn_ne (by decide)] at h; exact (Dj.new (h4.out h HU.out.2).2 rfl (Nat.le_refl _)).symm
      · intro h; rw [dn_ne (by decide)] at h; rw [HU.out.1] at h; cases h
      · intro h; rw [dn_ne (by decide)] at h; rw [HU.out.2] at h; cases h
    · -- the values appended
      obtain ⟨HW, HC, v3, v6, v7, v10, ha, h0, h3, h4, h7, d1, d2, d3⟩ := hI
      rw [ha] at hG
      clear ha a
      have u3 := dn_un hu
      have u7 : dn D 7 = false := by cases e : dn D 7; rfl; have := (HC.out.2 e).1; rw [u3] at this; cases this
      have t0 : dn D 0 = true := hd ⟨0, .data⟩ (by simp) (by decide)
      obtain ⟨⟨x, rfl⟩, o⟩ := h0.out t0 u3
      have HO := Lib.hid o
      have HU := Lib.hid (And.intro u3 (And.intro u7 t0))
      clear u3 u7 t0 o h0 hd
      refine hG ?_
      clear hG
      try simp only [Act.put, List.setIfInBounds_toArray, List.set_cons_zero, List.set_cons_succ]
      rw [if_pos (by simp [Region.wanted])]
      refine wp_appIY (base := w.heap.size) (xs := []) (ys := s.values) _ _ rfl rfl HO.out rfl (H1.out.below HW.out.1) (by simp; omega) HW.out.1.size ?_
      intro A' c' w2 o2 hg2 hB2 h5
      simp only [List.nil_append] at o2 h5 ⊢
      refine hK.out _ _ (Blk.grownO (hg := hg2) HW.out.2.1 HO.out.1 (by decide)).cell ⟨⟨HW.out.1.trans hB2, Blk.grownO (hg := hg2) HW.out.2.1 HO.out.1 (by decide), Blk.grownO (hg := hg2) HW.out.2.2 HO.out.1 (by decide)⟩, ⟨fun h => ?_, fun h => ?_⟩, .slice (some ⟨x, 0, none⟩) 0 0, .slice A' s.values.length c', v7, v10, rfl, ?_, ?_, ?_, ?_, ?_, ?_, ?_⟩
      · rw [dn_ne (by decide)]; exact HU.out.2.2
      · rw [dn_ne (by decide)] at h; rw [HU.out.2.1] at h; cases h
      · intro _ h; rw [dn_self hu] at h; cases h
      · exact fun _ => ⟨⟨A', c', rfl⟩, o2⟩
      · intro h h'; rw [dn_ne (by decide)] at h h'; exact ⟨(h4.out h h').1, IntsO.grown (h4.out h h').2 hg2 (d1.out HU.out.2.2 HU.out.1 h).symm⟩
      · intro h; rw [dn_ne (by decide)] at h; rw [HU.out.2.1] at h; cases h
      · intro _ h; rw [dn_self hu] at h; cases h
      · intro _ h h'; rw [dn_ne (by decide)] at h h'; exact (Dj.step (h4.out h h').2 (d1.out HU.out.2.2 HU.out.1 h).symm h5).symm
      · intro h; rw [dn_ne (by decide)] at h; rw [HU.out.2.1] at h; cases h
    · -- the empty list for the heap
      obtain ⟨HW, HC, v3, v6, v7, v10, ha, h0, h3, h4, h7, d1, d2, d3⟩ := hI
      rw [ha] at hG
      clear ha a
      have u4 := dn_un hu
      have u7 : dn D 7 = false := by cases e : dn D 7; rfl; have := (HC.out.2 e).2; rw [u4] at this; cases this
      have HU := Lib.hid u7
      clear u4 u7
      refine hG ?_
      clear hG hd
      try simp only [Act.put, List.setIfInBounds_toArray, List.set_cons_zero, List.set_cons_succ]
      go_simp
      have hB2 : Below w.heap.size w (w'.alloc (.cells #[] tI)) := HW.out.1.alloc HW.out.1.size _
      have hBw : Below w'.heap.size w' (w'.alloc (.cells #[] tI)) := bbox (Below.refl _ _) _
      refine hK.out _ _ (HW.out.2.1.alloc _).cell ⟨⟨hB2, HW.out.2.1.alloc _, HW.out.2.2.alloc _⟩, ⟨fun h => ?_, fun h => ?_⟩, v3, v6, .slice (some ⟨w'.heap.size, 0, none⟩) 0 0, v10, rfl, ?_, ?_, ?_, ?_, ?_, ?_, ?_⟩
      · rw [dn_ne (by decide)] at h ⊢; exact HC.out.1 h
      · rw [dn_ne (by decide)] at h; rw [HU.out] at h; cases h
      · intro h h'; rw [dn_ne (by decide)] at h h'; exact ⟨(h0.out h h').1, (h0.out h h').2.below hBw⟩
      · intro h; rw [dn_ne (by decide)] at h; exact ⟨(h3.out h).1, (h3.out h).2.below hBw⟩
      · exact fun _ _ => ⟨⟨_, rfl⟩, (IntsO.empty w' rfl).lower HW.out.1.size⟩
      · intro h; rw [dn_ne (by decide)] at h; rw [HU.out] at h; cases h
      · intro h h' _; rw [dn_ne (by decide)] at h h'; exact Dj.new (h0.out h h').2 rfl (Nat.le_refl _)
      · intro h _ _; rw [dn_ne (by decide)] at h; exact Dj.new (h3.out h).2 rfl (Nat.le_refl _)
      · intro h; rw [dn_ne (by decide)] at h; rw [HU.out] at h; cases h
    · -- the heap appended
      obtain ⟨HW, HC, v3, v6, v7, v10, ha, h0, h3, h4, h7, d1, d2, d3⟩ := hI
      rw [ha] at hG
      clear ha a
      have u7 := dn_un hu
      have t3 : dn D 3 = true := hd ⟨3, .chain⟩ (by simp) (by decide)
      have t4 : dn D 4 = true := hd ⟨4, .data⟩ (by simp) (by decide)
      obtain ⟨⟨x, rfl⟩, o⟩ := h4.out t4 u7
      have HO := Lib.hid o
      have HU := Lib.hid (And.intro u7 (And.intro t3 t4))
      clear u7 t3 t4 o h4 hd
      refine hG ?_
      clear hG
      try simp only [Act.put, List.setIfInBounds_toArray, List.set_cons_zero, List.set_cons_succ]
      rw [if_pos (by simp [Region.wanted])]
      refine wp_appIY (base := w.heap.size) (xs := []) (ys := s.heap) _ _ rfl rfl HO.out rfl (H2.out.below HW.out.1) (by simp; omega) HW.out.1.size ?_
      intro A' c' w2 o2 hg2 hB2 h5
      simp only [List.nil_append] at o2 h5 ⊢
      have hD := d2.out HU.out.2.1 HU.out.2.2 HU.out.1
      have hO3 := h3.out HU.out.2.1
      refine hK.out _ _ (Blk.grownO (hg := hg2) HW.out.2.1 HO.out.1 (by decide)).cell ⟨⟨HW.out.1.trans hB2, Blk.grownO (hg := hg2) HW.out.2.1 HO.out.1 (by decide), Blk.grownO (hg := hg2) HW.out.2.2 HO.out.1 (by decide)⟩, ⟨fun h => ?_, fun h => ?_⟩, v3, v6, .slice (some ⟨x, 0, none⟩) 0 0, .slice A' s.heap.length c', rfl, ?_, ?_, ?_, ?_, ?_, ?_, ?_⟩
      · rw [dn_ne (by decide)] at h ⊢; exact HC.out.1 h
      · rw [dn_ne (by decide), dn_ne (by decide)]; exact HU.out.2
      · intro _ h; rw [dn_ne (by decide)] at h; rw [HU.out.2.1] at h; cases h
      · exact fun _ => ⟨hO3.1, IntsO.grown hO3.2 hg2 hD⟩
      · intro _ h; rw [dn_self hu] at h; cases h
      · exact fun _ => ⟨⟨A', c', rfl⟩, o2⟩
      · intro _ h; rw [dn_ne (by decide)] at h; rw [HU.out.2.1] at h; cases h
      · intro _ _ h; rw [dn_self hu] at h; cases h
      · exact fun _ => Dj.step hO3.2 hD h5
  case fin =>
    rintro a w4 hHeld ⟨HW, -, v3, v6, v7, v10, rfl, -, h3, -, h7, -, -, d3⟩
    obtain ⟨⟨A, c, rfl⟩, o3⟩ := h3.out (by decide)
    obtain ⟨⟨B, d, rfl⟩, o7⟩ := h7.out (by decide)
    have hD := Lib.hid (d3.out (by decide))
    have HO3 := Lib.hid o3
    have HO7 := Lib.hid o7
    have hBf := HW.out.1
    have k4 := HW.out.2.1
    have kr4 := HW.out.2.2
    clear h3 h7 d3 o3 o7 k0 kr hB
    try simp only [Act.put, List.setIfInBounds_toArray, List.set_cons_zero, List.set_cons_succ]
    (replace qk4 := k4.cell; replace rk4 := k4.frozen; replace lk4 := k4.lt; replace qkr4 := kr4.cell; replace rkr4 := kr4.frozen; replace lkr4 := kr4.lt)
    refine wpAnyH_take (i := 8) (v := ?_) rfl (by kernel_rfl) (by kernel_rfl) (by kernel_rfl) (fun _ _ _ h => h) (Or.inl ⟨by rfl, fun w hSw => ?_⟩) hHeld ?_
    rotate_left
    · ((try dsimp only at hSw); go_split_ands; go_simp; (try with_reducible rfl))
    try simp only [Act.put, List.getElem_toArray, List.getElem_cons_zero, List.getElem_cons_succ, List.setIfInBounds_toArray, List.set_cons_zero, List.set_cons_succ]
    refine wpAnyH_ready (rs := [9]) (by kernel_rfl) (by simp) ?_
    refine AllReadyH.cons rfl (fun K hK => ?_) AllReadyH.nil
    try simp only [List.getElem_toArray, List.getElem_cons_zero, List.getElem_cons_succ]
    go_simp
    refine hK.out _ _ (Blk.cell blks) (fun hHeldN => ?_)
    clear hHeld hK K
    have hHeld := hHeldN
    clear hHeldN
    try simp only [Act.put, List.getElem_toArray, List.getElem_cons_zero, List.getElem_cons_succ, List.setIfInBounds_toArray, List.set_cons_zero, List.set_cons_succ]
    refine wpAnyH_done (by kernel_rfl) ?_ _
    refine NoPanic.normal ?_
    go_wp2_with fail
    refine bodyPost_ret (v := .agg #[.slice A s.values.length c, .slice B s.heap.length d]) (by simp [results, Tryz.results47, go_sem, qkr4]) rfl ⟨_, rfl, ⟨_, _, rfl, ?_, ?_, hD.out⟩, ?_⟩
    · exact (HO3.out.setT kr4 (by decide) 0 _).setT (kr4.set_ 0 _) (by decide) 1 _
    · exact (HO7.out.setT kr4 (by decide) 0 _).setT (kr4.set_ 0 _) (by decide) 1 _
    · exact (hBf.setCell (p := ⟨w.heap.size + 1, 0, none⟩) (by simp only; omega) _).setCell (p := ⟨w.heap.size + 1, 1, none⟩) (by simp only; omega) _
end Go.Proofs.YteogcababfenfaaGreat

/- What the reader draws: states in which an assertion often holds. -/
namespace Go.Proofs.YteogcababfenfaaGreat
open Go Go.RowKit Go.Proofs

theorem IntsO.cell_ {w : World} {base : Nat} {A : Option Addr} {n c k : Nat} {fs : List Int} (h : IntsO w base (.slice A n c) fs) (hk : k < fs.length) : ∃ g cur, n = fs.length ∧ A = some ⟨g, 0, none⟩ ∧ base ≤ g ∧ Blk w g tI cur ∧ cur[k]? = some (.int .i64 fs[k]) ∧
    (∀ v : Int, IntsO (w.setCell ⟨g, k, none⟩ (.int .i64 v)) base (.slice A n c) (fs.set k v)) := by
  obtain ⟨⟨hl, h2⟩, hL⟩ := h
  rcases h2 with ⟨e, hn⟩ | ⟨g, cap, cur, e, hb, hh, hn, hm, hs, ht⟩
  · omega
  · injection e with e1 e2 e3
    subst e1 e2 e3
    have hK : Blk w g tI cur := hh
    have hP : Pre cur (encI fs) (fs.length * 1) := by
      intro j hj
      rw [← ht, List.getElem?_take, if_pos hj]; simp
    refine ⟨g, cur, rfl, rfl, hb, hK, (hP _ (by omega)).trans (by simp [List.getElem?_eq_getElem hk]), ?_⟩
    intro v
    refine ⟨?_, by rw [List.length_set]; exact hL⟩
    rw [show encI (fs.set k v) = (encI fs).set k (.int .i64 v) from by simp [encI, List.map_set], List.length_set]
    exact own_of_blk (hK.set_ k (.int .i64 v)) hb (by rw [List.length_set, hl]) (hP.setL k (.int .i64 v) (by rw [hs]; exact Nat.mul_le_mul hn (Nat.le_refl _)) (by rw [hl]; exact Nat.le_refl _)) hn hm (by simpa using hs)
theorem IntsO.set_ne {w : World} {b : Nat} {v : Value} {xs : List Int} (h : IntsO w b v xs) {q : Addr} (hq : v.ownBlock ≠ some q.block) (u : Value) : IntsO (w.setCell q u) b v xs := by
  obtain ⟨⟨h1, h2⟩, h3⟩ := h
  refine ⟨⟨h1, ?_⟩, h3⟩
  rcases h2 with h2 | ⟨k, cap, cur, hv, hk, hh, r⟩
  · exact Or.inl h2
  · exact Or.inr ⟨k, cap, cur, hv, hk, (Below.heap_setCell w q u k (fun e => hq (by rw [hv, ← e]; rfl))).trans hh, r⟩

--@ spec.l4Value
def setV (vs : List Int) (t : Nat) (n : Int) : List Int := if t = 0 then vs else vs.set (t - 1) n
--@ spec.l4Known
end Go.Proofs.YteogcababfenfaaGreat

/- What the reader draws: valid states. -/
namespace Go.Proofs.YteogcababfenfaaGreat
open Go Go.RowKit Go.Proofs

theorem StateO.fr {w w' : World} {g base : Nat} {v : Value} {s : Ste} (h : StateO w base v s) (hf : Fr g w w') (hg : g < base) : StateO w' base v s := by
  obtain ⟨fv, av, e, h1, h2, h3⟩ := h
  exact ⟨fv, av, e, h1.fr hf hg, h2.fr hf hg, h3⟩

--@ spec.l2Draw
set_option maxRecDepth 100000 in
set_option maxHeartbeats 6400000 in
theorem c_l2Draw (g p : Nat) (w : World) (h : Rdr w g p) (hp : p ≤ 999900) :
    Calls Tryz.prog 42 #[.pointer (some ⟨g, 0, none⟩)] w fun e w' => ∃ r s q, e = .returned r ∧ StateO w' w.heap.size r s ∧ s.valid = true ∧ Rdr w' g q ∧ q ≤ p + 40 ∧ Fr g w w' := by
  have H := Lib.hid h
  have hlt := h.lt
  clear h
  go_enter Tryz.func42, Tryz.ntmps42
  have kr : Blk (w.alloc (.cells #[.slice none 0 0, .slice none 0 0] tSt)) w.heap.size tSt #[.slice none 0 0, .slice none 0 0] := blks
  go_wp2_with fail
  refine (c_l2Blank _).mono ?_
  rintro e w1 ⟨r1, rfl, o1, hB1⟩
  have hsz1 := hB1.size
  rw [World.size_alloc] at hsz1
  have hB := bgo (w := w) bel hB1
  replace kr := kr.next hB1
  replace o1 := o1.lower (base' := w.heap.size) (by simp)
  obtain ⟨fv, av, rfl, ov, oh, dj⟩ := o1
  obtain ⟨A, c, rfl, -⟩ := ov.reads
  obtain ⟨B, d, rfl, -⟩ := oh.reads
  simp only [blankS, List.length_replicate] at dj ov oh ⊢
  have DJ := Lib.hid dj
  clear dj
  have kx : Blk (w1.alloc (.cells #[.slice A 8 c, .slice B 8 d] tSt)) w1.heap.size tSt #[.slice A 8 c, .slice B 8 d] := Blk.new _ _ _
  have HF1 : Hid (Fr g w (w1.alloc (.cells #[.slice A 8 c, .slice B 8 d] tSt))) := (Fr.ofBelow hB).alloc _
  have HR1 : Hid (Rdr (w1.alloc (.cells #[.slice A 8 c, .slice B 8 d] tSt)) g p) := (H.out.below hB).below (bbox (Below.refl _ _) _)
  have ov1 := ov.below (bbox (Below.refl _ _) (.cells #[.slice A 8 c, .slice B 8 d] tSt))
  have oh1 := oh.below (bbox (Below.refl _ _) (.cells #[.slice A 8 c, .slice B 8 d] tSt))
  replace kr := kr.alloc (.cells #[.slice A 8 c, .slice B 8 d] tSt)
  have lr := kr.lt
  clear hB1 hB ov oh H
  go_wp2_with fail
  go_loopw [4] (fun i wr => ∃ (k : Nat) (vs : List Int) (q : Nat), k ≤ 8 ∧ i = .int .i64 k ∧ Hid (vs.length = 8 ∧ vs.all valB = true) ∧ IntsO wr w.heap.size (.slice A 8 c) vs ∧ IntsO wr w.heap.size (.slice B 8 d) (List.replicate 8 (-1)) ∧ Blk wr w.heap.size tSt #[.slice none 0 0, .slice none 0 0] ∧ Blk wr w1.heap.size tSt #[.slice A 8 c, .slice B 8 d] ∧ Hid (Rdr wr g q) ∧ q ≤ p + k ∧ Hid (Fr g w wr)) (fun i _ => 8 - (intOf i).toNat)
  case atStart => exact ⟨0, List.replicate 8 0, p, by omega, rfl, ⟨by simp, by decide⟩, ov1, oh1, kr, kx, HR1.out, by omega, HF1.out⟩
  case round =>
    clear kr kx HF1 HR1 ov1 oh1
    obtain ⟨k, vs, q, hk, rfl, HV, hO, hP, kr, kx, HR, hq, HF⟩ := hrel
    have HO := Lib.hid hO
    have HP := Lib.hid hP
    have hsz := HF.out.size
    have lx := kx.lt
    clear hO hP
    by_cases hlt8 : k < 8
    · have hki : (k : Int) < 8 := by omega
      obtain ⟨gv, cur0, -, hA, hgv, -, -, -⟩ := HO.out.cell_ (k := k) (by have := HV.out.1; omega)
      subst hA
      go_wp2_with fail
      refine wp_region_noPanic ?_
      refine wp_region_held_drew (S := (fun w' => ∀ i, w'.cell? ⟨w1.heap.size, i, none⟩ = #[.slice (some ⟨gv, 0, none⟩) 8 c, .slice B 8 d][i]?)) (by kernel_rfl) (Blk.cell blks) (fun hHeld => ?_)
      refine wpAnyH_take (i := 0) (v := ?_) rfl (by kernel_rfl) (by kernel_rfl) (by kernel_rfl) (fun _ _ _ h => h) (Or.inl ⟨by rfl, fun w hSw => ?_⟩) hHeld ?_
      rotate_left
      · ((try dsimp only at hSw); go_split_ands; go_simp; (try with_reducible rfl))
      try simp only [Act.put, List.getElem_toArray, List.getElem_cons_zero, List.getElem_cons_succ, List.setIfInBounds_toArray, List.set_cons_zero, List.set_cons_succ]
      refine wpAnyH_take (i := 1) (v := ?_) rfl (by kernel_rfl) (by kernel_rfl) (by kernel_rfl) (fun _ _ _ h => h) (Or.inl ⟨by rfl, fun w hSw => ?_⟩) hHeld ?_
      rotate_left
      · ((try dsimp only at hSw); go_split_ands; go_simp; (try with_reducible rfl))
      try simp only [Act.put, List.getElem_toArray, List.getElem_cons_zero, List.getElem_cons_succ, List.setIfInBounds_toArray, List.set_cons_zero, List.set_cons_succ]
      refine wpAnyH_take (i := 2) (v := ?_) rfl (by kernel_rfl) (by kernel_rfl) (by kernel_rfl) (fun _ _ _ h => h) (Or.inl ⟨by rfl, fun w hSw => ?_⟩) hHeld ?_
      rotate_left
      · ((try dsimp only at hSw); go_split_ands; go_simp; (try with_reducible rfl))
      try simp only [Act.put, List.getElem_toArray, List.getElem_cons_zero, List.getElem_cons_succ, List.setIfInBounds_toArray, List.set_cons_zero, List.set_cons_succ]
      refine wpAnyH_take (i := 3) (v := ?_) rfl (by kernel_rfl) (by kernel_rfl) (by kernel_rfl) (fun _ _ _ h => h) (Or.inl ⟨by rfl, fun w hSw => ?_⟩) hHeld ?_
      rotate_left
      · ((try dsimp only at hSw); go_split_ands; go_simp; (try with_reducible rfl))
      try simp only [Act.put, List.getElem_toArray, List.getElem_cons_zero, List.getElem_cons_succ, List.setIfInBounds_toArray, List.set_cons_zero, List.set_cons_succ]
      refine wpAnyH_ready (rs := [4]) (by kernel_rfl) (by simp) ?_
      refine AllReadyH.cons rfl (fun K hK => ?_) AllReadyH.nil
      try simp only [List.getElem_toArray, List.getElem_cons_zero, List.getElem_cons_succ]
      go_simp
      refine hK.out _ _ (Blk.cell blks) (fun hHeldN => ?_)
      clear hHeld hK K
      have hHeld := hHeldN
      clear hHeldN
      try simp only [Act.put, List.getElem_toArray, List.getElem_cons_zero, List.getElem_cons_succ, List.setIfInBounds_toArray, List.set_cons_zero, List.set_cons_succ]
      refine wpAnyH_ready (rs := [5]) (by kernel_rfl) (by simp) ?_
      refine AllReadyH.cons rfl (fun K hK => ?_) AllReadyH.nil
      try simp only [List.getElem_toArray, List.getElem_cons_zero, List.getElem_cons_succ]
      (go_simp; refine (c_numL g q [1, 2, 0, 3, 4, 1, 5] _ _ _ _ (HR.out.below bel) (by omega) blks (by rfl) (by first | (have := HR.out.lt; omega) | (have := HR.out.lt; simp; omega)) (by rfl) (by decide) (by decide)).mono ?_; rintro e w4 ⟨m, hm, rfl, hR, hF⟩; have kx4 := Blk.fr (a := wr.drew.alloc (.cells #[.int .i64 1, .int .i64 2, .int .i64 0, .int .i64 3, .int .i64 4, .int .i64 1, .int .i64 5] tI)) blks hF (show w1.heap.size ≠ g by omega); have kr4 : Blk w4 w.heap.size tSt #[.slice none 0 0, .slice none 0 0] := Blk.fr (a := wr.drew.alloc (.cells #[.int .i64 1, .int .i64 2, .int .i64 0, .int .i64 3, .int .i64 4, .int .i64 1, .int .i64 5] tI)) blks hF (by omega); have HO4 := Lib.hid ((HO.out.below (w' := wr.drew.alloc (.cells #[.int .i64 1, .int .i64 2, .int .i64 0, .int .i64 3, .int .i64 4, .int .i64 1, .int .i64 5] tI)) bel).fr hF hlt); have HP4 := Lib.hid ((HP.out.below (w' := wr.drew.alloc (.cells #[.int .i64 1, .int .i64 2, .int .i64 0, .int .i64 3, .int .i64 4, .int .i64 1, .int .i64 5] tI)) bel).fr hF hlt); have HR4 := Lib.hid hR; have HF4 := Lib.hid ((HF.out.drew.alloc _).trans hF); have HM := Lib.hid ((by decide : ∀ m ∈ [(1 : Int), 2, 0, 3, 4, 1, 5], valB m = true) m hm); clear hR hF hm)
      refine hK.out _ _ (kx4.cell) (fun hHeldN => ?_)
      clear hHeld hK K
      have hHeld := hHeldN
      clear hHeldN
      try simp only [Act.put, List.getElem_toArray, List.getElem_cons_zero, List.getElem_cons_succ, List.setIfInBounds_toArray, List.set_cons_zero, List.set_cons_succ]
      obtain ⟨gv2, cur, -, hA2, hgv2, kv, hcm, hset⟩ := HO4.out.cell_ (k := k) (by have := HV.out.1; omega)
      injection hA2 with hA2
      injection hA2 with hA2
      subst hA2
      have HSET := Lib.hid (hset m)
      have qv := (kv.cell k).trans hcm
      have rv := kv.frozen
      have hgx : gv ≠ w1.heap.size := Blk.ne_ kv kx4 (by decide)
      have hgr : gv ≠ w.heap.size := Blk.ne_ kv kr4 (by decide)
      clear hset hcm
      refine wpAnyH_take (i := 6) (v := ?_) rfl (by kernel_rfl) (by kernel_rfl) (by kernel_rfl) (fun _ _ _ h => h) (Or.inl ⟨by rfl, fun w hSw => ?_⟩) hHeld ?_
      rotate_left
      · ((try dsimp only at hSw); go_split_ands; go_simp; (try with_reducible rfl))
      try simp only [Act.put, List.getElem_toArray, List.getElem_cons_zero, List.getElem_cons_succ, List.setIfInBounds_toArray, List.set_cons_zero, List.set_cons_succ]
      refine wpAnyH_ready (rs := [7]) (by kernel_rfl) (by simp) ?_
      refine AllReadyH.cons rfl (fun K hK => ?_) AllReadyH.nil
      try simp only [List.getElem_toArray, List.getElem_cons_zero, List.getElem_cons_succ]
      go_simp
      refine hK.out _ _ (Blk.cell blks) (fun hHeldN => ?_)
      clear hHeld hK K
      have hHeld := hHeldN
      clear hHeldN
      try simp only [Act.put, List.getElem_toArray, List.getElem_cons_zero, List.getElem_cons_succ, List.setIfInBounds_toArray, List.set_cons_zero, List.set_cons_succ]
      refine wpAnyH_done (by kernel_rfl) ?_ _
      refine NoPanic.normal ?_
      go_wp2_with fail
      go_round
      case rel => exact ⟨k + 1, vs.set k m, q + 1, by omega, by go_num, ⟨by simpa using HV.out.1, by
          rw [List.all_eq_true]
          intro x hx
          rcases List.mem_or_eq_of_mem_set hx with h | h
          · exact List.all_eq_true.1 HV.out.2 x h
          · rw [h]; exact HM.out⟩, HSET.out, HP4.out.set_ne (q := ⟨gv, k, none⟩) (fun e => DJ.out gv rfl e) _, kr4.far (by simp only; omega) _, kx4.far (by simp only; omega) _, HR4.out.set_ (by simp only; omega) _, by omega, HF4.out.set_ (Or.inr (by simp only; omega)) _⟩
      case measure => simp [intOf]; omega
    · obtain rfl : k = 8 := by omega
      go_wp2_with fail
      refine (c_numL g q [3, 4, 2, 5, 1, 0, 8] _ _ _ _ (HR.out.below bel) (by omega) blks (by rfl) (by have := HR.out.lt; omega) (by rfl) (by decide) (by decide)).mono ?_
      rintro e w2 ⟨m, hm, rfl, hR, hF⟩
      replace kr := (kr.alloc (.cells #[.int .i64 3, .int .i64 4, .int .i64 2, .int .i64 5, .int .i64 1, .int .i64 0, .int .i64 8] tI)).fr hF (by omega)
      replace kx := (kx.alloc (.cells #[.int .i64 3, .int .i64 4, .int .i64 2, .int .i64 5, .int .i64 1, .int .i64 0, .int .i64 8] tI)).fr hF (by omega)
      have HF2 : Hid (Fr g w w2) := (HF.out.alloc _).trans hF
      have hO2 := (HO.out.below (bbox (Below.refl _ _) (.cells #[.int .i64 3, .int .i64 4, .int .i64 2, .int .i64 5, .int .i64 1, .int .i64 0, .int .i64 8] tI))).fr hF hlt
      have hP2 := (HP.out.below (bbox (Below.refl _ _) (.cells #[.int .i64 3, .int .i64 4, .int .i64 2, .int .i64 5, .int .i64 1, .int .i64 0, .int .i64 8] tI))).fr hF hlt
      obtain ⟨k1, rfl⟩ := Int.eq_ofNat_of_zero_le ((by decide : ∀ m ∈ [(3 : Int), 4, 2, 5, 1, 0, 8], 0 ≤ m) m hm)
      have hk8 : k1 ≤ 8 := by have := (by decide : ∀ m ∈ [(3 : Int), 4, 2, 5, 1, 0, 8], m ≤ 8) _ hm; omega
      have HR2 := Lib.hid hR
      clear hm hR hF HF HR HO HP lx
      go_wp2_with fail
      go_loopw [5] (fun i wx => ∃ (k : Nat) (hs : List Int) (q' : Nat), i = .int .i64 k ∧ k ≤ 8 ∧ Hid (hs.length = 8 ∧ hs.all cellB = true) ∧ IntsO wx w.heap.size (.slice A 8 c) vs ∧ IntsO wx w.heap.size (.slice B 8 d) hs ∧ Blk wx w.heap.size tSt #[.slice none 0 0, .slice none 0 0] ∧ Blk wx w1.heap.size tSt #[.slice A 8 c, .slice B 8 d] ∧ Hid (Rdr wx g q') ∧ q' + 2 * k ≤ p + 30 ∧ Hid (Fr g w wx)) (fun i _ => (intOf i).toNat)
      case atStart => exact ⟨k1, List.replicate 8 (-1), q + 1, rfl, hk8, ⟨by simp, by decide⟩, hO2, hP2, kr, kx, HR2.out, by omega, HF2.out⟩
      case round =>
        clear kr kx HF2 HR2 hO2 hP2 hk8
        obtain ⟨k, hs, q', rfl, hk, HH, hO, hP, kr, kx, HR, hq', HF⟩ := hrel
        have HO := Lib.hid hO
        have HP := Lib.hid hP
        have hsz := HF.out.size
        have lx := kx.lt
        have lr := kr.lt
        clear hO hP
        by_cases hk0 : 0 < k
        · have hki : (0 : Int) < (k : Int) := by omega
          obtain ⟨gv, cur0, -, hA, hgv, -, -, -⟩ := HP.out.cell_ (k := 0) (by have := HH.out.1; omega)
          subst hA
          go_wp2_with fail
          refine wp_region_noPanic ?_
          refine wp_region_held_drew (S := (fun w' => ∀ i, w'.cell? ⟨w1.heap.size, i, none⟩ = #[.slice A 8 c, .slice (some ⟨gv, 0, none⟩) 8 d][i]?)) (by kernel_rfl) (Blk.cell blks) (fun hHeld => ?_)
          refine wpAnyH_take (i := 0) (v := ?_) rfl (by kernel_rfl) (by kernel_rfl) (by kernel_rfl) (fun _ _ _ h => h) (Or.inl ⟨by rfl, fun w hSw => ?_⟩) hHeld ?_
          rotate_left
          · ((try dsimp only at hSw); go_split_ands; go_simp; (try with_reducible rfl))
          try simp only [Act.put, List.getElem_toArray, List.getElem_cons_zero, List.getElem_cons_succ, List.setIfInBounds_toArray, List.set_cons_zero, List.set_cons_succ]
          refine wpAnyH_take (i := 1) (v := ?_) rfl (by kernel_rfl) (by kernel_rfl) (by kernel_rfl) (fun _ _ _ h => h) (Or.inl ⟨by rfl, fun w hSw => ?_⟩) hHeld ?_
          rotate_left
          · ((try dsimp only at hSw); go_split_ands; go_simp; (try with_reducible rfl))
          try simp only [Act.put, List.getElem_toArray, List.getElem_cons_zero, List.getElem_cons_succ, List.setIfInBounds_toArray, List.set_cons_zero, List.set_cons_succ]
          refine wpAnyH_take (i := 2) (v := ?_) rfl (by kernel_rfl) (by kernel_rfl) (by kernel_rfl) (fun _ _ _ h => h) (Or.inl ⟨by rfl, fun w hSw => ?_⟩) hHeld ?_
          rotate_left
          · ((try dsimp only at hSw); go_split_ands; go_simp; (try with_reducible rfl))
          try simp only [Act.put, List.getElem_toArray, List.getElem_cons_zero, List.getElem_cons_succ, List.setIfInBounds_toArray, List.set_cons_zero, List.set_cons_succ]
          refine wpAnyH_take (i := 4) (v := ?_) rfl (by kernel_rfl) (by kernel_rfl) (by kernel_rfl) (fun _ _ _ h => h) (Or.inl ⟨by rfl, fun w hSw => ?_⟩) hHeld ?_
          rotate_left
          · ((try dsimp only at hSw); go_split_ands; go_simp; (try with_reducible rfl))
          try simp only [Act.put, List.getElem_toArray, List.getElem_cons_zero, List.getElem_cons_succ, List.setIfInBounds_toArray, List.set_cons_zero, List.set_cons_succ]
          refine wpAnyH_par [3, 5, 6] #[true, true, true, true, true, true, true, false, false] 3 (by kernel_rfl) hHeld
            (fun a0 D a w' => Fr g wr w' ∧ (∃ qq, Rdr w' g qq ∧ qq ≤ q' + (dn D 3).toNat + (dn D 6).toNat) ∧ ∃ v28 v30 v31, a = (((a0.put (some 28) v28).put (some 30) v30).put (some 31) v31) ∧
              (dn D 3 = true → ∃ m : Nat, (m = 0 ∨ (m : Int) < 8) ∧ v28 = .int .i64 (m : Int)) ∧
              (dn D 5 = true → ∃ x, v30 = .slice (some ⟨x, 0, none⟩) 6 6 ∧ g < x ∧ Blk w' x tI #[.int .i64 0, .int .i64 2, .int .i64 3, .int .i64 1, .int .i64 4, .int .i64 5]) ∧
              (dn D 6 = true → ∃ m, m ∈ [(0 : Int), 2, 3, 1, 4, 5] ∧ v31 = .int .i64 m)) ?start ?steps ?fin
          case start =>
            refine ⟨(Fr.refl g wr).drew, ⟨q', HR.out.below bel, by omega⟩, u28, u30, u31, rfl, ?_, ?_, ?_⟩
            all_goals exact fun h => absurd h (by decide)
          case steps =>
            refine ParSteps.cons rfl (fun D a w' hu hd hI hS K' hK G hG => ?_) (ParSteps.cons rfl (fun D a w' hu hd hI hS K' hK G hG => ?_) (ParSteps.cons rfl (fun D a w' hu hd hI hS K' hK G hG => ?_) (ParSteps.nil)))
            · obtain ⟨hF, ⟨qq, hR, hqq⟩, v28, v30, v31, ha, h3, h5, h6⟩ := hI
              rw [ha] at hG
              clear ha a
              replace hqq := Lib.hid hqq
              replace hR := Lib.hid hR
              replace hF := Lib.hid hF
              replace hS := Lib.hid hS
              replace h3 := Lib.hid h3
              replace h5 := Lib.hid h5
              replace h6 := Lib.hid h6
              refine hG ?_
              clear hG
              try simp only [Act.put, List.setIfInBounds_toArray, List.set_cons_zero, List.set_cons_succ]
              go_simp
              refine (c_pick g qq 8 _ hR.out (by have := hqq.out; have := Bool.toNat_le (dn D 3); have := Bool.toNat_le (dn D 6); omega)).mono ?_
              rintro e w2 ⟨m, rfl, hmb, hR2, hF2⟩
              have hF3 := hF.out.trans hF2
              exact hK.out _ _ (fun i => (kx.fr hF3 (by omega)).cell i) ⟨hF3, ⟨qq + 1, hR2, (by have z := hqq.out; rw [dn_un hu] at z; rw [dn_self hu, dn_ne (show 3 ≠ 6 by decide)]; simp only [Bool.toNat_true, Bool.toNat_false] at z ⊢; omega)⟩, (.int .i64 (m : Int)), v30, v31, rfl, fun _ => ⟨m, hmb, rfl⟩, dn_keep (by decide) h5.out (fun ⟨x, e, hx, hb⟩ => ⟨x, e, hx, hb.fr hF2 (by omega)⟩), dn_keep (by decide) h6.out id⟩
            · obtain ⟨hF, ⟨qq, hR, hqq⟩, v28, v30, v31, ha, h3, h5, h6⟩ := hI
              rw [ha] at hG
              clear ha a
              replace hqq := Lib.hid hqq
              replace hR := Lib.hid hR
              replace hF := Lib.hid hF
              replace hS := Lib.hid hS
              replace h3 := Lib.hid h3
              replace h5 := Lib.hid h5
              replace h6 := Lib.hid h6
              refine hG ?_
              clear hG
              try simp only [Act.put, List.setIfInBounds_toArray, List.set_cons_zero, List.set_cons_succ]
              go_simp
              have hF3 := hF.out.alloc (.cells #[.int .i64 0, .int .i64 2, .int .i64 3, .int .i64 1, .int .i64 4, .int .i64 5] tI)
              exact hK.out _ _ (fun i => (kx.fr hF3 (by omega)).cell i) ⟨hF3, ⟨qq, hR.out.below bel, (by rw [dn_ne (show 5 ≠ 3 by decide), dn_ne (show 5 ≠ 6 by decide)]; exact hqq.out)⟩, v28, (.slice (some ⟨w'.heap.size, 0, none⟩) 6 6), v31, rfl, dn_keep (by decide) h3.out id, fun _ => ⟨w'.heap.size, rfl, hR.out.lt, Blk.new _ _ _⟩, dn_keep (by decide) h6.out id⟩
            · obtain ⟨hF, ⟨qq, hR, hqq⟩, v28, v30, v31, ha, h3, h5, h6⟩ := hI
              rw [ha] at hG
              clear ha a
              replace hqq := Lib.hid hqq
              replace hR := Lib.hid hR
              replace hF := Lib.hid hF
              replace hS := Lib.hid hS
              replace h3 := Lib.hid h3
              replace h5 := Lib.hid h5
              replace h6 := Lib.hid h6
              have d5 : dn D 5 = true := hd ⟨5, .data⟩ (by simp) (by decide)
              obtain ⟨x, rfl, hx, hb⟩ := h5.out d5
              clear h5 hd
              refine hG ?_
              clear hG
              try simp only [Act.put, List.setIfInBounds_toArray, List.set_cons_zero, List.set_cons_succ]
              go_simp
              refine (c_numL g qq [(0 : Int), 2, 3, 1, 4, 5] x 6 _ _ hR.out (by have := hqq.out; have := Bool.toNat_le (dn D 3); have := Bool.toNat_le (dn D 6); omega) hb (by rfl) hx (by rfl) (by decide) (by decide)).mono ?_
              rintro e w2 ⟨m, hm, rfl, hR2, hF2⟩
              have hF3 := hF.out.trans hF2
              exact hK.out _ _ (fun i => (kx.fr hF3 (by omega)).cell i) ⟨hF3, ⟨qq + 1, hR2, (by have z := hqq.out; rw [dn_un hu] at z; rw [dn_self hu, dn_ne (show 6 ≠ 3 by decide)]; simp only [Bool.toNat_true, Bool.toNat_false] at z ⊢; omega)⟩, v28, (.slice (some ⟨x, 0, none⟩) 6 6), (.int .i64 m), rfl, dn_keep (by decide) h3.out id, fun _ => ⟨x, rfl, hx, hb.fr hF2 (by omega)⟩, fun _ => ⟨m, hm, rfl⟩⟩
          case fin =>
            rintro a w4 hHeld ⟨hF, ⟨qq, hR, hqq⟩, v28, v30, v31, rfl, h3, h5, h6⟩
            obtain ⟨m3, hm3, rfl⟩ := h3 (by decide)
            obtain ⟨m6, hm6, rfl⟩ := h6 (by decide)
            replace hqq : qq ≤ q' + 2 := hqq
            clear h5
            try simp only [Act.put, List.setIfInBounds_toArray, List.set_cons_zero, List.set_cons_succ]
            have kx4 := kx.fr hF (show w1.heap.size ≠ g by omega)
            have kr4 := kr.fr hF (show w.heap.size ≠ g by omega)
            have HO4 := Lib.hid (HO.out.fr hF hlt)
            have HP4 := Lib.hid (HP.out.fr hF hlt)
            have HR4 := Lib.hid hR
            have HF4 := Lib.hid (HF.out.trans hF)
            have HM := Lib.hid ((by decide : ∀ m ∈ [(0 : Int), 2, 3, 1, 4, 5], cellB m = true) m6 hm6)
            have hm8 : m3 < 8 := by omega
            have hm8i : (m3 : Int) < 8 := by omega
            clear hF hR hm6 hm3 kx kr
            obtain ⟨gv2, cur, -, hA2, hgv2, kv, hcm, hset⟩ := HP4.out.cell_ (k := m3) (by have := HH.out.1; omega)
            injection hA2 with hA2
            injection hA2 with hA2
            subst hA2
            have HSET := Lib.hid (hset m6)
            have qv := (kv.cell m3).trans hcm
            have rv := kv.frozen
            have hgx : gv ≠ w1.heap.size := Blk.ne_ kv kx4 (by decide)
            have hgr : gv ≠ w.heap.size := Blk.ne_ kv kr4 (by decide)
            clear hset hcm
            refine wpAnyH_take (i := 7) (v := ?_) rfl (by kernel_rfl) (by kernel_rfl) (by kernel_rfl) (fun _ _ _ h => h) (Or.inl ⟨by rfl, fun w hSw => ?_⟩) hHeld ?_
            rotate_left
            · ((try dsimp only at hSw); go_split_ands; go_simp; (try with_reducible rfl))
            try simp only [Act.put, List.getElem_toArray, List.getElem_cons_zero, List.getElem_cons_succ, List.setIfInBounds_toArray, List.set_cons_zero, List.set_cons_succ]
            refine wpAnyH_ready (rs := [8]) (by kernel_rfl) (by simp) ?_
            refine AllReadyH.cons rfl (fun K hK => ?_) AllReadyH.nil
            try simp only [List.getElem_toArray, List.getElem_cons_zero, List.getElem_cons_succ]
            go_simp
            refine hK.out _ _ (Blk.cell blks) (fun hHeldN => ?_)
            clear hHeld hK K
            have hHeld := hHeldN
            clear hHeldN
            try simp only [Act.put, List.getElem_toArray, List.getElem_cons_zero, List.getElem_cons_succ, List.setIfInBounds_toArray, List.set_cons_zero, List.set_cons_succ]
            refine wpAnyH_done (by kernel_rfl) ?_ _
            refine NoPanic.normal ?_
            go_wp2_with fail
            go_round
            case rel => exact ⟨k - 1, hs.set m3 m6, qq, by go_num, by omega, ⟨by simpa using HH.out.1, by
                rw [List.all_eq_true]
                intro x hx
                rcases List.mem_or_eq_of_mem_set hx with h | h
                · exact List.all_eq_true.1 HH.out.2 x h
                · rw [h]; exact HM.out⟩, HO4.out.set_ne (q := ⟨gv, m3, none⟩) (fun e => DJ.out gv e rfl) _, HSET.out, kr4.far (by simp only; omega) _, kx4.far (by simp only; omega) _, HR4.out.set_ (by simp only; omega) _, by omega, HF4.out.set_ (Or.inr (by simp only; omega)) _⟩
            case measure => simp [intOf]; omega
        · obtain rfl : k = 0 := by omega
          (replace qkr := kr.cell; replace rkr := kr.frozen; replace lkr := kr.lt; replace qkx := kx.cell; replace rkx := kx.frozen; replace lkx := kx.lt)
          have hne : w.heap.size ≠ w1.heap.size := by omega
          have HVAL : Hid ((⟨vs, hs⟩ : Ste).valid = true) := by
            show _ = _
            simp only [Ste.valid, Bool.and_eq_true, decide_eq_true_eq]
            exact ⟨⟨HV.out.1, HH.out.1⟩, HV.out.2, HH.out.2⟩
          have hvl := HV.out.1
          have hhl := HH.out.1
          go_wp2_with fail
          refine bodyPost_ret (v := .agg #[.slice A 8 c, .slice B 8 d]) (by simp [results, Tryz.results42, go_sem, qkr]) rfl ⟨_, ⟨vs, hs⟩, q', rfl, ⟨_, _, rfl, ?_, ?_, DJ.out⟩, HVAL.out, ?_, by omega, ?_⟩
          · exact (HO.out.setT kr (by decide) 0 _).setT (kr.set_ 0 _) (by decide) 1 _
          · exact (HP.out.setT kr (by decide) 0 _).setT (kr.set_ 0 _) (by decide) 1 _
          · exact (HR.out.set_ (by simp only; omega) _).set_ (by simp only; omega) _
          · exact (HF.out.set_ (Or.inr (by simp only; omega)) _).set_ (Or.inr (by simp only; omega)) _
end Go.Proofs.YteogcababfenfaaGreat

/- What the reader draws: states, sometimes made invalid. -/
namespace Go.Proofs.YteogcababfenfaaGreat
open Go Go.RowKit Go.Proofs

--@ spec.l2Mutate
set_option maxRecDepth 100000 in
set_option maxHeartbeats 6400000 in
theorem c_l2Mutate {lo hi : Nat} (g p : Nat) (v : Value) (s : Ste) (w : World) (h : Rdr w g p) (hp : p ≤ 999900) (hs : StateV w lo hi v s) (hl : s.values.length ≤ 900) (hl2 : s.heap.length ≤ 900) :
    Calls Tryz.prog 37 #[.pointer (some ⟨g, 0, none⟩), v] w fun e w' => ∃ r s' q, e = .returned r ∧ StateO w' w.heap.size r s' ∧ s'.values.length ≤ 900 ∧ s'.heap.length ≤ 901 ∧ Rdr w' g q ∧ q ≤ p + 4 ∧ Fr g w w' := by
  have H := Lib.hid h
  have hV := Lib.hid hs
  have hlt := h.lt
  obtain ⟨A1, c1, A2, c2, rfl, -, -⟩ := hs
  clear h
  go_enter Tryz.func37, Tryz.ntmps37
  have kr : Blk ((w.alloc (.cells #[.slice A1 s.values.length c1, .slice A2 s.heap.length c2] tSt)).alloc (.cells #[.slice none 0 0, .slice none 0 0] tSt)) (w.heap.size + 1) tSt #[.slice none 0 0, .slice none 0 0] := blks
  go_wp2_with fail
  refine (c_l2Copy _ s _ (hV.out.below bel)).mono ?_
  rintro e w1 ⟨r, rfl, o, hB1⟩
  have hB := bgo (w := w) bel hB1
  replace kr := kr.next hB1
  replace o := o.lower (base' := w.heap.size) (by simp; omega)
  obtain ⟨fv, av, rfl, o1, o2, dj⟩ := o
  obtain ⟨A, c, rfl, -⟩ := o1.reads
  obtain ⟨B, d, rfl, -⟩ := o2.reads
  have DJ := Lib.hid dj
  have HF1 : Hid (Fr g w w1) := Fr.ofBelow hB
  have HR1 : Hid (Rdr w1 g p) := H.out.below hB
  have l1 := kr.lt
  have ko : Blk (w1.alloc (.cells #[.slice A s.values.length c, .slice B s.heap.length d] tSt)) w1.heap.size tSt #[.slice A s.values.length c, .slice B s.heap.length d] := Blk.new _ _ _
  have O1 := Lib.hid (o1.below (bbox (Below.refl _ _) (.cells #[.slice A s.values.length c, .slice B s.heap.length d] tSt)))
  have O2 := Lib.hid (o2.below (bbox (Below.refl _ _) (.cells #[.slice A s.values.length c, .slice B s.heap.length d] tSt)))
  clear hB1 hB o1 o2 dj
  go_wp2_with fail
  refine (c_pick g p 50 _ (HR1.out.below bel) (by omega)).mono ?_
  rintro e w2 ⟨m, rfl, -, hR, hF⟩
  replace kr := (kr.alloc (.cells #[.slice A s.values.length c, .slice B s.heap.length d] tSt)).fr hF (by omega)
  replace ko := ko.fr hF (by omega)
  have HF2 := Lib.hid ((HF1.out.alloc _).trans hF)
  have HR2 := Lib.hid hR
  have HO1 := Lib.hid (O1.out.fr hF hlt)
  have HO2 := Lib.hid (O2.out.fr hF hlt)
  have lk := ko.lt
  have hne : w.heap.size + 1 ≠ w1.heap.size := by omega
  clear hR hF HF1 HR1 O1 O2
  (replace qko := ko.cell; replace rko := ko.frozen; replace lko := ko.lt; replace qkr := kr.cell; replace rkr := kr.frozen; replace lkr := kr.lt)
  by_cases hm0 : (m : Int) = 0
  · have t0 : ((m : Int) == 0) = true := by simpa using hm0
    clear hm0
    by_cases hln : 0 < s.values.length
    · have hlni : (0 : Int) < (s.values.length : Int) := by omega
      obtain ⟨gv, cur0, -, hA, hgv, -, -, -⟩ := HO1.out.cell_ (k := 0) hln
      subst hA
      go_wp2_with fail
      refine wp_region_noPanic ?_
      refine wp_region_held_drew (S := (fun w' => ∀ i, w'.cell? ⟨w1.heap.size, i, none⟩ = #[.slice (some ⟨gv, 0, none⟩) s.values.length c, .slice B s.heap.length d][i]?)) (by kernel_rfl) (Blk.cell blks) (fun hHeld => ?_)
      refine wpAnyH_take (i := 0) (v := ?_) rfl (by kernel_rfl) (by kernel_rfl) (by kernel_rfl) (fun _ _ _ h => h) (Or.inl ⟨by rfl, fun w hSw => ?_⟩) hHeld ?_
      rotate_left
      · ((try dsimp only at hSw); go_split_ands; go_simp; (try with_reducible rfl))
      try simp only [Act.put, List.getElem_toArray, List.getElem_cons_zero, List.getElem_cons_succ, List.setIfInBounds_toArray, List.set_cons_zero, List.set_cons_succ]
      refine wpAnyH_take (i := 1) (v := ?_) rfl (by kernel_rfl) (by kernel_rfl) (by kernel_rfl) (fun _ _ _ h => h) (Or.inl ⟨by rfl, fun w hSw => ?_⟩) hHeld ?_
      rotate_left
      · ((try dsimp only at hSw); go_split_ands; go_simp; (try with_reducible rfl))
      try simp only [Act.put, List.getElem_toArray, List.getElem_cons_zero, List.getElem_cons_succ, List.setIfInBounds_toArray, List.set_cons_zero, List.set_cons_succ]
      refine wpAnyH_take (i := 2) (v := ?_) rfl (by kernel_rfl) (by kernel_rfl) (by kernel_rfl) (fun _ _ _ h => h) (Or.inl ⟨by rfl, fun w hSw => ?_⟩) hHeld ?_
      rotate_left
      · ((try dsimp only at hSw); go_split_ands; go_simp; (try with_reducible rfl))
      try simp only [Act.put, List.getElem_toArray, List.getElem_cons_zero, List.getElem_cons_succ, List.setIfInBounds_toArray, List.set_cons_zero, List.set_cons_succ]
      refine wpAnyH_ready (rs := [3]) (by kernel_rfl) (by simp) ?_
      refine AllReadyH.cons rfl (fun K hK => ?_) AllReadyH.nil
      try simp only [List.getElem_toArray, List.getElem_cons_zero, List.getElem_cons_succ]
      go_simp
      refine hK.out _ _ (Blk.cell blks) (fun hHeldN => ?_)
      clear hHeld hK K
      have hHeld := hHeldN
      clear hHeldN
      try simp only [Act.put, List.getElem_toArray, List.getElem_cons_zero, List.getElem_cons_succ, List.setIfInBounds_toArray, List.set_cons_zero, List.set_cons_succ]
      refine wpAnyH_ready (rs := [4]) (by kernel_rfl) (by simp) ?_
      refine AllReadyH.cons rfl (fun K hK => ?_) AllReadyH.nil
      try simp only [List.getElem_toArray, List.getElem_cons_zero, List.getElem_cons_succ]
      (go_simp; refine (c_numL g (p + 1) [9, -1, 9223372036854775807] _ _ _ _ (HR2.out.below bel) (by omega) blks (by rfl) (by first | (have := HR2.out.lt; omega) | (have := HR2.out.lt; simp; omega)) (by rfl) (by decide) (by decide)).mono ?_; rintro e w5 ⟨m5, -, rfl, hR, hF⟩; have kx5 := Blk.fr (a := w2.drew.alloc (.cells #[.int .i64 9, .int .i64 (-1), .int .i64 9223372036854775807] tI)) blks hF (show w1.heap.size ≠ g by omega); have kr5 : Blk w5 (w.heap.size + 1) tSt #[.slice none 0 0, .slice none 0 0] := Blk.fr (a := w2.drew.alloc (.cells #[.int .i64 9, .int .i64 (-1), .int .i64 9223372036854775807] tI)) blks hF (by omega); have HO5 := Lib.hid ((HO1.out.below (w' := w2.drew.alloc (.cells #[.int .i64 9, .int .i64 (-1), .int .i64 9223372036854775807] tI)) bel).fr hF hlt); have HP5 := Lib.hid ((HO2.out.below (w' := w2.drew.alloc (.cells #[.int .i64 9, .int .i64 (-1), .int .i64 9223372036854775807] tI)) bel).fr hF hlt); have HR5 := Lib.hid hR; have HF5 := Lib.hid ((HF2.out.drew.alloc _).trans hF); clear hR hF)
      refine hK.out _ _ (kx5.cell) (fun hHeldN => ?_)
      clear hHeld hK K
      have hHeld := hHeldN
      clear hHeldN
      try simp only [Act.put, List.getElem_toArray, List.getElem_cons_zero, List.getElem_cons_succ, List.setIfInBounds_toArray, List.set_cons_zero, List.set_cons_succ]
      obtain ⟨gv2, cur, -, hA2, hgv2, kv, hcm, hset⟩ := HO5.out.cell_ (k := 0) hln
      injection hA2 with hA2
      injection hA2 with hA2
      subst hA2
      have HSET := Lib.hid (hset m5)
      have HQ5 := Lib.hid (HP5.out.set_ne (q := ⟨gv, 0, none⟩) (fun e => DJ.out gv rfl e) (.int .i64 m5))
      have qv := (kv.cell 0).trans hcm
      have rv := kv.frozen
      have hgx : gv ≠ w1.heap.size := Blk.ne_ kv kx5 (by decide)
      have hgr : gv ≠ w.heap.size + 1 := Blk.ne_ kv kr5 (by decide)
      clear hset hcm
      refine wpAnyH_take (i := 5) (v := ?_) rfl (by kernel_rfl) (by kernel_rfl) (by kernel_rfl) (fun _ _ _ h => h) (Or.inl ⟨by rfl, fun w hSw => ?_⟩) hHeld ?_
      rotate_left
      · ((try dsimp only at hSw); go_split_ands; go_simp; (try with_reducible rfl))
      try simp only [Act.put, List.getElem_toArray, List.getElem_cons_zero, List.getElem_cons_succ, List.setIfInBounds_toArray, List.set_cons_zero, List.set_cons_succ]
      refine wpAnyH_ready (rs := [6]) (by kernel_rfl) (by simp) ?_
      refine AllReadyH.cons rfl (fun K hK => ?_) AllReadyH.nil
      try simp only [List.getElem_toArray, List.getElem_cons_zero, List.getElem_cons_succ]
      go_simp
      refine hK.out _ _ (Blk.cell blks) (fun hHeldN => ?_)
      clear hHeld hK K
      have hHeld := hHeldN
      clear hHeldN
      try simp only [Act.put, List.getElem_toArray, List.getElem_cons_zero, List.getElem_cons_succ, List.setIfInBounds_toArray, List.set_cons_zero, List.set_cons_succ]
      refine wpAnyH_done (by kernel_rfl) ?_ _
      refine NoPanic.normal ?_
      have kr6 := kr5.far (p := ⟨gv, 0, none⟩) (by simp only; omega) (.int .i64 m5)
      have kx6 := kx5.far (p := ⟨gv, 0, none⟩) (by simp only; omega) (.int .i64 m5)
      (replace qkr6 := kr6.cell; replace rkr6 := kr6.frozen; replace lkr6 := kr6.lt; replace qkx6 := kx6.cell; replace rkx6 := kx6.frozen; replace lkx6 := kx6.lt)
      go_wp2_with fail
      refine bodyPost_ret (v := .agg #[.slice (some ⟨gv, 0, none⟩) s.values.length c, .slice B s.heap.length d]) (by simp [results, Tryz.results37, go_sem, qkr6]) rfl ⟨_, rfl, ⟨s.values.set 0 m5, s.heap⟩, ⟨_, _, rfl, ?_, ?_, DJ.out⟩, by (try simp only [List.length_set]); omega, by (try simp only [List.length_set]); omega, p + 1 + 1, ?_, by omega, ?_⟩
      · exact by simpa using (HSET.out.setT kr6 (by decide) 0 _).setT (kr6.set_ 0 _) (by decide) 1 _
      · exact (HQ5.out.setT kr6 (by decide) 0 _).setT (kr6.set_ 0 _) (by decide) 1 _
      · exact ((HR5.out.set_ (by simp only; omega) _).set_ (by simp only; omega) _).set_ (by simp only; omega) _
      · exact ((HF5.out.set_ (Or.inr (by simp only; omega)) _).set_ (Or.inr (by simp only; omega)) _).set_ (Or.inr (by simp only; omega)) _
    · have hlni : ¬ (0 : Int) < (s.values.length : Int) := by omega
      go_wp2_with fail
      refine bodyPost_ret (v := .agg #[.slice A s.values.length c, .slice B s.heap.length d]) (by simp [results, Tryz.results37, go_sem, qkr]) rfl ⟨_, s, p + 1, rfl, ⟨_, _, rfl, ?_, ?_, DJ.out⟩, by omega, by omega, ?_, by omega, ?_⟩
      · exact (HO1.out.setT kr (by decide) 0 _).setT (kr.set_ 0 _) (by decide) 1 _
      · exact (HO2.out.setT kr (by decide) 0 _).setT (kr.set_ 0 _) (by decide) 1 _
      · exact (HR2.out.set_ (by simp only; omega) _).set_ (by simp only; omega) _
      · exact (HF2.out.set_ (Or.inr (by simp only; omega)) _).set_ (Or.inr (by simp only; omega)) _
  · have t0 : ((m : Int) == 0) = false := by simpa using hm0
    clear hm0
    by_cases hm1 : (m : Int) = 1
    · have t1 : ((m : Int) == 1) = true := by simpa using hm1
      clear hm1
      by_cases hln : 0 < s.heap.length
      · have hlni : (0 : Int) < (s.heap.length : Int) := by omega
        obtain ⟨gv, cur0, -, hA, hgv, -, -, -⟩ := HO2.out.cell_ (k := 0) hln
        subst hA
        go_wp2_with fail
        refine wp_region_noPanic ?_
        refine wp_region_held_drew (S := (fun w' => ∀ i, w'.cell? ⟨w1.heap.size, i, none⟩ = #[.slice A s.values.length c, .slice (some ⟨gv, 0, none⟩) s.heap.length d][i]?)) (by kernel_rfl) (Blk.cell blks) (fun hHeld => ?_)
        refine wpAnyH_take (i := 0) (v := ?_) rfl (by kernel_rfl) (by kernel_rfl) (by kernel_rfl) (fun _ _ _ h => h) (Or.inl ⟨by rfl, fun w hSw => ?_⟩) hHeld ?_
        rotate_left
        · ((try dsimp only at hSw); go_split_ands; go_simp; (try with_reducible rfl))
        try simp only [Act.put, List.getElem_toArray, List.getElem_cons_zero, List.getElem_cons_succ, List.setIfInBounds_toArray, List.set_cons_zero, List.set_cons_succ]
        refine wpAnyH_take (i := 1) (v := ?_) rfl (by kernel_rfl) (by kernel_rfl) (by kernel_rfl) (fun _ _ _ h => h) (Or.inl ⟨by rfl, fun w hSw => ?_⟩) hHeld ?_
        rotate_left
        · ((try dsimp only at hSw); go_split_ands; go_simp; (try with_reducible rfl))
        try simp only [Act.put, List.getElem_toArray, List.getElem_cons_zero, List.getElem_cons_succ, List.setIfInBounds_toArray, List.set_cons_zero, List.set_cons_succ]
        refine wpAnyH_take (i := 2) (v := ?_) rfl (by kernel_rfl) (by kernel_rfl) (by kernel_rfl) (fun _ _ _ h => h) (Or.inl ⟨by rfl, fun w hSw => ?_⟩) hHeld ?_
        rotate_left
        · ((try dsimp only at hSw); go_split_ands; go_simp; (try with_reducible rfl))
        try simp only [Act.put, List.getElem_toArray, List.getElem_cons_zero, List.getElem_cons_succ, List.setIfInBounds_toArray, List.set_cons_zero, List.set_cons_succ]
        refine wpAnyH_ready (rs := [3]) (by kernel_rfl) (by simp) ?_
        refine AllReadyH.cons rfl (fun K hK => ?_) AllReadyH.nil
        try simp only [List.getElem_toArray, List.getElem_cons_zero, List.getElem_cons_succ]
        go_simp
        refine hK.out _ _ (Blk.cell blks) (fun hHeldN => ?_)
        clear hHeld hK K
        have hHeld := hHeldN
        clear hHeldN
        try simp only [Act.put, List.getElem_toArray, List.getElem_cons_zero, List.getElem_cons_succ, List.setIfInBounds_toArray, List.set_cons_zero, List.set_cons_succ]
        refine wpAnyH_ready (rs := [4]) (by kernel_rfl) (by simp) ?_
        refine AllReadyH.cons rfl (fun K hK => ?_) AllReadyH.nil
        try simp only [List.getElem_toArray, List.getElem_cons_zero, List.getElem_cons_succ]
        (go_simp; refine (c_numL g (p + 1) [9, -2, -1] _ _ _ _ (HR2.out.below bel) (by omega) blks (by rfl) (by first | (have := HR2.out.lt; omega) | (have := HR2.out.lt; simp; omega)) (by rfl) (by decide) (by decide)).mono ?_; rintro e w5 ⟨m5, -, rfl, hR, hF⟩; have kx5 := Blk.fr (a := w2.drew.alloc (.cells #[.int .i64 9, .int .i64 (-2), .int .i64 (-1)] tI)) blks hF (show w1.heap.size ≠ g by omega); have kr5 : Blk w5 (w.heap.size + 1) tSt #[.slice none 0 0, .slice none 0 0] := Blk.fr (a := w2.drew.alloc (.cells #[.int .i64 9, .int .i64 (-2), .int .i64 (-1)] tI)) blks hF (by omega); have HO5 := Lib.hid ((HO2.out.below (w' := w2.drew.alloc (.cells #[.int .i64 9, .int .i64 (-2), .int .i64 (-1)] tI)) bel).fr hF hlt); have HP5 := Lib.hid ((HO1.out.below (w' := w2.drew.alloc (.cells #[.int .i64 9, .int .i64 (-2), .int .i64 (-1)] tI)) bel).fr hF hlt); have HR5 := Lib.hid hR; have HF5 := Lib.hid ((HF2.out.drew.alloc _).trans hF); clear hR hF)
        refine hK.out _ _ (kx5.cell) (fun hHeldN => ?_)
        clear hHeld hK K
        have hHeld := hHeldN
        clear hHeldN
        try simp only [Act.put, List.getElem_toArray, List.getElem_cons_zero, List.getElem_cons_succ, List.setIfInBounds_toArray, List.set_cons_zero, List.set_cons_succ]
        obtain ⟨gv2, cur, -, hA2, hgv2, kv, hcm, hset⟩ := HO5.out.cell_ (k := 0) hln
        injection hA2 with hA2
        injection hA2 with hA2
        subst hA2
        have HSET := Lib.hid (hset m5)
        have HQ5 := Lib.hid (HP5.out.set_ne (q := ⟨gv, 0, none⟩) (fun e => DJ.out gv e rfl) (.int .i64 m5))
        have qv := (kv.cell 0).trans hcm
        have rv := kv.frozen
        have hgx : gv ≠ w1.heap.size := Blk.ne_ kv kx5 (by decide)
        have hgr : gv ≠ w.heap.size + 1 := Blk.ne_ kv kr5 (by decide)
        clear hset hcm
        refine wpAnyH_take (i := 5) (v := ?_) rfl (by kernel_rfl) (by kernel_rfl) (by kernel_rfl) (fun _ _ _ h => h) (Or.inl ⟨by rfl, fun w hSw => ?_⟩) hHeld ?_
        rotate_left
        · ((try dsimp only at hSw); go_split_ands; go_simp; (try with_reducible rfl))
        try simp only [Act.put, List.getElem_toArray, List.getElem_cons_zero, List.getElem_cons_succ, List.setIfInBounds_toArray, List.set_cons_zero, List.set_cons_succ]
        refine wpAnyH_ready (rs := [6]) (by kernel_rfl) (by simp) ?_
        refine AllReadyH.cons rfl (fun K hK => ?_) AllReadyH.nil
        try simp only [List.getElem_toArray, List.getElem_cons_zero, List.getElem_cons_succ]
        go_simp
        refine hK.out _ _ (Blk.cell blks) (fun hHeldN => ?_)
        clear hHeld hK K
        have hHeld := hHeldN
        clear hHeldN
        try simp only [Act.put, List.getElem_toArray, List.getElem_cons_zero, List.getElem_cons_succ, List.setIfInBounds_toArray, List.set_cons_zero, List.set_cons_succ]
        refine wpAnyH_done (by kernel_rfl) ?_ _
        refine NoPanic.normal ?_
        have kr6 := kr5.far (p := ⟨gv, 0, none⟩) (by simp only; omega) (.int .i64 m5)
        have kx6 := kx5.far (p := ⟨gv, 0, none⟩) (by simp only; omega) (.int .i64 m5)
        (replace qkr6 := kr6.cell; replace rkr6 := kr6.frozen; replace lkr6 := kr6.lt; replace qkx6 := kx6.cell; replace rkx6 := kx6.frozen; replace lkx6 := kx6.lt)
        go_wp2_with fail
        refine bodyPost_ret (v := .agg #[.slice A s.values.length c, .slice (some ⟨gv, 0, none⟩) s.heap.length d]) (by simp [results, Tryz.results37, go_sem, qkr6]) rfl ⟨_, rfl, ⟨s.values, s.heap.set 0 m5⟩, ⟨_, _, rfl, ?_, ?_, DJ.out⟩, by (try simp only [List.length_set]); omega, by (try simp only [List.length_set]); omega, p + 1 + 1, ?_, by omega, ?_⟩
        · exact (HQ5.out.setT kr6 (by decide) 0 _).setT (kr6.set_ 0 _) (by decide) 1 _
        · exact by simpa using (HSET.out.setT kr6 (by decide) 0 _).setT (kr6.set_ 0 _) (by decide) 1 _
        · exact ((HR5.out.set_ (by simp only; omega) _).set_ (by simp only; omega) _).set_ (by simp only; omega) _
        · exact ((HF5.out.set_ (Or.inr (by simp only; omega)) _).set_ (Or.inr (by simp only; omega)) _).set_ (Or.inr (by simp only; omega)) _
      · have hlni : ¬ (0 : Int) < (s.heap.length : Int) := by omega
        go_wp2_with fail
        refine bodyPost_ret (v := .agg #[.slice A s.values.length c, .slice B s.heap.length d]) (by simp [results, Tryz.results37, go_sem, qkr]) rfl ⟨_, s, p + 1, rfl, ⟨_, _, rfl, ?_, ?_, DJ.out⟩, by omega, by omega, ?_, by omega, ?_⟩
        · exact (HO1.out.setT kr (by decide) 0 _).setT (kr.set_ 0 _) (by decide) 1 _
        · exact (HO2.out.setT kr (by decide) 0 _).setT (kr.set_ 0 _) (by decide) 1 _
        · exact (HR2.out.set_ (by simp only; omega) _).set_ (by simp only; omega) _
        · exact (HF2.out.set_ (Or.inr (by simp only; omega)) _).set_ (Or.inr (by simp only; omega)) _
    · have t1 : ((m : Int) == 1) = false := by simpa using hm1
      clear hm1
      by_cases hm2 : (m : Int) = 2
      · have t2 : ((m : Int) == 2) = true := by simpa using hm2
        clear hm2
        go_wp2_with (at_builtin; refine appIX (ys := [-1]) (base := w.heap.size) rfl _ _ rfl rfl (HO2.out.below bel) rfl (Blk.newE rfl) (by rfl) (by simp; omega) (by simp; omega) ?_; intro A4 d4 w4 o4 hg4 hB4 hx4; have HX4 := Lib.hid hx4; clear hx4; rw [List.length_append, List.length_singleton] at o4 ⊢; have ko4 := Blk.grownO (hg := hg4) (ko.alloc _) (HO2.out.below (bbox (Below.refl _ _) _)).1 (by decide); have kr4 := Blk.grownO (hg := hg4) (kr.alloc _) (HO2.out.below (bbox (Below.refl _ _) _)).1 (by decide); have ov4 := IntsO.grown (HO1.out.below (bbox (Below.refl _ _) _)) hg4 DJ.out; (replace qko4 := ko4.cell; replace rko4 := ko4.frozen; replace lko4 := ko4.lt; replace qkr4 := kr4.cell; replace rkr4 := kr4.frozen; replace lkr4 := kr4.lt); clear hg4)
        have hF4 : Fr g w w4 := (HF2.out.alloc _).goB hB4 (Nat.le_refl _)
        have hR4 : Rdr w4 g (p + 1) := (HR2.out.below (bbox (Below.refl _ _) _)).belowB hB4 hlt
        have HD4 : Hid (∀ g, (Value.slice A s.values.length c).ownBlock = some g → (Value.slice A4 (s.heap.length + 1) d4).ownBlock ≠ some g) := fun g hg e => by
          have hlt2 := (HO1.out.1.lt g hg).2
          have hx4 := HX4.out
          rw [List.length_append, List.length_singleton] at hx4
          rcases hx4 with h | h
          · rw [h] at e; exact DJ.out g hg e
          · rw [h, World.size_alloc] at e; injection e with e; omega
        have krx := kr4.far (p := ⟨w1.heap.size, 1, none⟩) (by simp only; omega) (.slice A4 (s.heap.length + 1) d4)
        refine bodyPost_ret (v := .agg #[.slice A s.values.length c, .slice A4 (s.heap.length + 1) d4]) (by simp [results, Tryz.results37, go_sem, qkr4]) rfl ⟨_, ⟨s.values, s.heap ++ [-1]⟩, p + 1, rfl, ⟨_, _, rfl, ?_, ?_, ?_⟩, by simp only; omega, by simp; omega, ?_, by omega, ?_⟩
        · exact ((ov4.setT ko4 (by decide) 1 _).setT krx (by decide) 0 _).setT (krx.set_ 0 _) (by decide) 1 _
        · exact ((o4.setT ko4 (by decide) 1 _).setT krx (by decide) 0 _).setT (krx.set_ 0 _) (by decide) 1 _
        · exact HD4.out
        · exact ((hR4.set_ (by simp only; omega) _).set_ (by simp only; omega) _).set_ (by simp only; omega) _
        · exact ((hF4.set_ (Or.inr (by simp only; omega)) _).set_ (Or.inr (by simp only; omega)) _).set_ (Or.inr (by simp only; omega)) _
      · have t2 : ((m : Int) == 2) = false := by simpa using hm2
        clear hm2
        by_cases hm3 : (m : Int) = 3
        · have t3 : ((m : Int) == 3) = true := by simpa using hm3
          clear hm3
          go_wp2_with fail
          refine bodyPost_ret (v := .agg #[.slice none 0 0, .slice none 0 0]) (by simp [results, Tryz.results37, go_sem, qkr]) rfl ⟨_, ⟨[], []⟩, p + 1, rfl, ⟨_, _, rfl, IntsO.nil _ _, IntsO.nil _ _, fun g hg => by simp [Value.ownBlock] at hg⟩, by simp, by simp, ?_, by omega, ?_⟩
          · exact (HR2.out.set_ (by simp only; omega) _).set_ (by simp only; omega) _
          · exact (HF2.out.set_ (Or.inr (by simp only; omega)) _).set_ (Or.inr (by simp only; omega)) _
        · have t3 : ((m : Int) == 3) = false := by simpa using hm3
          clear hm3
          go_wp2_with fail
          refine bodyPost_ret (v := .agg #[.slice A s.values.length c, .slice B s.heap.length d]) (by simp [results, Tryz.results37, go_sem, qkr]) rfl ⟨_, s, p + 1, rfl, ⟨_, _, rfl, ?_, ?_, DJ.out⟩, by omega, by omega, ?_, by omega, ?_⟩
          · exact (HO1.out.setT kr (by decide) 0 _).setT (kr.set_ 0 _) (by decide) 1 _
          · exact (HO2.out.setT kr (by decide) 0 _).setT (kr.set_ 0 _) (by decide) 1 _
          · exact (HR2.out.set_ (by simp only; omega) _).set_ (by simp only; omega) _
          · exact (HF2.out.set_ (Or.inr (by simp only; omega)) _).set_ (Or.inr (by simp only; omega)) _
end Go.Proofs.YteogcababfenfaaGreat
