/- What the reader draws: states. -/
import Derived.Test.YtcgifoghggajgaaDrawB
import Derived.Test.YtcgifoghggajgaaMTlist
import Derived.Test.YtcgifoghggajgaaMCmdC
set_option linter.unusedSimpArgs false
set_option linter.unusedVariables false
namespace Go.Proofs.Ytcgifoghggajgaa
open Go Go.RowKit Go.Proofs

--@ spec.l2Blank
abbrev tSt : Nat := 58
def blankS : Ste := ⟨List.replicate 8 0, List.replicate 8 (-1)⟩
set_option maxRecDepth 100000 in
set_option maxHeartbeats 1600000 in
theorem c_l2Blank (w : World) : Calls Try.prog 216 #[] w fun e w' => ∃ r, e = .returned r ∧ StateO w' w.heap.size r blankS ∧ Below w.heap.size w w' := by
  go_enter Try.func216, Try.ntmps216
  have kr : Blk ((w.alloc (.cells #[.slice none 0 0, .slice none 0 0] tSt)).alloc (.cells #[.slice none 0 0, .slice none 0 0] tSt)) w.heap.size tSt #[.slice none 0 0, .slice none 0 0] := blks
  have ks : Blk ((w.alloc (.cells #[.slice none 0 0, .slice none 0 0] tSt)).alloc (.cells #[.slice none 0 0, .slice none 0 0] tSt)) (w.heap.size + 1) tSt #[.slice none 0 0, .slice none 0 0] := blks
  have hB : Below w.heap.size w ((w.alloc (.cells #[.slice none 0 0, .slice none 0 0] tSt)).alloc (.cells #[.slice none 0 0, .slice none 0 0] tSt)) := bel
  go_wp2_with fail
  go_loopw [2] (fun i wr => ∃ (k : Nat) (A : Option Addr) (c : Nat), k ≤ 8 ∧ i = .int .i64 k ∧ IntsO wr w.heap.size (.slice A k c) (List.replicate k 0) ∧ Blk wr w.heap.size tSt #[.slice none 0 0, .slice none 0 0] ∧ Blk wr (w.heap.size + 1) tSt #[.slice A k c, .slice none 0 0] ∧ Hid (Below w.heap.size w wr)) (fun i _ => 8 - (intOf i).toNat)
  case atStart => exact ⟨0, none, 0, by omega, rfl, IntsO.nil _ _, kr, ks, hB⟩
  case round =>
    clear kr ks hB
    obtain ⟨k, A, c, hk, rfl, hO, kr, ks, HB⟩ := hrel
    have HO := Lib.hid hO
    have hsz := HB.out.size
    have ls := ks.lt
    clear hO
    (replace qkr := kr.cell; replace rkr := kr.frozen; replace lkr := kr.lt; replace qks := ks.cell; replace rks := ks.frozen; replace lks := ks.lt)
    by_cases hlt : k < 8
    · have hki : (k : Int) < 8 := by omega
      go_wp2_with (at_builtin; refine appIX (ys := [0]) (base := w.heap.size) rfl _ _ rfl rfl (HO.out.below bel) rfl (Blk.newE rfl) (by rfl) (by simp; omega) (by simp; omega) ?_; intro A4 d4 w4 o4 hg4 hB4 hx4; rw [List.length_append, List.length_replicate, List.length_singleton] at o4 ⊢; have ks4 := Blk.grownO (hg := hg4) (ks.alloc _) (HO.out.below (bbox (Below.refl _ _) _)).1 (by decide); have kr4 := Blk.grownO (hg := hg4) (kr.alloc _) (HO.out.below (bbox (Below.refl _ _) _)).1 (by decide); (replace qks4 := ks4.cell; replace rks4 := ks4.frozen; replace lks4 := ks4.lt; replace qkr4 := kr4.cell; replace rkr4 := kr4.frozen; replace lkr4 := kr4.lt); clear hg4 hx4)
      have hBB : Below w.heap.size w w4 := ((HB.out.alloc hsz _).trans hB4)
      go_round
      case rel => exact ⟨k + 1, A4, d4, by omega, by go_num, by rw [List.replicate_succ']; exact o4.setT ks4 (by decide) 0 _, kr4.far (by simp) _, by simpa using ks4.set_ 0 (.slice A4 (k + 1) d4), hBB.setCell (p := ⟨w.heap.size + 1, 0, none⟩) (by simp only; omega) _⟩
      case measure => simp [intOf]; omega
    · obtain rfl : k = 8 := by omega
      go_wp2_with fail
      go_loopw [3] (fun i wx => ∃ (k : Nat) (B : Option Addr) (d : Nat), k ≤ 8 ∧ i = .int .i64 k ∧ IntsO wx w.heap.size (.slice A 8 c) (List.replicate 8 0) ∧ IntsO wx w.heap.size (.slice B k d) (List.replicate k (-1)) ∧ Hid (∀ g, (Value.slice A 8 c).ownBlock = some g → (Value.slice B k d).ownBlock ≠ some g) ∧ Blk wx w.heap.size tSt #[.slice none 0 0, .slice none 0 0] ∧ Blk wx (w.heap.size + 1) tSt #[.slice A 8 c, .slice B k d] ∧ Hid (Below w.heap.size w wx)) (fun i _ => 8 - (intOf i).toNat)
      case atStart => exact ⟨0, none, 0, by omega, rfl, HO.out, IntsO.nil _ _, (fun g _ h => by simp [Value.ownBlock] at h), kr, ks, HB.out⟩
      case round =>
        clear kr ks HB HO hsz ls qkr rkr lkr qks rks lks
        obtain ⟨k, B, d, hk, rfl, hO, hP, HD, kr, ks, HB⟩ := hrel
        have HO := Lib.hid hO
        have HP := Lib.hid hP
        have hsz := HB.out.size
        have ls := ks.lt
        clear hO hP
        (replace qkr := kr.cell; replace rkr := kr.frozen; replace lkr := kr.lt; replace qks := ks.cell; replace rks := ks.frozen; replace lks := ks.lt)
        by_cases hlt : k < 8
        · have hki : (k : Int) < 8 := by omega
          go_wp2_with (at_builtin; refine appIX (ys := [-1]) (base := w.heap.size) rfl _ _ rfl rfl (HP.out.below bel) rfl (Blk.newE rfl) (by rfl) (by simp; omega) (by simp; omega) ?_; intro A4 d4 w4 o4 hg4 hB4 hx4; have HX4 := Lib.hid hx4; clear hx4; rw [List.length_append, List.length_replicate, List.length_singleton] at o4 ⊢; have ks4 := Blk.grownO (hg := hg4) (ks.alloc _) (HP.out.below (bbox (Below.refl _ _) _)).1 (by decide); have kr4 := Blk.grownO (hg := hg4) (kr.alloc _) (HP.out.below (bbox (Below.refl _ _) _)).1 (by decide); have ov4 := IntsO.grown (HO.out.below (bbox (Below.refl _ _) _)) hg4 HD.out; (replace qks4 := ks4.cell; replace rks4 := ks4.frozen; replace lks4 := ks4.lt; replace qkr4 := kr4.cell; replace rkr4 := kr4.frozen; replace lkr4 := kr4.lt); clear hg4)
          have hBB : Below w.heap.size w w4 := ((HB.out.alloc hsz _).trans hB4)
          have HD4 : Hid (∀ g, (Value.slice A 8 c).ownBlock = some g → (Value.slice A4 (k + 1) d4).ownBlock ≠ some g) := fun g hg e => by
            have hlt2 := (HO.out.1.lt g hg).2
            have hx4 := HX4.out
            rw [List.length_append, List.length_replicate, List.length_singleton] at hx4
            rcases hx4 with h | h
            · rw [h] at e; exact HD.out g hg e
            · rw [h, World.size_alloc] at e; injection e with e; omega
          go_round
          case rel => exact ⟨.int .i64 ((k : Int) + 1), _, _, _, _, _, _, _, _, _, ⟨k + 1, A4, d4, by omega, by go_num, ov4.setT ks4 (by decide) 1 _, by rw [List.replicate_succ']; exact o4.setT ks4 (by decide) 1 _, HD4.out, kr4.far (by simp) _, by simpa using ks4.set_ 1 (.slice A4 (k + 1) d4), hBB.setCell (p := ⟨w.heap.size + 1, 1, none⟩) (by simp only; omega) _⟩, rfl⟩
          case measure => simp [intOf]; omega
        · obtain rfl : k = 8 := by omega
          have hne : w.heap.size ≠ w.heap.size + 1 := by omega
          go_wp2_with fail
          refine bodyPost_ret (v := .agg #[.slice A 8 c, .slice B 8 d]) (by simp [results, Try.results216, go_sem, qkr]) rfl ⟨_, rfl, ⟨_, _, rfl, ?_, ?_, HD.out⟩, ?_⟩
          · exact (HO.out.setT kr (by decide) 0 _).setT (kr.set_ 0 _) (by decide) 1 _
          · exact (HP.out.setT kr (by decide) 0 _).setT (kr.set_ 0 _) (by decide) 1 _
          · exact (HB.out.setCell (p := ⟨w.heap.size, 0, none⟩) (Nat.le_refl _) _).setCell (p := ⟨w.heap.size, 1, none⟩) (Nat.le_refl _) _

--@ spec.l2Copy
/-- two rows lie in different blocks -/
def Dj (v v' : Value) : Prop := ∀ g, v.ownBlock = some g → v'.ownBlock ≠ some g
theorem Dj.symm {v v' : Value} (h : Dj v v') : Dj v' v := fun g h1 h2 => h g h2 h1
theorem Dj.new {w : World} {b : Nat} {v : Value} {xs : List Int} (h : IntsO w b v xs) {v' : Value} {x : Nat} (he : v'.ownBlock = some x) (hx : w.heap.size ≤ x) : Dj v v' := fun g hg e => by
  have := (h.1.lt g hg).2
  rw [he] at e; injection e with e; omega
theorem Dj.step {w : World} {b : Nat} {v u v' : Value} {xs : List Int} (h : IntsO w b v xs) (hd : Dj v u) (h5 : v'.ownBlock = u.ownBlock ∨ v'.ownBlock = some w.heap.size) : Dj v v' := by
  rcases h5 with e | e
  · intro g hg; rw [e]; exact hd g hg
  · exact Dj.new h e (Nat.le_refl _)
set_option maxRecDepth 100000 in
set_option maxHeartbeats 3200000 in
theorem c_l2Copy {lo hi : Nat} (v : Value) (s : Ste) (w : World) (h : StateV w lo hi v s) : Calls Try.prog 109 #[v] w fun e w' => ∃ r, e = .returned r ∧ StateO w' w.heap.size r s ∧ Below w.heap.size w w' := by
  obtain ⟨A1, c1, A2, c2, rfl, h1, h2⟩ := h
  have H1 := Lib.hid h1
  have H2 := Lib.hid h2
  have hl1 := h1.le
  have hl2 := h2.le
  clear h1 h2
  go_enter Try.func109, Try.ntmps109
  have k0 : Blk ((w.alloc (.cells #[.slice A1 s.values.length c1, .slice A2 s.heap.length c2] tSt)).alloc (.cells #[.slice none 0 0, .slice none 0 0] tSt)) w.heap.size tSt #[.slice A1 s.values.length c1, .slice A2 s.heap.length c2] := blks
  have kr : Blk ((w.alloc (.cells #[.slice A1 s.values.length c1, .slice A2 s.heap.length c2] tSt)).alloc (.cells #[.slice none 0 0, .slice none 0 0] tSt)) (w.heap.size + 1) tSt #[.slice none 0 0, .slice none 0 0] := blks
  have hB : Below w.heap.size w ((w.alloc (.cells #[.slice A1 s.values.length c1, .slice A2 s.heap.length c2] tSt)).alloc (.cells #[.slice none 0 0, .slice none 0 0] tSt)) := bel
  go_wp2_with fail
  generalize ((w.alloc (.cells #[.slice A1 s.values.length c1, .slice A2 s.heap.length c2] tSt)).alloc (.cells #[.slice none 0 0, .slice none 0 0] tSt)) = W at k0 kr hB ⊢
  refine wp_region_noPanic ?_
  refine wp_region_held_drew (S := (fun w' => ∀ i, w'.cell? ⟨w.heap.size, i, none⟩ = #[.slice A1 s.values.length c1, .slice A2 s.heap.length c2][i]?)) (by kernel_rfl) (k0.drew.cell) (fun hHeld => ?_)
  refine wpAnyH_take (i := 1) (v := ?_) rfl (by kernel_rfl) (by kernel_rfl) (by kernel_rfl) (fun _ _ _ h => h) (Or.inl ⟨by rfl, fun w hSw => ?_⟩) hHeld ?_
  rotate_left
  · ((try dsimp only at hSw); go_split_ands; go_simp; (try with_reducible rfl))
  try simp only [Act.put, List.getElem_toArray, List.getElem_cons_zero, List.getElem_cons_succ, List.setIfInBounds_toArray, List.set_cons_zero, List.set_cons_succ]
  refine wpAnyH_take (i := 2) (v := ?_) rfl (by kernel_rfl) (by kernel_rfl) (by kernel_rfl) (fun _ _ _ h => h) (Or.inl ⟨by rfl, fun w hSw => ?_⟩) hHeld ?_
  rotate_left
  · ((try dsimp only at hSw); go_split_ands; go_simp; (try with_reducible rfl))
  try simp only [Act.put, List.getElem_toArray, List.getElem_cons_zero, List.getElem_cons_succ, List.setIfInBounds_toArray, List.set_cons_zero, List.set_cons_succ]
  refine wpAnyH_take (i := 5) (v := ?_) rfl (by kernel_rfl) (by kernel_rfl) (by kernel_rfl) (fun _ _ _ h => h) (Or.inl ⟨by rfl, fun w hSw => ?_⟩) hHeld ?_
  rotate_left
  · ((try dsimp only at hSw); go_split_ands; go_simp; (try with_reducible rfl))
  try simp only [Act.put, List.getElem_toArray, List.getElem_cons_zero, List.getElem_cons_succ, List.setIfInBounds_toArray, List.set_cons_zero, List.set_cons_succ]
  refine wpAnyH_take (i := 6) (v := ?_) rfl (by kernel_rfl) (by kernel_rfl) (by kernel_rfl) (fun _ _ _ h => h) (Or.inl ⟨by rfl, fun w hSw => ?_⟩) hHeld ?_
  rotate_left
  · ((try dsimp only at hSw); go_split_ands; go_simp; (try with_reducible rfl))
  try simp only [Act.put, List.getElem_toArray, List.getElem_cons_zero, List.getElem_cons_succ, List.setIfInBounds_toArray, List.set_cons_zero, List.set_cons_succ]
  refine wpAnyH_par [0, 3, 4, 7] #[true, true, true, true, true, true, true, true, false, false] 4 (by kernel_rfl) hHeld
    (fun a0 D a w' => Hid (Below w.heap.size w w' ∧ Blk w' w.heap.size tSt #[.slice A1 s.values.length c1, .slice A2 s.heap.length c2] ∧ Blk w' (w.heap.size + 1) tSt #[.slice none 0 0, .slice none 0 0]) ∧
      Hid ((dn D 3 = true → dn D 0 = true) ∧ (dn D 7 = true → dn D 3 = true ∧ dn D 4 = true)) ∧
      ∃ v3 v6 v7 v10, a = (((a0.put (some 3) v3).put (some 6) v6).put (some 7) v7).put (some 10) v10 ∧
        Hid (dn D 0 = true → dn D 3 = false → (∃ x, v3 = .slice (some ⟨x, 0, none⟩) 0 0) ∧ IntsO w' w.heap.size v3 []) ∧
        Hid (dn D 3 = true → (∃ A c, v6 = .slice A s.values.length c) ∧ IntsO w' w.heap.size v6 s.values) ∧
        Hid (dn D 4 = true → dn D 7 = false → (∃ x, v7 = .slice (some ⟨x, 0, none⟩) 0 0) ∧ IntsO w' w.heap.size v7 []) ∧
        Hid (dn D 7 = true → (∃ A c, v10 = .slice A s.heap.length c) ∧ IntsO w' w.heap.size v10 s.heap) ∧
        Hid (dn D 0 = true → dn D 3 = false → dn D 4 = true → Dj v3 v7) ∧ Hid (dn D 3 = true → dn D 4 = true → dn D 7 = false → Dj v6 v7) ∧ Hid (dn D 7 = true → Dj v6 v10)) ?start ?steps ?fin
  case start =>
    refine ⟨⟨hB.drew, k0.drew, kr.drew⟩, ⟨fun h => absurd h (by decide), fun h => absurd h (by decide)⟩, undef, undef, undef, undef, rfl, fun h => absurd h (by decide), fun h => absurd h (by decide), fun h => absurd h (by decide), fun h => absurd h (by decide), fun h => absurd h (by decide), fun h => absurd h (by decide), fun h => absurd h (by decide)⟩
  case steps =>
    refine ParSteps.cons rfl (fun D a w' hu hd hI hS K' hK G hG => ?_) (ParSteps.cons rfl (fun D a w' hu hd hI hS K' hK G hG => ?_) (ParSteps.cons rfl (fun D a w' hu hd hI hS K' hK G hG => ?_) (ParSteps.cons rfl (fun D a w' hu hd hI hS K' hK G hG => ?_) ParSteps.nil)))
    · -- the empty list for the values
      obtain ⟨HW, HC, v3, v6, v7, v10, ha, h0, h3, h4, h7, d1, d2, d3⟩ := hI
      rw [ha] at hG
      clear ha a
      have u0 := dn_un hu
      have u3 : dn D 3 = false := by cases e : dn D 3; rfl; have := HC.out.1 e; rw [u0] at this; cases this
      have u7 : dn D 7 = false := by cases e : dn D 7; rfl; have := (HC.out.2 e).1; rw [u3] at this; cases this
      have HU := Lib.hid (And.intro u3 u7)
      clear u0 u3 u7
      refine hG ?_
      clear hG hd
      try simp only [Act.put, List.setIfInBounds_toArray, List.set_cons_zero, List.set_cons_succ]
      go_simp
      have hB2 : Below w.heap.size w (w'.alloc (.cells #[] tI)) := HW.out.1.alloc HW.out.1.size _
      have hBw : Below w'.heap.size w' (w'.alloc (.cells #[] tI)) := bbox (Below.refl _ _) _
      refine hK.out _ _ (HW.out.2.1.alloc _).cell ⟨⟨hB2, HW.out.2.1.alloc _, HW.out.2.2.alloc _⟩, ⟨fun h => ?_, fun h => ?_⟩, .slice (some ⟨w'.heap.size, 0, none⟩) 0 0, v6, v7, v10, rfl, ?_, ?_, ?_, ?_, ?_, ?_, ?_⟩
      · exact dn_self hu
      · rw [dn_ne (by decide)] at h; rw [HU.out.2] at h; cases h
      · exact fun _ _ => ⟨⟨_, rfl⟩, (IntsO.empty w' rfl).lower HW.out.1.size⟩
      · intro h; rw [dn_ne (by decide)] at h; rw [HU.out.1] at h; cases h
      · intro h h'; rw [dn_ne (by decide)] at h h'; exact ⟨(h4.out h h').1, (h4.out h h').2.below hBw⟩
      · intro h; rw [dn_ne (by decide)] at h; rw [HU.out.2] at h; cases h
      · intro _ _ h; rw [dn_ne (by decide)] at h; exact (Dj.new (h4.out h HU.out.2).2 rfl (Nat.le_refl _)).symm
      · intro h; rw [dn_ne (by decide)] at h; rw [HU.out.1] at h; cases h
      · intro h; rw [dn_ne (by decide)] at h; rw [HU.out.2] at h; cases h
    · -- the values appended
      obtain ⟨HW, HC, v3, v6, v7, v10, ha, h0, h3, h4, h7, d1, d2, d3⟩ := hI
      rw [ha] at hG
      clear ha a
      have u3 := dn_un hu
      have u7 : dn D 7 = false := by cases e : dn D 7; rfl; have := (HC.out.2 e).1; rw [u3] at this; cases this
      have t0 : dn D 0 = true := hd ⟨0, .data⟩ (by simp) (by decide)
      obtain ⟨⟨x, rfl⟩, o⟩ := h0.out t0 u3
      have HO := Lib.hid o
      have HU := Lib.hid (And.intro u3 (And.intro u7 t0))
      clear u3 u7 t0 o h0 hd
      refine hG ?_
      clear hG
      try simp only [Act.put, List.setIfInBounds_toArray, List.set_cons_zero, List.set_cons_succ]
      rw [if_pos (by simp [Region.wanted])]
      refine wp_appIY (base := w.heap.size) (xs := []) (ys := s.values) _ _ rfl rfl HO.out rfl (H1.out.below HW.out.1) (by simp; omega) HW.out.1.size ?_
      intro A' c' w2 o2 hg2 hB2 h5
      simp only [List.nil_append] at o2 h5 ⊢
      refine hK.out _ _ (Blk.grownO (hg := hg2) HW.out.2.1 HO.out.1 (by decide)).cell ⟨⟨HW.out.1.trans hB2, Blk.grownO (hg := hg2) HW.out.2.1 HO.out.1 (by decide), Blk.grownO (hg := hg2) HW.out.2.2 HO.out.1 (by decide)⟩, ⟨fun h => ?_, fun h => ?_⟩, .slice (some ⟨x, 0, none⟩) 0 0, .slice A' s.values.length c', v7, v10, rfl, ?_, ?_, ?_, ?_, ?_, ?_, ?_⟩
      · rw [dn_ne (by decide)]; exact HU.out.2.2
      · rw [dn_ne (by decide)] at h; rw [HU.out.2.1] at h; cases h
      · intro _ h; rw [dn_self hu] at h; cases h
      · exact fun _ => ⟨⟨A', c', rfl⟩, o2⟩
      · intro h h'; rw [dn_ne (by decide)] at h h'; exact ⟨(h4.out h h').1, IntsO.grown (h4.out h h').2 hg2 (d1.out HU.out.2.2 HU.out.1 h).symm⟩
      · intro h; rw [dn_ne (by decide)] at h; rw [HU.out.2.1] at h; cases h
      · intro _ h; rw [dn_self hu] at h; cases h
      · intro _ h h'; rw [dn_ne (by decide)] at h h'; exact (Dj.step (h4.out h h').2 (d1.out HU.out.2.2 HU.out.1 h).symm h5).symm
      · intro h; rw [dn_ne (by decide)] at h; rw [HU.out.2.1] at h; cases h
    · -- the empty list for the heap
      obtain ⟨HW, HC, v3, v6, v7, v10, ha, h0, h3, h4, h7, d1, d2, d3⟩ := hI
      rw [ha] at hG
      clear ha a
      have u4 := dn_un hu
      have u7 : dn D 7 = false := by cases e : dn D 7; rfl; have := (HC.out.2 e).2; rw [u4] at this; cases this
      have HU := Lib.hid u7
      clear u4 u7
      refine hG ?_
      clear hG hd
      try simp only [Act.put, List.setIfInBounds_toArray, List.set_cons_zero, List.set_cons_succ]
      go_simp
      have hB2 : Below w.heap.size w (w'.alloc (.cells #[] tI)) := HW.out.1.alloc HW.out.1.size _
      have hBw : Below w'.heap.size w' (w'.alloc (.cells #[] tI)) := bbox (Below.refl _ _) _
      refine hK.out _ _ (HW.out.2.1.alloc _).cell ⟨⟨hB2, HW.out.2.1.alloc _, HW.out.2.2.alloc _⟩, ⟨fun h => ?_, fun h => ?_⟩, v3, v6, .slice (some ⟨w'.heap.size, 0, none⟩) 0 0, v10, rfl, ?_, ?_, ?_, ?_, ?_, ?_, ?_⟩
      · rw [dn_ne (by decide)] at h ⊢; exact HC.out.1 h
      · rw [dn_ne (by decide)] at h; rw [HU.out] at h; cases h
      · intro h h'; rw [dn_ne (by decide)] at h h'; exact ⟨(h0.out h h').1, (h0.out h h').2.below hBw⟩
      · intro h; rw [dn_ne (by decide)] at h; exact ⟨(h3.out h).1, (h3.out h).2.below hBw⟩
      · exact fun _ _ => ⟨⟨_, rfl⟩, (IntsO.empty w' rfl).lower HW.out.1.size⟩
      · intro h; rw [dn_ne (by decide)] at h; rw [HU.out] at h; cases h
      · intro h h' _; rw [dn_ne (by decide)] at h h'; exact Dj.new (h0.out h h').2 rfl (Nat.le_refl _)
      · intro h _ _; rw [dn_ne (by decide)] at h; exact Dj.new (h3.out h).2 rfl (Nat.le_refl _)
      · intro h; rw [dn_ne (by decide)] at h; rw [HU.out] at h; cases h
    · -- the heap appended
      obtain ⟨HW, HC, v3, v6, v7, v10, ha, h0, h3, h4, h7, d1, d2, d3⟩ := hI
      rw [ha] at hG
      clear ha a
      have u7 := dn_un hu
      have t3 : dn D 3 = true := hd ⟨3, .chain⟩ (by simp) (by decide)
      have t4 : dn D 4 = true := hd ⟨4, .data⟩ (by simp) (by decide)
      obtain ⟨⟨x, rfl⟩, o⟩ := h4.out t4 u7
      have HO := Lib.hid o
      have HU := Lib.hid (And.intro u7 (And.intro t3 t4))
      clear u7 t3 t4 o h4 hd
      refine hG ?_
      clear hG
      try simp only [Act.put, List.setIfInBounds_toArray, List.set_cons_zero, List.set_cons_succ]
      rw [if_pos (by simp [Region.wanted])]
      refine wp_appIY (base := w.heap.size) (xs := []) (ys := s.heap) _ _ rfl rfl HO.out rfl (H2.out.below HW.out.1) (by simp; omega) HW.out.1.size ?_
      intro A' c' w2 o2 hg2 hB2 h5
      simp only [List.nil_append] at o2 h5 ⊢
      have hD := d2.out HU.out.2.1 HU.out.2.2 HU.out.1
      have hO3 := h3.out HU.out.2.1
      refine hK.out _ _ (Blk.grownO (hg := hg2) HW.out.2.1 HO.out.1 (by decide)).cell ⟨⟨HW.out.1.trans hB2, Blk.grownO (hg := hg2) HW.out.2.1 HO.out.1 (by decide), Blk.grownO (hg := hg2) HW.out.2.2 HO.out.1 (by decide)⟩, ⟨fun h => ?_, fun h => ?_⟩, v3, v6, .slice (some ⟨x, 0, none⟩) 0 0, .slice A' s.heap.length c', rfl, ?_, ?_, ?_, ?_, ?_, ?_, ?_⟩
      · rw [dn_ne (by decide)] at h ⊢; exact HC.out.1 h
      · rw [dn_ne (by decide), dn_ne (by decide)]; exact HU.out.2
      · intro _ h; rw [dn_ne (by decide)] at h; rw [HU.out.2.1] at h; cases h
      · exact fun _ => ⟨hO3.1, IntsO.grown hO3.2 hg2 hD⟩
      · intro _ h; rw [dn_self hu] at h; cases h
      · exact fun _ => ⟨⟨A', c', rfl⟩, o2⟩
      · intro _ h; rw [dn_ne (by decide)] at h; rw [HU.out.2.1] at h; cases h
      · intro _ _ h; rw [dn_self hu] at h; cases h
      · exact fun _ => Dj.step hO3.2 hD h5
  case fin =>
    rintro a w4 hHeld ⟨HW, -, v3, v6, v7, v10, rfl, -, h3, -, h7, -, -, d3⟩
    obtain ⟨⟨A, c, rfl⟩, o3⟩ := h3.out (by decide)
    obtain ⟨⟨B, d, rfl⟩, o7⟩ := h7.out (by decide)
    have hD := Lib.hid (d3.out (by decide))
    have HO3 := Lib.hid o3
    have HO7 := Lib.hid o7
    have hBf := HW.out.1
    have k4 := HW.out.2.1
    have kr4 := HW.out.2.2
    clear h3 h7 d3 o3 o7 k0 kr hB
    try simp only [Act.put, List.setIfInBounds_toArray, List.set_cons_zero, List.set_cons_succ]
    (replace qk4 := k4.cell; replace rk4 := k4.frozen; replace lk4 := k4.lt; replace qkr4 := kr4.cell; replace rkr4 := kr4.frozen; replace lkr4 := kr4.lt)
    refine wpAnyH_take (i := 8) (v := ?_) rfl (by kernel_rfl) (by kernel_rfl) (by kernel_rfl) (fun _ _ _ h => h) (Or.inl ⟨by rfl, fun w hSw => ?_⟩) hHeld ?_
    rotate_left
    · ((try dsimp only at hSw); go_split_ands; go_simp; (try with_reducible rfl))
    try simp only [Act.put, List.getElem_toArray, List.getElem_cons_zero, List.getElem_cons_succ, List.setIfInBounds_toArray, List.set_cons_zero, List.set_cons_succ]
    refine wpAnyH_ready (rs := [9]) (by kernel_rfl) (by simp) ?_
    refine AllReadyH.cons rfl (fun K hK => ?_) AllReadyH.nil
    try simp only [List.getElem_toArray, List.getElem_cons_zero, List.getElem_cons_succ]
    go_simp
    refine hK.out _ _ (Blk.cell blks) (fun hHeldN => ?_)
    clear hHeld hK K
    have hHeld := hHeldN
    clear hHeldN
    try simp only [Act.put, List.getElem_toArray, List.getElem_cons_zero, List.getElem_cons_succ, List.setIfInBounds_toArray, List.set_cons_zero, List.set_cons_succ]
    refine wpAnyH_done (by kernel_rfl) ?_ _
    refine NoPanic.normal ?_
    go_wp2_with fail
    refine bodyPost_ret (v := .agg #[.slice A s.values.length c, .slice B s.heap.length d]) (by simp [results, Try.results109, go_sem, qkr4]) rfl ⟨_, rfl, ⟨_, _, rfl, ?_, ?_, hD.out⟩, ?_⟩
    · exact (HO3.out.setT kr4 (by decide) 0 _).setT (kr4.set_ 0 _) (by decide) 1 _
    · exact (HO7.out.setT kr4 (by decide) 0 _).setT (kr4.set_ 0 _) (by decide) 1 _
    · exact (hBf.setCell (p := ⟨w.heap.size + 1, 0, none⟩) (by simp only; omega) _).setCell (p := ⟨w.heap.size + 1, 1, none⟩) (by simp only; omega) _
end Go.Proofs.Ytcgifoghggajgaa

/- What the reader draws: states in which an assertion often holds. -/
namespace Go.Proofs.Ytcgifoghggajgaa
open Go Go.RowKit Go.Proofs

theorem IntsO.cell_ {w : World} {base : Nat} {A : Option Addr} {n c k : Nat} {fs : List Int} (h : IntsO w base (.slice A n c) fs) (hk : k < fs.length) : ∃ g cur, n = fs.length ∧ A = some ⟨g, 0, none⟩ ∧ base ≤ g ∧ Blk w g tI cur ∧ cur[k]? = some (.int .i64 fs[k]) ∧
    (∀ v : Int, IntsO (w.setCell ⟨g, k, none⟩ (.int .i64 v)) base (.slice A n c) (fs.set k v)) := by
  obtain ⟨⟨hl, h2⟩, hL⟩ := h
  rcases h2 with ⟨e, hn⟩ | ⟨g, cap, cur, e, hb, hh, hn, hm, hs, ht⟩
  · omega
  · injection e with e1 e2 e3
    subst e1 e2 e3
    have hK : Blk w g tI cur := hh
    have hP : Pre cur (encI fs) (fs.length * 1) := by
      intro j hj
      rw [← ht, List.getElem?_take, if_pos hj]; simp
    refine ⟨g, cur, rfl, rfl, hb, hK, (hP _ (by omega)).trans (by simp [List.getElem?_eq_getElem hk]), ?_⟩
    intro v
    refine ⟨?_, by rw [List.length_set]; exact hL⟩
    rw [show encI (fs.set k v) = (encI fs).set k (.int .i64 v) from by simp [encI, List.map_set], List.length_set]
    exact own_of_blk (hK.set_ k (.int .i64 v)) hb (by rw [List.length_set, hl]) (hP.setL k (.int .i64 v) (by rw [hs]; exact Nat.mul_le_mul hn (Nat.le_refl _)) (by rw [hl]; exact Nat.le_refl _)) hn hm (by simpa using hs)
theorem IntsO.set_ne {w : World} {b : Nat} {v : Value} {xs : List Int} (h : IntsO w b v xs) {q : Addr} (hq : v.ownBlock ≠ some q.block) (u : Value) : IntsO (w.setCell q u) b v xs := by
  obtain ⟨⟨h1, h2⟩, h3⟩ := h
  refine ⟨⟨h1, ?_⟩, h3⟩
  rcases h2 with h2 | ⟨k, cap, cur, hv, hk, hh, r⟩
  · exact Or.inl h2
  · exact Or.inr ⟨k, cap, cur, hv, hk, (Below.heap_setCell w q u k (fun e => hq (by rw [hv, ← e]; rfl))).trans hh, r⟩
end Go.Proofs.Ytcgifoghggajgaa
