/- The cells of two states as one, step by step; plain. -/
import Derived.Test.YteogcababfenfaaGreatMRunS
import Derived.Test.YteogcababfenfaaGreatWalk
import Derived.Test.YteogcababfenfaaGreatMRunK
import Derived.Test.YteogcababfenfaaGreatMKeepAny
import Derived.Test.YteogcababfenfaaGreatMCmdG
import Derived.IntWalk
set_option linter.unusedSimpArgs false
set_option linter.unusedVariables false
namespace Go.Proofs.YteogcababfenfaaGreat
open Go Go.RowKit Go.Proofs

/-- the first k cells are joined -/
def joinTo (y r : List Int) (k : Nat) : List Int := y.mapIdx fun i v => if i < k ∧ allocB r ((i : Int) + 1) = true then Proofs.YteogcababfenfaaGreat.cont r ((i : Int) + 1) else v
theorem joinTo_zero (y r : List Int) : joinTo y r 0 = y := by
  apply List.ext_getElem?
  intro i
  simp [joinTo, List.getElem?_mapIdx]
theorem joinTo_len (y r : List Int) (k : Nat) : (joinTo y r k).length = y.length := by simp [joinTo]
theorem joinTo_keep {y r : List Int} {k : Nat} (hb : allocB r ((k : Int) + 1) = false) : joinTo y r (k + 1) = joinTo y r k := by
  apply List.ext_getElem?
  intro i
  simp only [joinTo, List.getElem?_mapIdx]
  congr 1
  funext v
  by_cases e : i = k
  · subst e; rw [hb]; simp
  · by_cases h1 : i < k
    · simp [h1, show i < k + 1 from by omega]
    · simp [h1, show ¬ i < k + 1 from by omega]
theorem joinTo_set {y r : List Int} {k : Nat} (hb : allocB r ((k : Int) + 1) = true) (hk : k < y.length) : joinTo y r (k + 1) = (joinTo y r k).set k (Proofs.YteogcababfenfaaGreat.cont r ((k : Int) + 1)) := by
  apply List.ext_getElem?
  intro i
  rw [List.getElem?_set, joinTo_len]
  by_cases e : k = i
  · subst e
    rw [if_pos rfl, if_pos hk]
    simp only [joinTo, List.getElem?_mapIdx]
    rw [List.getElem?_eq_getElem hk]
    simp [hb]
  · rw [if_neg e]
    simp only [joinTo, List.getElem?_mapIdx]
    congr 1
    funext v
    by_cases h1 : i < k
    · simp [h1, show i < k + 1 from by omega]
    · simp [h1, show ¬ i < k + 1 from by omega]
theorem joinTo_all {y r : List Int} (hl : y.length = 8) : joinTo y r 8 = joinH y r := by
  apply List.ext_getElem?
  intro i
  by_cases hi : i < 8
  · simp only [joinTo, joinH, List.getElem?_mapIdx, List.getElem?_map]
    rw [cont_succ hl hi, List.getElem?_range hi]
    simp only [Option.map_some, hi, true_and, allocB, decide_eq_true_eq]
  · rw [List.getElem?_eq_none (by rw [joinTo_len]; omega), List.getElem?_eq_none (by simp [joinH]; omega)]
theorem used_bit {h : List Int} {n : Nat} (hb : (bitsOf (usedL h 8)).testBit n = true) : 1 ≤ n ∧ n ≤ 8 ∧ allocB h (n : Int) = true := by
  rw [testBit_bitsOf (fun x hx => by have := (usedL_mem _ _ _).1 hx; omega), decide_eq_true_iff] at hb
  have := (usedL_mem _ _ _).1 hb
  exact ⟨by omega, by omega, this.2.2⟩
theorem used_bits_lt (h : List Int) : bitsOf (usedL h 8) < 65536 := by
  have := bitsOf_lt (l := usedL h 8) (k := 9) (fun x hx => by have := (usedL_mem _ _ _).1 hx; omega)
  omega
theorem used_apart {y r : List Int} (h : ∀ i : Nat, i < 8 → 0 ≤ Proofs.YteogcababfenfaaGreat.cont r ((i : Int) + 1) → Proofs.YteogcababfenfaaGreat.cont y ((i : Int) + 1) < 0) : bits .and .u16 (bitsOf (usedL y 8) : Int) (bitsOf (usedL r 8) : Int) = 0 := by
  rw [u16_and_nat _ _ (used_bits_lt y) (used_bits_lt r)]
  have : bitsOf (usedL y 8) &&& bitsOf (usedL r 8) = 0 := by
    apply Nat.eq_of_testBit_eq
    intro n
    rw [Nat.testBit_and, Nat.zero_testBit]
    cases h1 : (bitsOf (usedL y 8)).testBit n
    · rfl
    · cases h2 : (bitsOf (usedL r 8)).testBit n
      · rfl
      · obtain ⟨p1, p2, p3⟩ := used_bit h1
        obtain ⟨q1, q2, q3⟩ := used_bit h2
        have h3 := h (n - 1) (by omega)
        rw [show ((n - 1 : Nat) : Int) + 1 = n by omega] at h3
        have := (cont_alloc p3).2
        have := h3 (cont_alloc q3).2
        omega
  rw [this]; rfl
end Go.Proofs.YteogcababfenfaaGreat

/- Contracts: impl's JoinStates, for valid states that share no cell. -/
namespace Go.Proofs.YteogcababfenfaaGreat
open Go Go.RowKit Go.Proofs
--@ impl.JoinStates
set_option maxRecDepth 100000 in
set_option maxHeartbeats 3200000 in
theorem c_impl_JoinStates {lo hi lo' hi' : Nat} (v v' : Value) (a b : Ste) (w : World) (h : StateV w lo hi v a) (h' : StateV w lo' hi' v' b) (ha : a.valid = true) (hb : b.valid = true) (hv : b.values = a.values)
    (hd : ∀ i : Nat, i < 8 → 0 ≤ cont b.heap ((i : Int) + 1) → cont a.heap ((i : Int) + 1) < 0) :
    Calls Tryz.prog 21 #[v, v'] w fun e w' => ∃ r, e = .returned (.tuple #[r, .bool true]) ∧ StateO w' w.heap.size r ⟨a.values, joinH a.heap b.heap⟩ ∧ Below w.heap.size w w' := by
  have hV := Lib.hid h
  have hV' := Lib.hid h'
  obtain ⟨A1, c1, A2, c2, rfl, i1, -⟩ := h
  obtain ⟨B1, d1, B2, d2, rfl, i2, -⟩ := h'
  have I1 := Lib.hid i1
  have I2 := Lib.hid i2
  have H8 := Lib.hid (Ste.valid_len ha).2
  have H8' := Lib.hid (Ste.valid_len hb).2
  have HA := Lib.hid ha
  have HB := Lib.hid hb
  have HU := Lib.hid (used_apart hd)
  have HVV : Hid (decide (a.values = b.values) = true) := Lib.hid (by simp [hv])
  clear ha hb hd hv i1 i2
  go_enter Tryz.func21, Tryz.ntmps21
  have k0 : Blk (((w.alloc (.cells #[.slice A1 a.values.length c1, .slice A2 a.heap.length c2] tSt)).alloc (.cells #[.slice B1 b.values.length d1, .slice B2 b.heap.length d2] tSt)).alloc (.cells #[.slice none 0 0, .slice none 0 0] tSt)) w.heap.size tSt #[.slice A1 a.values.length c1, .slice A2 a.heap.length c2] := blks
  have k1 : Blk (((w.alloc (.cells #[.slice A1 a.values.length c1, .slice A2 a.heap.length c2] tSt)).alloc (.cells #[.slice B1 b.values.length d1, .slice B2 b.heap.length d2] tSt)).alloc (.cells #[.slice none 0 0, .slice none 0 0] tSt)) (w.heap.size + 1) tSt #[.slice B1 b.values.length d1, .slice B2 b.heap.length d2] := blks
  have k2 : Blk (((w.alloc (.cells #[.slice A1 a.values.length c1, .slice A2 a.heap.length c2] tSt)).alloc (.cells #[.slice B1 b.values.length d1, .slice B2 b.heap.length d2] tSt)).alloc (.cells #[.slice none 0 0, .slice none 0 0] tSt)) (w.heap.size + 1 + 1) tSt #[.slice none 0 0, .slice none 0 0] := blks
  have hB0 : Below w.heap.size w (((w.alloc (.cells #[.slice A1 a.values.length c1, .slice A2 a.heap.length c2] tSt)).alloc (.cells #[.slice B1 b.values.length d1, .slice B2 b.heap.length d2] tSt)).alloc (.cells #[.slice none 0 0, .slice none 0 0] tSt)) := bel
  have hs0 : w.heap.size + 3 = (((w.alloc (.cells #[.slice A1 a.values.length c1, .slice A2 a.heap.length c2] tSt)).alloc (.cells #[.slice B1 b.values.length d1, .slice B2 b.heap.length d2] tSt)).alloc (.cells #[.slice none 0 0, .slice none 0 0] tSt)).heap.size := by simp
  go_wp2_with fail
  generalize (((w.alloc (.cells #[.slice A1 a.values.length c1, .slice A2 a.heap.length c2] tSt)).alloc (.cells #[.slice B1 b.values.length d1, .slice B2 b.heap.length d2] tSt)).alloc (.cells #[.slice none 0 0, .slice none 0 0] tSt)) = W at k0 k1 k2 hB0 hs0 ⊢
  have HB0 := Lib.hid hB0
  clear hB0
  refine wp_region_noPanic ?_
  refine wp_region_held_drew (S := (fun w' => (∀ i, w'.cell? ⟨w.heap.size, i, none⟩ = #[.slice A1 a.values.length c1, .slice A2 a.heap.length c2][i]?) ∧ (∀ i, w'.cell? ⟨w.heap.size + 1, i, none⟩ = #[.slice B1 b.values.length d1, .slice B2 b.heap.length d2][i]?))) (by kernel_rfl) (⟨k0.cell, k1.cell⟩) (fun hHeld => ?_)
  refine wpAnyH_take (i := 0) (v := ?_) rfl (by kernel_rfl) (by kernel_rfl) (by kernel_rfl) (fun _ _ _ h => h) (Or.inl ⟨by rfl, fun w hSw => ?_⟩) hHeld ?_
  rotate_left
  · ((try dsimp only at hSw); go_split_ands; go_simp; (try with_reducible rfl))
  try simp only [Act.put, List.getElem_toArray, List.getElem_cons_zero, List.getElem_cons_succ, List.setIfInBounds_toArray, List.set_cons_zero, List.set_cons_succ]
  refine wpAnyH_ready (rs := [1]) (by kernel_rfl) (by simp) ?_
  refine AllReadyH.cons rfl (fun K hK => ?_) AllReadyH.nil
  try simp only [List.getElem_toArray, List.getElem_cons_zero, List.getElem_cons_succ]
  (go_simp; refine (c_impl_StateValid _ a _ (hV.out.below (HB0.out.drew))).mono ?_; rintro e w1 ⟨rfl, hB1⟩; rw [HA.out]; have kb0 := Blk.next k0.drew hB1; have kb1 := Blk.next k1.drew hB1; have kb2 := Blk.next k2.drew hB1; have HB1 := Lib.hid (bgo HB0.out.drew hB1); clear hB1)
  refine hK.out _ _ (⟨kb0.cell, kb1.cell⟩) (fun hHeldN => ?_)
  clear hHeld hK K
  have hHeld := hHeldN
  clear hHeldN
  try simp only [Act.put, List.getElem_toArray, List.getElem_cons_zero, List.getElem_cons_succ, List.setIfInBounds_toArray, List.set_cons_zero, List.set_cons_succ]
  refine wpAnyH_take (i := 2) (v := ?_) rfl (by kernel_rfl) (by kernel_rfl) (by kernel_rfl) (fun _ _ _ h => h) (Or.inl ⟨by rfl, fun w hSw => ?_⟩) hHeld ?_
  rotate_left
  · ((try dsimp only at hSw); go_split_ands; go_simp; (try with_reducible rfl))
  try simp only [Act.put, List.getElem_toArray, List.getElem_cons_zero, List.getElem_cons_succ, List.setIfInBounds_toArray, List.set_cons_zero, List.set_cons_succ]
  refine wpAnyH_take (i := 3) (v := ?_) rfl (by kernel_rfl) (by kernel_rfl) (by kernel_rfl) (fun _ _ _ h => h) (Or.inl ⟨by rfl, fun w hSw => ?_⟩) hHeld ?_
  rotate_left
  · ((try dsimp only at hSw); go_split_ands; go_simp; (try with_reducible rfl))
  try simp only [Act.put, List.getElem_toArray, List.getElem_cons_zero, List.getElem_cons_succ, List.setIfInBounds_toArray, List.set_cons_zero, List.set_cons_succ]
  refine wpAnyH_take (i := 4) (v := ?_) rfl (by kernel_rfl) (by kernel_rfl) (by kernel_rfl) (fun _ _ _ h => h) (Or.inl ⟨by rfl, fun w hSw => ?_⟩) hHeld ?_
  rotate_left
  · ((try dsimp only at hSw); go_split_ands; go_simp; (try with_reducible rfl))
  try simp only [Act.put, List.getElem_toArray, List.getElem_cons_zero, List.getElem_cons_succ, List.setIfInBounds_toArray, List.set_cons_zero, List.set_cons_succ]
  refine wpAnyH_ready (rs := [5]) (by kernel_rfl) (by simp) ?_
  refine AllReadyH.cons rfl (fun K hK => ?_) AllReadyH.nil
  try simp only [List.getElem_toArray, List.getElem_cons_zero, List.getElem_cons_succ]
  (go_simp; refine (c_impl_StateValid _ b _ (hV'.out.below HB1.out)).mono ?_; rintro e w2 ⟨rfl, hB2⟩; rw [HB.out]; have kc0 := kb0.next hB2; have kc1 := kb1.next hB2; have kc2 := kb2.next hB2; have HB2 := Lib.hid (bgo HB1.out hB2); clear hB2)
  refine hK.out _ _ (⟨kc0.cell, kc1.cell⟩) (fun hHeldN => ?_)
  clear hHeld hK K
  have hHeld := hHeldN
  clear hHeldN
  try simp only [Act.put, List.getElem_toArray, List.getElem_cons_zero, List.getElem_cons_succ, List.setIfInBounds_toArray, List.set_cons_zero, List.set_cons_succ]
  refine wpAnyH_take (i := 6) (v := ?_) rfl (by kernel_rfl) (by kernel_rfl) (by kernel_rfl) (fun _ _ _ h => h) (Or.inl ⟨by rfl, fun w hSw => ?_⟩) hHeld ?_
  rotate_left
  · ((try dsimp only at hSw); go_split_ands; go_simp; (try with_reducible rfl))
  try simp only [Act.put, List.getElem_toArray, List.getElem_cons_zero, List.getElem_cons_succ, List.setIfInBounds_toArray, List.set_cons_zero, List.set_cons_succ]
  refine wpAnyH_take (i := 7) (v := ?_) rfl (by kernel_rfl) (by kernel_rfl) (by kernel_rfl) (fun _ _ _ h => h) (Or.inl ⟨by rfl, fun w hSw => ?_⟩) hHeld ?_
  rotate_left
  · ((try dsimp only at hSw); go_split_ands; go_simp; (try with_reducible rfl))
  try simp only [Act.put, List.getElem_toArray, List.getElem_cons_zero, List.getElem_cons_succ, List.setIfInBounds_toArray, List.set_cons_zero, List.set_cons_succ]
  refine wpAnyH_take (i := 8) (v := ?_) rfl (by kernel_rfl) (by kernel_rfl) (by kernel_rfl) (fun _ _ _ h => h) (Or.inl ⟨by rfl, fun w hSw => ?_⟩) hHeld ?_
  rotate_left
  · ((try dsimp only at hSw); go_split_ands; go_simp; (try with_reducible rfl))
  try simp only [Act.put, List.getElem_toArray, List.getElem_cons_zero, List.getElem_cons_succ, List.setIfInBounds_toArray, List.set_cons_zero, List.set_cons_succ]
  refine wpAnyH_take (i := 9) (v := ?_) rfl (by kernel_rfl) (by kernel_rfl) (by kernel_rfl) (fun _ _ _ h => h) (Or.inl ⟨by rfl, fun w hSw => ?_⟩) hHeld ?_
  rotate_left
  · ((try dsimp only at hSw); go_split_ands; go_simp; (try with_reducible rfl))
  try simp only [Act.put, List.getElem_toArray, List.getElem_cons_zero, List.getElem_cons_succ, List.setIfInBounds_toArray, List.set_cons_zero, List.set_cons_succ]
  refine wpAnyH_take (i := 10) (v := ?_) rfl (by kernel_rfl) (by kernel_rfl) (by kernel_rfl) (fun _ _ _ h => h) (Or.inl ⟨by rfl, fun w hSw => ?_⟩) hHeld ?_
  rotate_left
  · ((try dsimp only at hSw); go_split_ands; go_simp; (try with_reducible rfl))
  try simp only [Act.put, List.getElem_toArray, List.getElem_cons_zero, List.getElem_cons_succ, List.setIfInBounds_toArray, List.set_cons_zero, List.set_cons_succ]
  refine wpAnyH_take (i := 11) (v := ?_) rfl (by kernel_rfl) (by kernel_rfl) (by kernel_rfl) (fun _ _ _ h => h) (Or.inl ⟨by rfl, fun w hSw => ?_⟩) hHeld ?_
  rotate_left
  · ((try dsimp only at hSw); go_split_ands; go_simp; (try with_reducible rfl))
  try simp only [Act.put, List.getElem_toArray, List.getElem_cons_zero, List.getElem_cons_succ, List.setIfInBounds_toArray, List.set_cons_zero, List.set_cons_succ]
  refine wpAnyH_take (i := 12) (v := ?_) rfl (by kernel_rfl) (by kernel_rfl) (by kernel_rfl) (fun _ _ _ h => h) (Or.inl ⟨by rfl, fun w hSw => ?_⟩) hHeld ?_
  rotate_left
  · ((try dsimp only at hSw); go_split_ands; go_simp; (try with_reducible rfl))
  try simp only [Act.put, List.getElem_toArray, List.getElem_cons_zero, List.getElem_cons_succ, List.setIfInBounds_toArray, List.set_cons_zero, List.set_cons_succ]
  refine wpAnyH_ready (rs := [13]) (by kernel_rfl) (by simp) ?_
  refine AllReadyH.cons rfl (fun K hK => ?_) AllReadyH.nil
  try simp only [List.getElem_toArray, List.getElem_cons_zero, List.getElem_cons_succ]
  (go_simp; refine (c_impl_sameInts _ _ _ _ a.values b.values _ (I1.out.below HB2.out) (I2.out.below HB2.out)).mono ?_; rintro e w3 ⟨rfl, rfl⟩; rw [HVV.out])
  refine hK.out _ _ (⟨kc0.cell, kc1.cell⟩) (fun hHeldN => ?_)
  clear hHeld hK K
  have hHeld := hHeldN
  clear hHeldN
  try simp only [Act.put, List.getElem_toArray, List.getElem_cons_zero, List.getElem_cons_succ, List.setIfInBounds_toArray, List.set_cons_zero, List.set_cons_succ]
  refine wpAnyH_take (i := 14) (v := ?_) rfl (by kernel_rfl) (by kernel_rfl) (by kernel_rfl) (fun _ _ _ h => h) (Or.inl ⟨by rfl, fun w hSw => ?_⟩) hHeld ?_
  rotate_left
  · ((try dsimp only at hSw); go_split_ands; go_simp; (try with_reducible rfl))
  try simp only [Act.put, List.getElem_toArray, List.getElem_cons_zero, List.getElem_cons_succ, List.setIfInBounds_toArray, List.set_cons_zero, List.set_cons_succ]
  refine wpAnyH_take (i := 15) (v := ?_) rfl (by kernel_rfl) (by kernel_rfl) (by kernel_rfl) (fun _ _ _ h => h) (Or.inl ⟨by rfl, fun w hSw => ?_⟩) hHeld ?_
  rotate_left
  · ((try dsimp only at hSw); go_split_ands; go_simp; (try with_reducible rfl))
  try simp only [Act.put, List.getElem_toArray, List.getElem_cons_zero, List.getElem_cons_succ, List.setIfInBounds_toArray, List.set_cons_zero, List.set_cons_succ]
  refine wpAnyH_take (i := 16) (v := ?_) rfl (by kernel_rfl) (by kernel_rfl) (by kernel_rfl) (fun _ _ _ h => h) (Or.inl ⟨by rfl, fun w hSw => ?_⟩) hHeld ?_
  rotate_left
  · ((try dsimp only at hSw); go_split_ands; go_simp; (try with_reducible rfl))
  try simp only [Act.put, List.getElem_toArray, List.getElem_cons_zero, List.getElem_cons_succ, List.setIfInBounds_toArray, List.set_cons_zero, List.set_cons_succ]
  refine wpAnyH_take (i := 17) (v := ?_) rfl (by kernel_rfl) (by kernel_rfl) (by kernel_rfl) (fun _ _ _ h => h) (Or.inl ⟨by rfl, fun w hSw => ?_⟩) hHeld ?_
  rotate_left
  · ((try dsimp only at hSw); go_split_ands; go_simp; (try with_reducible rfl))
  try simp only [Act.put, List.getElem_toArray, List.getElem_cons_zero, List.getElem_cons_succ, List.setIfInBounds_toArray, List.set_cons_zero, List.set_cons_succ]
  refine wpAnyH_take (i := 19) (v := ?_) rfl (by kernel_rfl) (by kernel_rfl) (by kernel_rfl) (fun _ _ _ h => h) (Or.inl ⟨by rfl, fun w hSw => ?_⟩) hHeld ?_
  rotate_left
  · ((try dsimp only at hSw); go_split_ands; go_simp; (try with_reducible rfl))
  try simp only [Act.put, List.getElem_toArray, List.getElem_cons_zero, List.getElem_cons_succ, List.setIfInBounds_toArray, List.set_cons_zero, List.set_cons_succ]
  refine wpAnyH_ready (rs := [18]) (by kernel_rfl) (by simp) ?_
  refine AllReadyH.cons rfl (fun K hK => ?_) AllReadyH.nil
  try simp only [List.getElem_toArray, List.getElem_cons_zero, List.getElem_cons_succ]
  (go_simp; refine (c_impl_usedIn _ a _ (hV.out.below HB2.out) H8.out).mono ?_; rintro e w4 ⟨rfl, hB4⟩; have kd0 := kc0.next hB4; have kd1 := kc1.next hB4; have kd2 := kc2.next hB4; have HB4 := Lib.hid (bgo HB2.out hB4); clear hB4)
  refine hK.out _ _ (⟨kd0.cell, kd1.cell⟩) (fun hHeldN => ?_)
  clear hHeld hK K
  have hHeld := hHeldN
  clear hHeldN
  try simp only [Act.put, List.getElem_toArray, List.getElem_cons_zero, List.getElem_cons_succ, List.setIfInBounds_toArray, List.set_cons_zero, List.set_cons_succ]
  refine wpAnyH_ready (rs := [20]) (by kernel_rfl) (by simp) ?_
  refine AllReadyH.cons rfl (fun K hK => ?_) AllReadyH.nil
  try simp only [List.getElem_toArray, List.getElem_cons_zero, List.getElem_cons_succ]
  (go_simp; refine (c_impl_usedIn _ b _ (hV'.out.below HB4.out) H8'.out).mono ?_; rintro e w5 ⟨rfl, hB5⟩; have ke0 := kd0.next hB5; have ke1 := kd1.next hB5; have ke2 := kd2.next hB5; have HB5 := Lib.hid (bgo HB4.out hB5); clear hB5)
  refine hK.out _ _ (⟨ke0.cell, ke1.cell⟩) (fun hHeldN => ?_)
  clear hHeld hK K
  have hHeld := hHeldN
  clear hHeldN
  try simp only [Act.put, List.getElem_toArray, List.getElem_cons_zero, List.getElem_cons_succ, List.setIfInBounds_toArray, List.set_cons_zero, List.set_cons_succ]
  refine wpAnyH_take (i := 21) (v := ?_) rfl (by kernel_rfl) (by kernel_rfl) (by kernel_rfl) (fun _ _ _ h => h) (Or.inl ⟨by rfl, fun w hSw => ?_⟩) hHeld ?_
  rotate_left
  · ((try dsimp only at hSw); go_split_ands; go_simp; (try with_reducible rfl))
  try simp only [Act.put, List.getElem_toArray, List.getElem_cons_zero, List.getElem_cons_succ, List.setIfInBounds_toArray, List.set_cons_zero, List.set_cons_succ]
  rw [HU.out]
  refine wpAnyH_take (i := 22) (v := ?_) rfl (by kernel_rfl) (by kernel_rfl) (by kernel_rfl) (fun _ _ _ h => h) (Or.inl ⟨by rfl, fun w hSw => ?_⟩) hHeld ?_
  rotate_left
  · ((try dsimp only at hSw); go_split_ands; go_simp; (try with_reducible rfl))
  try simp only [Act.put, List.getElem_toArray, List.getElem_cons_zero, List.getElem_cons_succ, List.setIfInBounds_toArray, List.set_cons_zero, List.set_cons_succ]
  refine wpAnyH_take (i := 23) (v := ?_) rfl (by kernel_rfl) (by kernel_rfl) (by kernel_rfl) (fun _ _ _ h => h) (Or.inl ⟨by rfl, fun w hSw => ?_⟩) hHeld ?_
  rotate_left
  · ((try dsimp only at hSw); go_split_ands; go_simp; (try with_reducible rfl))
  try simp only [Act.put, List.getElem_toArray, List.getElem_cons_zero, List.getElem_cons_succ, List.setIfInBounds_toArray, List.set_cons_zero, List.set_cons_succ]
  refine wpAnyH_done (by kernel_rfl) ?_ _
  refine NoPanic.normal ?_
  clear kb0 kb1 kb2 kc0 kc1 kc2 kd0 kd1 kd2 k0 k1 k2
  (replace qke0 := ke0.cell; replace rke0 := ke0.frozen; replace lke0 := ke0.lt; replace qke1 := ke1.cell; replace rke1 := ke1.frozen; replace lke1 := ke1.lt; replace qke2 := ke2.cell; replace rke2 := ke2.frozen; replace lke2 := ke2.lt)
  go_wp2_with fail
  refine (c_impl_copyState _ a _ (hV.out.below HB5.out)).mono ?_
  rintro e w6 ⟨r, rfl, o, hB6⟩
  have hz5 := HB5.out.size
  have kf1 := ke1.next hB6
  have kf2 := ke2.next hB6
  have HB6 := Lib.hid (bgo HB5.out hB6)
  obtain ⟨fv, av, rfl, o1, o2, dj⟩ := o
  obtain ⟨F, e1, rfl, -⟩ := o1.reads
  obtain ⟨G, e2, rfl, -⟩ := o2.reads
  have O1 := Lib.hid (o1.lower (base' := w.heap.size) hz5)
  have O2 := Lib.hid (o2.lower (base' := w.heap.size) hz5)
  have HD := Lib.hid dj
  have hzw := HB6.out.size
  have hB7 : Hid (Below w.heap.size w (w6.alloc (.cells #[.slice F a.values.length e1, .slice G a.heap.length e2] tSt))) := Lib.hid (bbox HB6.out _)
  have hBw : Below w6.heap.size w6 (w6.alloc (.cells #[.slice F a.values.length e1, .slice G a.heap.length e2] tSt)) := bbox (Below.refl _ _) _
  have k3 : Blk (w6.alloc (.cells #[.slice F a.values.length e1, .slice G a.heap.length e2] tSt)) w6.heap.size tSt #[.slice F a.values.length e1, .slice G a.heap.length e2] := Blk.new _ _ _
  have P1 := Lib.hid (O1.out.below hBw)
  have P2 := Lib.hid (O2.out.below hBw)
  replace kf1 := kf1.alloc (.cells #[.slice F a.values.length e1, .slice G a.heap.length e2] tSt)
  replace kf2 := kf2.alloc (.cells #[.slice F a.values.length e1, .slice G a.heap.length e2] tSt)
  have hl1 : w.heap.size + 1 + 1 < w6.heap.size := (kf2.lt |> fun _ => by have := ke2.lt; have := hB6.size; omega)
  clear o1 o2 dj O1 O2 hBw ke0 ke1 ke2 hB6 HB5 HB4 HB2 HB1 HB6
  go_wp2_with fail
  generalize (w6.alloc (.cells #[.slice F a.values.length e1, .slice G a.heap.length e2] tSt)) = W6 at k3 P1 P2 kf1 kf2 hB7 ⊢
  go_loopw [7] (fun i wr => ∃ k : Nat, k ≤ 8 ∧ i = .int .i64 ((k : Int) + 1) ∧ Blk wr (w.heap.size + 1) tSt #[.slice B1 b.values.length d1, .slice B2 b.heap.length d2] ∧ Blk wr (w.heap.size + 1 + 1) tSt #[.slice none 0 0, .slice none 0 0] ∧ Blk wr w6.heap.size tSt #[.slice F a.values.length e1, .slice G a.heap.length e2] ∧ Hid (IntsO wr w.heap.size (.slice F a.values.length e1) a.values) ∧ Hid (IntsO wr w.heap.size (.slice G a.heap.length e2) (joinTo a.heap b.heap k)) ∧ Hid (Below w.heap.size w wr)) (fun i _ => 10 - (intOf i).toNat)
  case atStart => exact ⟨0, by omega, rfl, kf1, kf2, k3, P1.out, by rw [joinTo_zero]; exact P2.out, hB7.out⟩
  case round =>
    clear kf1 kf2 k3 P1 P2 hB7
    obtain ⟨k, hk, rfl, k1, k2, k3, HF, HG, HB⟩ := hrel
    have hsz := HB.out.size
    (replace qk1 := k1.cell; replace rk1 := k1.frozen; replace lk1 := k1.lt; replace qk2 := k2.cell; replace rk2 := k2.frozen; replace lk2 := k2.lt; replace qk3 := k3.cell; replace rk3 := k3.frozen; replace lk3 := k3.lt)
    by_cases hlt : k < 8
    · have hki : (k : Int) + 1 ≤ 8 := by omega
      go_wp2_with fail
      refine (c_impl_allocated _ b _ _ (hV'.out.below HB.out) H8'.out).mono ?_
      rintro e w2 ⟨rfl, hB2⟩
      have hsz2 := hB2.size
      have HF2 := Lib.hid (HF.out.below hB2)
      have HG2 := Lib.hid (HG.out.below hB2)
      have HB3 := Lib.hid (bgo HB.out hB2)
      (replace k1 := k1.next hB2; replace qk1 := k1.cell; replace rk1 := k1.frozen; replace lk1 := k1.lt; replace k2 := k2.next hB2; replace qk2 := k2.cell; replace rk2 := k2.frozen; replace lk2 := k2.lt; replace k3 := k3.next hB2; replace qk3 := k3.cell; replace rk3 := k3.frozen; replace lk3 := k3.lt)
      clear hB2 HF HG
      cases hal : allocB b.heap ((k : Int) + 1)
      · have HM := Lib.hid (joinTo_keep (y := a.heap) hal)
        clear hal
        go_wp2_with fail
        go_round
        case rel => exact ⟨k + 1, by omega, by go_num, k1, k2, k3, HF2.out, by rw [HM.out]; exact HG2.out, HB3.out⟩
        case measure => simp [intOf]; omega
      · have HM := Lib.hid (joinTo_set (y := a.heap) hal (by have := H8.out; omega))
        clear hal
        have hnl : (k : Int) < (a.heap.length : Int) := by have := H8.out; omega
        have hjl := joinTo_len a.heap b.heap k
        obtain ⟨g, cur, -, rfl, hg, kg, hc, -⟩ := HG2.out.cell_ (k := k) (by rw [joinTo_len]; have := H8.out; omega)
        have q := kg.cell k
        rw [hc] at q
        obtain ⟨y, hy⟩ : ∃ y, y = (joinTo a.heap b.heap k)[k]'(by rw [joinTo_len]; have := H8.out; omega) := ⟨_, rfl⟩
        rw [← hy] at q
        have f := kg.frozen k
        have hgl := kg.lt
        have hne1 : w.heap.size + 1 ≠ g := k1.ne_ kg (by decide)
        have hne2 : w.heap.size + 1 + 1 ≠ g := k2.ne_ kg (by decide)
        have hne3 : w6.heap.size ≠ g := k3.ne_ kg (by decide)
        have H12 := Lib.hid (And.intro hne1 (And.intro hne2 hne3))
        have hlb : w.heap.size + 1 < w2.heap.size := k1.lt
        have hlx : w6.heap.size < w2.heap.size := k3.lt
        have hw1 : IntKind.i64.wrap ((k : Int) + 1 - 1) = (k : Int) := by rw [show (k : Int) + 1 - 1 = (k : Int) by omega]; exact IntWalk.i64_in _ (by omega)
        have hwk : IntKind.i64.wrap (k : Int) = (k : Int) := IntWalk.i64_in _ (by omega)
        clear hc hy
        go_wp2_with fail
        refine wp_region_noPanic ?_
        refine wp_region_held_drew (S := (fun w' => (∀ i, w'.cell? ⟨w.heap.size + 1, i, none⟩ = #[.slice B1 b.values.length d1, .slice B2 b.heap.length d2][i]?) ∧ (∀ i, w'.cell? ⟨w6.heap.size, i, none⟩ = #[.slice F a.values.length e1, .slice (some ⟨g, 0, none⟩) a.heap.length e2][i]?))) (by kernel_rfl) (⟨k1.cell, k3.cell⟩) (fun hHeld => ?_)
        refine wpAnyH_take (i := 0) (v := ?_) rfl (by kernel_rfl) (by kernel_rfl) (by kernel_rfl) (fun _ _ _ h => h) (Or.inl ⟨by rfl, fun w hSw => ?_⟩) hHeld ?_
        rotate_left
        · ((try dsimp only at hSw); go_split_ands; go_simp; (try with_reducible rfl))
        try simp only [Act.put, List.getElem_toArray, List.getElem_cons_zero, List.getElem_cons_succ, List.setIfInBounds_toArray, List.set_cons_zero, List.set_cons_succ]
        refine wpAnyH_take (i := 1) (v := ?_) rfl (by kernel_rfl) (by kernel_rfl) (by kernel_rfl) (fun _ _ _ h => h) (Or.inl ⟨by rfl, fun w hSw => ?_⟩) hHeld ?_
        rotate_left
        · ((try dsimp only at hSw); go_split_ands; go_simp; (try with_reducible rfl))
        try simp only [Act.put, List.getElem_toArray, List.getElem_cons_zero, List.getElem_cons_succ, List.setIfInBounds_toArray, List.set_cons_zero, List.set_cons_succ]
        refine wpAnyH_take (i := 2) (v := ?_) rfl (by kernel_rfl) (by kernel_rfl) (by kernel_rfl) (fun _ _ _ h => h) (Or.inl ⟨by rfl, fun w hSw => ?_⟩) hHeld ?_
        rotate_left
        · ((try dsimp only at hSw); go_split_ands; go_simp; (try with_reducible rfl))
        try simp only [Act.put, List.getElem_toArray, List.getElem_cons_zero, List.getElem_cons_succ, List.setIfInBounds_toArray, List.set_cons_zero, List.set_cons_succ]
        refine wpAnyH_take (i := 3) (v := ?_) rfl (by kernel_rfl) (by kernel_rfl) (by kernel_rfl) (fun _ _ _ h => h) (Or.inl ⟨by rfl, fun w hSw => ?_⟩) hHeld ?_
        rotate_left
        · ((try dsimp only at hSw); go_split_ands; go_simp; (try with_reducible rfl))
        try simp only [Act.put, List.getElem_toArray, List.getElem_cons_zero, List.getElem_cons_succ, List.setIfInBounds_toArray, List.set_cons_zero, List.set_cons_succ]
        refine wpAnyH_take (i := 4) (v := ?_) rfl (by kernel_rfl) (by kernel_rfl) (by kernel_rfl) (fun _ _ _ h => h) (Or.inl ⟨by rfl, fun w hSw => ?_⟩) hHeld ?_
        rotate_left
        · ((try dsimp only at hSw); go_split_ands; go_simp; (try with_reducible rfl))
        try simp only [Act.put, List.getElem_toArray, List.getElem_cons_zero, List.getElem_cons_succ, List.setIfInBounds_toArray, List.set_cons_zero, List.set_cons_succ]
        refine wpAnyH_take (i := 5) (v := ?_) rfl (by kernel_rfl) (by kernel_rfl) (by kernel_rfl) (fun _ _ _ h => h) (Or.inl ⟨by rfl, fun w hSw => ?_⟩) hHeld ?_
        rotate_left
        · ((try dsimp only at hSw); go_split_ands; go_simp; (try with_reducible rfl))
        try simp only [Act.put, List.getElem_toArray, List.getElem_cons_zero, List.getElem_cons_succ, List.setIfInBounds_toArray, List.set_cons_zero, List.set_cons_succ]
        refine wpAnyH_ready (rs := [6]) (by kernel_rfl) (by simp) ?_
        refine AllReadyH.cons rfl (fun K hK => ?_) AllReadyH.nil
        try simp only [List.getElem_toArray, List.getElem_cons_zero, List.getElem_cons_succ]
        (go_simp; refine (c_impl_content _ b _ _ (hV'.out.below HB3.out.drew) H8'.out).mono ?_; rintro e w3 ⟨rfl, hB4⟩; have B4 : Below w2.heap.size w2 w3 := bgo (Below.refl _ _).drew hB4; have k1' := k1.next B4; have k2' := k2.next B4; have k3' := k3.next B4; have q4 := (B4.cell (p := ⟨g, k, none⟩) hgl).trans q; have f4 := (B4.frozen (p := ⟨g, k, none⟩) hgl).trans f; have kg' := kg.next B4; have HB4 := Lib.hid (bgo HB3.out B4); have HF4 := Lib.hid (HF2.out.below B4); have HG4 := Lib.hid (HG2.out.below B4))
        refine hK.out _ _ (⟨k1'.cell, k3'.cell⟩) (fun hHeldN => ?_)
        clear hHeld hK K
        have hHeld := hHeldN
        clear hHeldN
        try simp only [Act.put, List.getElem_toArray, List.getElem_cons_zero, List.getElem_cons_succ, List.setIfInBounds_toArray, List.set_cons_zero, List.set_cons_succ]
        have hgl4 := kg'.lt
        clear qk1 rk1 lk1 qk2 rk2 lk2 qk3 rk3 lk3 q f
        refine wpAnyH_take (i := 7) (v := ?_) rfl (by kernel_rfl) (by kernel_rfl) (by kernel_rfl) (fun _ _ _ h => h) (Or.inl ⟨by rfl, fun w hSw => ?_⟩) hHeld ?_
        rotate_left
        · ((try dsimp only at hSw); go_split_ands; go_simp; (try with_reducible rfl))
        try simp only [Act.put, List.getElem_toArray, List.getElem_cons_zero, List.getElem_cons_succ, List.setIfInBounds_toArray, List.set_cons_zero, List.set_cons_succ]
        refine wpAnyH_ready (rs := [8]) (by kernel_rfl) (by simp) ?_
        refine AllReadyH.cons rfl (fun K hK => ?_) AllReadyH.nil
        try simp only [List.getElem_toArray, List.getElem_cons_zero, List.getElem_cons_succ]
        go_simp
        refine hK.out _ _ (⟨(k1'.far (p := ⟨g, k, none⟩) H12.out.1 _).cell, (k3'.far (p := ⟨g, k, none⟩) H12.out.2.2 _).cell⟩) (fun hHeldN => ?_)
        clear hHeld hK K
        have hHeld := hHeldN
        clear hHeldN
        try simp only [Act.put, List.getElem_toArray, List.getElem_cons_zero, List.getElem_cons_succ, List.setIfInBounds_toArray, List.set_cons_zero, List.set_cons_succ]
        refine wpAnyH_done (by kernel_rfl) ?_ _
        refine NoPanic.normal ?_
        obtain ⟨x, hx⟩ : ∃ x, x = cont b.heap ((k : Int) + 1) := ⟨_, rfl⟩
        rw [← hx] at HM ⊢
        clear hx
        obtain ⟨g', cur', -, ev, -, -, -, hset⟩ := HG4.out.cell_ (k := k) (by rw [joinTo_len]; have := H8.out; omega)
        injection ev with ev
        injection ev with ev
        subst ev
        have HSET := Lib.hid (hset x)
        clear hset
        go_wp2_with fail
        go_round
        case rel => exact ⟨k + 1, by omega, by go_num, k1'.far (p := ⟨g, k, none⟩) H12.out.1 _, k2'.far (p := ⟨g, k, none⟩) H12.out.2.1 _, k3'.far (p := ⟨g, k, none⟩) H12.out.2.2 _, HF4.out.set_ne (q := ⟨g, k, none⟩) (fun e => HD.out g e rfl) _, by rw [HM.out]; exact HSET.out, HB4.out.setCell (p := ⟨g, k, none⟩) hg _⟩
        case measure => simp [intOf]; omega
    · obtain rfl : k = 8 := by omega
      have hne : w6.heap.size ≠ w.heap.size + 1 + 1 := by omega
      have HM := Lib.hid (joinTo_all (r := b.heap) H8.out)
      go_wp2_with fail
      refine bodyPost_ret (v := .tuple #[.agg #[.slice F a.values.length e1, .slice G a.heap.length e2], .bool true]) (by simp [results, Tryz.results21, go_sem, qk2]) rfl ⟨_, rfl, ?_, ?_⟩
      · have hl : (joinH a.heap b.heap).length = a.heap.length := by rw [H8.out]; simp [joinH]
        have x1 := (HF.out.setT k2 (by decide) 0 (.slice F a.values.length e1)).setT (k2.set_ 0 _) (by decide) 1 (.slice G a.heap.length e2)
        have x2 := (HG.out.setT k2 (by decide) 0 (.slice F a.values.length e1)).setT (k2.set_ 0 _) (by decide) 1 (.slice G a.heap.length e2)
        rw [HM.out] at x2
        exact ⟨_, _, rfl, x1, x2, HD.out⟩
      · exact (HB.out.setCell (p := ⟨w.heap.size + 1 + 1, 0, none⟩) (by simp only; omega) _).setCell (p := ⟨w.heap.size + 1 + 1, 1, none⟩) (by simp only; omega) _
--@
end Go.Proofs.YteogcababfenfaaGreat

/- Programs: whether a command allocates (the laws' slNews). -/
namespace Go.Proofs.YteogcababfenfaaGreat
open Go Go.RowKit Go.Proofs
--@ laws.slNews
set_option maxRecDepth 100000 in
set_option maxHeartbeats 6400000 in
theorem slNews_go : ∀ (N : Nat) (L : Cms), L.sz < N → ∀ (A : Option Addr) (c lo hi : Nat) (w : World), CmsV w lo hi A L → L.len ≤ 1049600 → L.small 1049600 →
    Calls Tryz.prog 20 #[.slice A L.len c] w fun e w' => e = .returned (.bool (!L.noNew)) ∧ Below w.heap.size w w' := by
  intro N
  induction N with
  | zero => intro L h; omega
  | succ N IH =>
    intro L hsz A c lo hi w hV hlen hsm
    replace IH := Lib.hid IH
    replace hV := Lib.hid hV
    replace hsm := Lib.hid hsm
    replace hsz := Lib.hid hsz
    obtain ⟨n, hn⟩ : ∃ n, n = L.len := ⟨_, rfl⟩
    obtain ⟨R, hR⟩ : ∃ R, R = L.noNew := ⟨_, rfl⟩
    rw [← hn, ← hR]
    rw [← hn] at hlen
    replace hn := Lib.hid hn
    replace hR := Lib.hid hR
    go_enter Tryz.func20, Tryz.ntmps20
    go_wp2_with fail
    go_loopw [3] (fun x wr => ∃ j : Nat, j ≤ n ∧ x = .int .i64 j ∧ Hid (R = (L.drop j).noNew) ∧ Below w.heap.size w wr) (fun x _ => n - (intOf x).toNat)
    case atStart => exact ⟨0, Nat.zero_le _, rfl, Lib.hid (by rw [hR.out]; rfl), bel⟩
    case round =>
      obtain ⟨j, hj, rfl, HR, hB⟩ := hrel
      by_cases hlt : j < n
      · have hpos : 0 < (L.drop j).len := by rw [Cms.drop_len, ← hn.out]; omega
        obtain ⟨k, a, b, t, i, body, els, r, eL⟩ := Cms.cons_of_len hpos
        obtain ⟨bl, o, rfl, -, -, hAt⟩ := (hV.out.below hB) (by rw [← hn.out]; omega)
        have hD := hAt.drop j
        have hS := Cms.small_drop j hsm.out
        have hZ := Cms.sz_drop j L
        have hDs := Cms.drop_succ j L eL
        have HR' := HR.out
        rw [eL] at hD hS hZ HR'
        obtain ⟨⟨p0, p1, p2, p3, p4, p5⟩, ⟨A6, c6, p6, g6⟩, ⟨A7, c7, p7, g7⟩, ⟨A8, c8, p8, g8⟩, ⟨A9, c9, p9, g9⟩, -⟩ := hD
        obtain ⟨s1, s2, s3, s4, s5, s6, -⟩ := hS
        simp only [Cms.sz] at hZ
        have hbs : body.sz < N := by have := hsz.out; omega
        have hes : els.sz < N := by have := hsz.out; omega
        have gB : Hid (CmsV wr lo hi A8 body) := g8
        have gE : Hid (CmsV wr lo hi A9 els) := g9
        rw [Cms.noNew, ← hDs] at HR'
        replace HR' := Lib.hid HR'
        replace hbs := Lib.hid hbs
        replace hes := Lib.hid hes
        replace s5 := Lib.hid s5
        replace s6 := Lib.hid s6
        have hji : (j : Int) < (n : Int) := by omega
        have hlt8 := block_lt_of_cell p8
        simp only at hlt8
        clear hZ hpos hAt g6 g7 g8 g9 HR hDs eL s1 s2 p1 p2 p3 p4 p5 p6 p7
        by_cases hk : k = 4
        · subst hk
          have e0 : Hid (R = false) := Lib.hid (by have := HR'.out; simpa using this)
          clear HR'
          go_wp2_with fail
          go_ret
          exact ⟨by rw [e0.out]; rfl, hB⟩
        have hk4 : (k == 4) = false := by simpa using hk
        have hkd : Hid (decide (k ≠ 4) = true) := Lib.hid (by simpa using hk)
        clear hk
        go_wp2_with fail
        refine (IH.out body hbs.out A8 c8 lo hi _ gB.out s3 s5.out).mono ?_
        rintro e w2 ⟨rfl, hB2⟩
        have hB3 := Lib.hid (bgo hB hB2)
        have gE2 := Lib.hid (gE.out.below hB2)
        have p9' := (hB2.cell (p := ⟨bl, o + j * 10 + 9, none⟩) hlt8).trans p9
        clear hB2 gE
        cases hb : body.noNew
        · have e0 : Hid (R = false) := Lib.hid (by have := HR'.out; rw [hb] at this; simpa using this)
          clear HR' hb
          go_wp2_with fail
          go_ret
          exact ⟨by rw [e0.out]; rfl, hB3.out⟩
        have HBT := Lib.hid hb
        clear hb
        go_wp2_with fail
        refine (IH.out els hes.out A9 c9 lo hi _ gE2.out s4 s6.out).mono ?_
        rintro e w4 ⟨rfl, hB4⟩
        have hB5 := Lib.hid (bgo hB3.out hB4)
        clear hB4
        cases he : els.noNew
        · have e0 : Hid (R = false) := Lib.hid (by have := HR'.out; rw [he] at this; simpa using this)
          clear HR' he
          go_wp2_with fail
          go_ret
          exact ⟨by rw [e0.out]; rfl, hB5.out⟩
        have e1 : Hid (R = (L.drop (j + 1)).noNew) := Lib.hid (by have := HR'.out; rw [he, HBT.out, hkd.out] at this; simpa using this)
        clear HR' he
        go_wp2_with fail
        go_round
        case rel => exact ⟨j + 1, by omega, by go_num, e1, hB5.out⟩
        case measure => simp [intOf]; omega
      · go_wp2_with fail
        go_ret
        obtain rfl : j = n := by omega
        have e1 : L.drop j = .nil := by rw [hn.out]; exact Cms.drop_all L
        have h2 := HR.out
        rw [e1] at h2
        exact ⟨by rw [h2]; rfl, hB⟩
theorem c_slNews {lo hi : Nat} (L : Cms) (A : Option Addr) (c : Nat) (w : World) (hV : CmsV w lo hi A L) (hlen : L.len ≤ 1049600) (hsm : L.small 1049600) :
    Calls Tryz.prog 20 #[.slice A L.len c] w fun e w' => e = .returned (.bool (!L.noNew)) ∧ Below w.heap.size w w' := slNews_go (L.sz + 1) L (by omega) A c lo hi w hV hlen hsm
--@
end Go.Proofs.YteogcababfenfaaGreat
