/- Contracts: impl's copies of states. -/
import Derived.Test.YtdhllcejahdjfaaDrawT
import Derived.Test.YtdhllcejahdjfaaFrame
set_option linter.unusedSimpArgs false
set_option linter.unusedVariables false
namespace Go.Proofs.Ytdhllcejahdjfaa
open Go Go.RowKit Go.Proofs

--@ impl.copyState
set_option maxRecDepth 100000 in
set_option maxHeartbeats 1600000 in
theorem c_impl_copyState {lo hi : Nat} (v : Value) (s : Ste) (w : World) (h : StateV w lo hi v s) : Calls Try.prog 91 #[v] w fun e w' => ∃ r, e = .returned r ∧ StateO w' w.heap.size r s ∧ Below w.heap.size w w' := by
  obtain ⟨A1, c1, A2, c2, rfl, h1, h2⟩ := h
  have H1 := Lib.hid h1
  have H2 := Lib.hid h2
  clear h1 h2
  go_enter Try.func91, Try.ntmps91
  have k0 : Blk ((w.alloc (.cells #[.slice A1 s.values.length c1, .slice A2 s.heap.length c2] tSt)).alloc (.cells #[.slice none 0 0, .slice none 0 0] tSt)) w.heap.size tSt #[.slice A1 s.values.length c1, .slice A2 s.heap.length c2] := (by repeat (first | (with_reducible assumption) | (with_reducible exact Blk.new _ _ _) | ((with_reducible apply Blk.far); (case hp => (first | exact Nat.le_refl _ | (simp; done) | (simp; omega) | (simp only; omega) | omega))) | (with_reducible apply Blk.set_) | ((with_reducible refine Blk.newE ?_); (simp; done)) | (with_reducible apply Blk.alloc) | (with_reducible apply Blk.drew) | (with_reducible apply Blk.drewN)))
  have kr : Blk ((w.alloc (.cells #[.slice A1 s.values.length c1, .slice A2 s.heap.length c2] tSt)).alloc (.cells #[.slice none 0 0, .slice none 0 0] tSt)) (w.heap.size + 1) tSt #[.slice none 0 0, .slice none 0 0] := (by repeat (first | (with_reducible assumption) | (with_reducible exact Blk.new _ _ _) | ((with_reducible apply Blk.far); (case hp => (first | exact Nat.le_refl _ | (simp; done) | (simp; omega) | (simp only; omega) | omega))) | (with_reducible apply Blk.set_) | ((with_reducible refine Blk.newE ?_); (simp; done)) | (with_reducible apply Blk.alloc) | (with_reducible apply Blk.drew) | (with_reducible apply Blk.drewN)))
  go_wp2_with fail
  refine wp_region_noPanic ?_
  refine wp_region_held_drew (S := (fun w' => ∀ i, w'.cell? ⟨w.heap.size, i, none⟩ = #[.slice A1 s.values.length c1, .slice A2 s.heap.length c2][i]?)) (by kernel_rfl) (Blk.cell (by repeat (first | (with_reducible assumption) | (with_reducible exact Blk.new _ _ _) | ((with_reducible apply Blk.far); (case hp => (first | exact Nat.le_refl _ | (simp; done) | (simp; omega) | (simp only; omega) | omega))) | (with_reducible apply Blk.set_) | ((with_reducible refine Blk.newE ?_); (simp; done)) | (with_reducible apply Blk.alloc) | (with_reducible apply Blk.drew) | (with_reducible apply Blk.drewN)))) (fun hHeld => ?_)
  refine wpAnyH_take (i := 0) (v := ?_) rfl (by kernel_rfl) (by kernel_rfl) (by kernel_rfl) (fun _ _ _ h => h) (Or.inl ⟨by rfl, fun w hSw => ?_⟩) hHeld ?_
  rotate_left
  · ((try dsimp only at hSw); go_split_ands; go_simp; (try with_reducible rfl))
  try simp only [Act.put, List.getElem_toArray, List.getElem_cons_zero, List.getElem_cons_succ, List.setIfInBounds_toArray, List.set_cons_zero, List.set_cons_succ]
  refine wpAnyH_take (i := 1) (v := ?_) rfl (by kernel_rfl) (by kernel_rfl) (by kernel_rfl) (fun _ _ _ h => h) (Or.inl ⟨by rfl, fun w hSw => ?_⟩) hHeld ?_
  rotate_left
  · ((try dsimp only at hSw); go_split_ands; go_simp; (try with_reducible rfl))
  try simp only [Act.put, List.getElem_toArray, List.getElem_cons_zero, List.getElem_cons_succ, List.setIfInBounds_toArray, List.set_cons_zero, List.set_cons_succ]
  refine wpAnyH_take (i := 3) (v := ?_) rfl (by kernel_rfl) (by kernel_rfl) (by kernel_rfl) (fun _ _ _ h => h) (Or.inl ⟨by rfl, fun w hSw => ?_⟩) hHeld ?_
  rotate_left
  · ((try dsimp only at hSw); go_split_ands; go_simp; (try with_reducible rfl))
  try simp only [Act.put, List.getElem_toArray, List.getElem_cons_zero, List.getElem_cons_succ, List.setIfInBounds_toArray, List.set_cons_zero, List.set_cons_succ]
  refine wpAnyH_take (i := 4) (v := ?_) rfl (by kernel_rfl) (by kernel_rfl) (by kernel_rfl) (fun _ _ _ h => h) (Or.inl ⟨by rfl, fun w hSw => ?_⟩) hHeld ?_
  rotate_left
  · ((try dsimp only at hSw); go_split_ands; go_simp; (try with_reducible rfl))
  try simp only [Act.put, List.getElem_toArray, List.getElem_cons_zero, List.getElem_cons_succ, List.setIfInBounds_toArray, List.set_cons_zero, List.set_cons_succ]
  refine wpAnyH_ready (rs := [2]) (by kernel_rfl) (by simp) ?_
  refine AllReadyH.cons rfl (fun K hK => ?_) AllReadyH.nil
  try simp only [List.getElem_toArray, List.getElem_cons_zero, List.getElem_cons_succ]
  (go_simp; refine (c_impl_copyInts A1 c1 s.values _ (H1.out.below (by repeat (first | (with_reducible exact Below.refl _ _) | (with_reducible assumption) | (with_reducible apply bbox) | ((with_reducible apply Below.setCell); (case hp => (first | exact Nat.le_refl _ | (simp; done) | (simp; omega) | (simp only; omega) | omega))) | (with_reducible apply Below.drew) | (with_reducible apply below_drewN))))).mono ?_; rintro e w1 ⟨r1, rfl, o1, hB1⟩; have hB := bgo (w := w) (by repeat (first | (with_reducible exact Below.refl _ _) | (with_reducible assumption) | (with_reducible apply bbox) | ((with_reducible apply Below.setCell); (case hp => (first | exact Nat.le_refl _ | (simp; done) | (simp; omega) | (simp only; omega) | omega))) | (with_reducible apply Below.drew) | (with_reducible apply below_drewN))) hB1; replace k0 := Blk.next (g := w.heap.size) (by repeat (first | (with_reducible assumption) | (with_reducible exact Blk.new _ _ _) | ((with_reducible apply Blk.far); (case hp => (first | exact Nat.le_refl _ | (simp; done) | (simp; omega) | (simp only; omega) | omega))) | (with_reducible apply Blk.set_) | ((with_reducible refine Blk.newE ?_); (simp; done)) | (with_reducible apply Blk.alloc) | (with_reducible apply Blk.drew) | (with_reducible apply Blk.drewN))) hB1; replace kr := Blk.next (g := w.heap.size + 1) (by repeat (first | (with_reducible assumption) | (with_reducible exact Blk.new _ _ _) | ((with_reducible apply Blk.far); (case hp => (first | exact Nat.le_refl _ | (simp; done) | (simp; omega) | (simp only; omega) | omega))) | (with_reducible apply Blk.set_) | ((with_reducible refine Blk.newE ?_); (simp; done)) | (with_reducible apply Blk.alloc) | (with_reducible apply Blk.drew) | (with_reducible apply Blk.drewN))) hB1)
  refine hK.out _ _ (k0.cell) (fun hHeldN => ?_)
  clear hHeld hK K
  have hHeld := hHeldN
  clear hHeldN
  try simp only [Act.put, List.getElem_toArray, List.getElem_cons_zero, List.getElem_cons_succ, List.setIfInBounds_toArray, List.set_cons_zero, List.set_cons_succ]
  refine wpAnyH_ready (rs := [5]) (by kernel_rfl) (by simp) ?_
  refine AllReadyH.cons rfl (fun K hK => ?_) AllReadyH.nil
  try simp only [List.getElem_toArray, List.getElem_cons_zero, List.getElem_cons_succ]
  (go_simp; refine (c_impl_copyInts A2 c2 s.heap _ (H2.out.below hB)).mono ?_; rintro e w2 ⟨r2, rfl, o2, hB2⟩; have hBB := bgo hB hB2; have hz1 := hB.size; replace k0 := k0.next hB2; replace kr := kr.next hB2)
  refine hK.out _ _ (k0.cell) (fun hHeldN => ?_)
  clear hHeld hK K
  have hHeld := hHeldN
  clear hHeldN
  try simp only [Act.put, List.getElem_toArray, List.getElem_cons_zero, List.getElem_cons_succ, List.setIfInBounds_toArray, List.set_cons_zero, List.set_cons_succ]
  have HD := Lib.hid (show ∀ g, r1.ownBlock = some g → r2.ownBlock ≠ some g from fun g hg e => by
    have := (o1.1.lt g hg).2
    have := (o2.1.lt g e).1
    omega)
  have HO1 := Lib.hid ((o1.below hB2).lower (base' := w.heap.size) (by (try simp) <;> omega))
  have HO2 := Lib.hid (o2.lower (base' := w.heap.size) hz1)
  obtain ⟨F, e1, rfl, -⟩ := o1.reads
  obtain ⟨G, e2, rfl, -⟩ := o2.reads
  clear o1 o2 hB1 hB2
  (replace qkr := kr.cell; replace rkr := kr.frozen; replace lkr := kr.lt)
  refine wpAnyH_take (i := 6) (v := ?_) rfl (by kernel_rfl) (by kernel_rfl) (by kernel_rfl) (fun _ _ _ h => h) (Or.inl ⟨by rfl, fun w hSw => ?_⟩) hHeld ?_
  rotate_left
  · ((try dsimp only at hSw); go_split_ands; go_simp; (try with_reducible rfl))
  try simp only [Act.put, List.getElem_toArray, List.getElem_cons_zero, List.getElem_cons_succ, List.setIfInBounds_toArray, List.set_cons_zero, List.set_cons_succ]
  refine wpAnyH_ready (rs := [7]) (by kernel_rfl) (by simp) ?_
  refine AllReadyH.cons rfl (fun K hK => ?_) AllReadyH.nil
  try simp only [List.getElem_toArray, List.getElem_cons_zero, List.getElem_cons_succ]
  go_simp
  refine hK.out _ _ (Blk.cell (by repeat (first | (with_reducible assumption) | (with_reducible exact Blk.new _ _ _) | ((with_reducible apply Blk.far); (case hp => (first | exact Nat.le_refl _ | (simp; done) | (simp; omega) | (simp only; omega) | omega))) | (with_reducible apply Blk.set_) | ((with_reducible refine Blk.newE ?_); (simp; done)) | (with_reducible apply Blk.alloc) | (with_reducible apply Blk.drew) | (with_reducible apply Blk.drewN)))) (fun hHeldN => ?_)
  clear hHeld hK K
  have hHeld := hHeldN
  clear hHeldN
  try simp only [Act.put, List.getElem_toArray, List.getElem_cons_zero, List.getElem_cons_succ, List.setIfInBounds_toArray, List.set_cons_zero, List.set_cons_succ]
  refine wpAnyH_done (by kernel_rfl) ?_ _
  refine NoPanic.normal ?_
  go_wp2_with fail
  refine bodyPost_ret (v := .agg #[.slice F s.values.length e1, .slice G s.heap.length e2]) (by simp [results, Try.results91, go_sem, qkr]) rfl ⟨_, rfl, ⟨_, _, rfl, ?_, ?_, HD.out⟩, (by repeat (first | (with_reducible exact Below.refl _ _) | (with_reducible assumption) | (with_reducible apply bbox) | ((with_reducible apply Below.setCell); (case hp => (first | exact Nat.le_refl _ | (simp; done) | (simp; omega) | (simp only; omega) | omega))) | (with_reducible apply Below.drew) | (with_reducible apply below_drewN)))⟩
  · exact (HO1.out.setT kr (by decide) 0 _).setT (kr.set_ 0 _) (by decide) 1 _
  · exact (HO2.out.setT kr (by decide) 0 _).setT (kr.set_ 0 _) (by decide) 1 _

--@ impl.Holds
/-- a holds in the whole of s -/
def holdsF (s : Ste) (a : Asn) : Bool := (partOf s a).isSome && (((bitsOf ((partOf s a).getD []) : Nat) : Int) == (bitsOf (usedL s.heap 8) : Nat))
theorem partOf_len {s : Ste} {a : Asn} (h : (partOf s a).isSome = true) : s.heap.length = 8 := by
  unfold partOf at h
  split at h
  · rename_i hv
    simp only [Bool.and_eq_true] at hv
    exact (Ste.valid_len hv.1.1).2
  · cases h
set_option maxRecDepth 100000 in
set_option maxHeartbeats 1600000 in
theorem c_impl_Holds {lo hi lo' hi' : Nat} (v v' : Value) (s : Ste) (a : Asn) (w : World) (h : StateV w lo hi v s) (h' : AsnV w lo' hi' v' a) :
    Calls Try.prog 27 #[v, v'] w fun e w' => e = .returned (.bool (holdsF s a)) ∧ Below w.heap.size w w' := by
  have hV := Lib.hid h
  have hV' := Lib.hid h'
  obtain ⟨A1, c1, A2, c2, rfl, -, -⟩ := h
  obtain ⟨A3, c3, A4, c4, rfl, -, -⟩ := h'
  have HE : Hid (holdsF s a = ((partOf s a).isSome && (((bitsOf ((partOf s a).getD []) : Nat) : Int) == (bitsOf (usedL s.heap 8) : Nat)))) := rfl
  go_enter Try.func27, Try.ntmps27
  have k0 : Blk ((w.alloc (.cells #[.slice A1 s.values.length c1, .slice A2 s.heap.length c2] tSt)).alloc (.cells #[.slice A3 a.facts.length c3, .slice A4 a.atoms.length c4] 26)) w.heap.size tSt #[.slice A1 s.values.length c1, .slice A2 s.heap.length c2] := (by repeat (first | (with_reducible assumption) | (with_reducible exact Blk.new _ _ _) | ((with_reducible apply Blk.far); (case hp => (first | exact Nat.le_refl _ | (simp; done) | (simp; omega) | (simp only; omega) | omega))) | (with_reducible apply Blk.set_) | ((with_reducible refine Blk.newE ?_); (simp; done)) | (with_reducible apply Blk.alloc) | (with_reducible apply Blk.drew) | (with_reducible apply Blk.drewN)))
  go_wp2_with fail
  refine (c_impl_partOf _ _ s a _ (hV.out.below (by repeat (first | (with_reducible exact Below.refl _ _) | (with_reducible assumption) | (with_reducible apply bbox) | ((with_reducible apply Below.setCell); (case hp => (first | exact Nat.le_refl _ | (simp; done) | (simp; omega) | (simp only; omega) | omega))) | (with_reducible apply Below.drew) | (with_reducible apply below_drewN)))) (hV'.out.below (by repeat (first | (with_reducible exact Below.refl _ _) | (with_reducible assumption) | (with_reducible apply bbox) | ((with_reducible apply Below.setCell); (case hp => (first | exact Nat.le_refl _ | (simp; done) | (simp; omega) | (simp only; omega) | omega))) | (with_reducible apply Below.drew) | (with_reducible apply below_drewN))))).mono ?_
  rintro e w1 ⟨rfl, hB1⟩
  have hB := bgo (w := w) (by repeat (first | (with_reducible exact Below.refl _ _) | (with_reducible assumption) | (with_reducible apply bbox) | ((with_reducible apply Below.setCell); (case hp => (first | exact Nat.le_refl _ | (simp; done) | (simp; omega) | (simp only; omega) | omega))) | (with_reducible apply Below.drew) | (with_reducible apply below_drewN))) hB1
  replace k0 := k0.next hB1
  (replace qk0 := k0.cell; replace rk0 := k0.frozen; replace lk0 := k0.lt)
  clear hB1
  cases hp : (partOf s a).isSome
  · have E : Hid (holdsF s a = false) := by show _ = _; rw [HE.out, hp]; rfl
    clear hp
    go_wp2_with fail
    go_ret
    exact ⟨ret_bool E.out.symm, hB⟩
  · have h8 := Lib.hid (partOf_len hp)
    have E : Hid (holdsF s a = (((bitsOf ((partOf s a).getD []) : Nat) : Int) == (bitsOf (usedL s.heap 8) : Nat))) := by show _ = _; rw [HE.out, hp]; rfl
    clear hp HE
    go_wp2_with fail
    refine (c_impl_usedIn _ s _ (hV.out.below hB) h8.out).mono ?_
    rintro e w2 ⟨rfl, hB2⟩
    go_wp2_with fail
    go_ret
    exact ⟨ret_bool E.out.symm, bgo hB hB2⟩

--@ impl.UsedCells
theorem usedL_step (h : List Int) (k : Nat) : usedL h (k + 1) = usedL h k ++ if allocB h ((k + 1 : Nat) : Int) then [((k + 1 : Nat) : Int)] else [] := by
  unfold usedL
  rw [List.range'_1_concat, List.filter_append, List.map_append, Nat.add_comm 1 k]
  congr 1
  rw [List.filter_cons, List.filter_nil]
  cases allocB h ((k + 1 : Nat) : Int) <;> rfl
theorem usedL_le (h : List Int) (k : Nat) : (usedL h k).length ≤ k := by
  unfold usedL
  rw [List.length_map]
  exact Nat.le_trans (List.length_filter_le _ _) (by simp)
def usedF (s : Ste) : List Int := if s.valid then usedL s.heap 8 else []
set_option maxRecDepth 100000 in
set_option maxHeartbeats 1600000 in
theorem c_impl_UsedCells {lo hi : Nat} (v : Value) (s : Ste) (w : World) (h : StateV w lo hi v s) : Calls Try.prog 29 #[v] w fun e w' => ∃ r, e = .returned r ∧ IntsO w' w.heap.size r (usedF s) ∧ Below w.heap.size w w' := by
  have hV := Lib.hid h
  obtain ⟨A1, c1, A2, c2, rfl, -, -⟩ := h
  have HE : Hid (usedF s = if s.valid then usedL s.heap 8 else []) := rfl
  go_enter Try.func29, Try.ntmps29
  have k0 : Blk (w.alloc (.cells #[.slice A1 s.values.length c1, .slice A2 s.heap.length c2] tSt)) w.heap.size tSt #[.slice A1 s.values.length c1, .slice A2 s.heap.length c2] := (by repeat (first | (with_reducible assumption) | (with_reducible exact Blk.new _ _ _) | ((with_reducible apply Blk.far); (case hp => (first | exact Nat.le_refl _ | (simp; done) | (simp; omega) | (simp only; omega) | omega))) | (with_reducible apply Blk.set_) | ((with_reducible refine Blk.newE ?_); (simp; done)) | (with_reducible apply Blk.alloc) | (with_reducible apply Blk.drew) | (with_reducible apply Blk.drewN)))
  go_wp2_with fail
  refine (c_impl_StateValid _ s _ (hV.out.below (by repeat (first | (with_reducible exact Below.refl _ _) | (with_reducible assumption) | (with_reducible apply bbox) | ((with_reducible apply Below.setCell); (case hp => (first | exact Nat.le_refl _ | (simp; done) | (simp; omega) | (simp only; omega) | omega))) | (with_reducible apply Below.drew) | (with_reducible apply below_drewN))))).mono ?_
  rintro e w1 ⟨rfl, hB1⟩
  have hB := bgo (w := w) (by repeat (first | (with_reducible exact Below.refl _ _) | (with_reducible assumption) | (with_reducible apply bbox) | ((with_reducible apply Below.setCell); (case hp => (first | exact Nat.le_refl _ | (simp; done) | (simp; omega) | (simp only; omega) | omega))) | (with_reducible apply Below.drew) | (with_reducible apply below_drewN))) hB1
  replace k0 := k0.next hB1
  clear hB1
  cases hv : s.valid
  · have E : Hid (usedF s = []) := by show _ = _; rw [HE.out, hv]; rfl
    clear hv
    go_wp2_with fail
    go_ret
    exact ⟨_, rfl, by rw [E.out]; exact IntsO.nil _ _, hB⟩
  · have h8 := Lib.hid (Ste.valid_len hv).2
    have E : Hid (usedF s = usedL s.heap 8) := by show _ = _; rw [HE.out, hv]; rfl
    clear hv HE
    go_wp2_with fail
    go_loopw [3, 4] (fun u i wr => ∃ (k : Nat) (A : Option Addr) (c : Nat), k ≤ 8 ∧ i = .int .i64 ((k : Int) + 1) ∧ u = .slice A (usedL s.heap k).length c ∧ IntsO wr w.heap.size (.slice A (usedL s.heap k).length c) (usedL s.heap k) ∧ Blk wr w.heap.size tSt #[.slice A1 s.values.length c1, .slice A2 s.heap.length c2] ∧ Hid (Below w.heap.size w wr)) (fun _ i _ => 10 - (intOf i).toNat)
    case atStart => exact ⟨0, none, 0, by omega, rfl, rfl, IntsO.nil _ _, k0, hB⟩
    case round =>
      clear k0 hB
      obtain ⟨k, A, c, hk, rfl, rfl, hO, k0, HB⟩ := hrel
      have HO := Lib.hid hO
      have hsz := HB.out.size
      have HL := Lib.hid (usedL_le s.heap k)
      clear hO
      (replace qk0 := k0.cell; replace rk0 := k0.frozen; replace lk0 := k0.lt)
      by_cases hlt : k < 8
      · have hki : (k : Int) + 1 ≤ 8 := by omega
        go_wp2_with fail
        refine (c_impl_allocated _ s ((k : Int) + 1) _ (hV.out.below HB.out) h8.out).mono ?_
        rintro e w2 ⟨rfl, hB2⟩
        have hB3 : Hid (Below w.heap.size w w2) := bgo HB.out hB2
        have HO2 := Lib.hid (HO.out.below hB2)
        have hsz2 := hB3.out.size
        replace k0 := k0.next hB2
        have HS := Lib.hid (usedL_step s.heap k)
        clear hB2 qk0 rk0 lk0
        cases ha : allocB s.heap ((k : Int) + 1)
        · have E2 : Hid (usedL s.heap (k + 1) = usedL s.heap k) := by show _ = _; rw [HS.out, show ((k + 1 : Nat) : Int) = (k : Int) + 1 from by omega, ha]; simp
          clear ha
          go_wp2_with fail
          go_round
          case rel => exact ⟨k + 1, A, c, by omega, by go_num, by rw [E2.out], by rw [E2.out]; exact HO2.out, k0, hB3.out⟩
          case measure => simp [intOf]; omega
        · have E2 : Hid (usedL s.heap (k + 1) = usedL s.heap k ++ [(k : Int) + 1]) := by show _ = _; rw [HS.out, show ((k + 1 : Nat) : Int) = (k : Int) + 1 from by omega, ha]; simp
          clear ha
          go_wp2_with (at_builtin; refine appIL (ys := [(k : Int) + 1]) (base := w.heap.size) rfl _ _ rfl rfl (HO2.out.below (by repeat (first | (with_reducible exact Below.refl _ _) | (with_reducible assumption) | (with_reducible apply bbox) | ((with_reducible apply Below.setCell); (case hp => (first | exact Nat.le_refl _ | (simp; done) | (simp; omega) | (simp only; omega) | omega))) | (with_reducible apply Below.drew) | (with_reducible apply below_drewN)))) rfl (IntsV.lit (Blk.newE rfl) rfl (by simp)) (by have := HL.out; simp; omega) (by simp; omega) ?_; intro A4 d4 w4 o4 hg4 hB4; have ks4 := Blk.grownO (hg := hg4) (k0.alloc _) (HO2.out.below (bbox (Below.refl _ _) _)).1 (by decide); clear hg4)
          have hBB : Below w.heap.size w w4 := ((hB3.out.alloc hsz2 _).trans hB4)
          go_round
          case rel => exact ⟨k + 1, A4, d4, by omega, by go_num, by rw [E2.out]; simp, by rw [E2.out]; exact o4, ks4, hBB⟩
          case measure => simp [intOf]; omega
      · obtain rfl : k = 8 := by omega
        go_wp2_with fail
        go_ret
        exact ⟨_, rfl, by rw [E.out]; exact HO.out, HB.out⟩
end Go.Proofs.Ytdhllcejahdjfaa
