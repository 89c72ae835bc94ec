/- Contracts: the spec's cases: filled atoms, the open case. -/
import Derived.Test.YtdhllcejahdjfaaCaseS
import Derived.Test.YtdhllcejahdjfaaMModel
import Derived.Test.YtdhllcejahdjfaaMAlloc
import Derived.Deep.RegionHeld3
import Derived.Test.YtdhllcejahdjfaaIntSS
set_option linter.unusedSimpArgs false
set_option linter.unusedVariables false
namespace Go.Proofs.Ytdhllcejahdjfaa
open Go Go.RowKit Go.Proofs
attribute [local go_sem ↓] Go.wp_at_zero Go.wp_at_succ

--@ spec.l5Filled
set_option maxRecDepth 100000 in
set_option maxHeartbeats 3200000 in
theorem c_spec_l5Filled {lo hi lo' hi' : Nat} (A B : Option Addr) (c0 c1 : Nat) (xs : List Atm) (c : List Int) (w : World) (h : AtomsV w lo hi A xs) (h' : IntsV w lo' hi' B c) (hc : c.length = 9) (hx : AtomsOk xs) :
    Calls Try.prog 187 #[.slice A xs.length c0, .slice B c.length c1] w fun e w' => ∃ r, e = .returned r ∧ AtomsO w' w.heap.size r (filledL xs c) ∧ Below w.heap.size w w' := by
  have hl := h.le
  obtain ⟨pb, ob, rfl, lpb⟩ := h'.blt (k := 0) (by omega)
  have HC := Lib.hid hc
  have HX := Lib.hid hx
  have H' := Lib.hid h'
  clear hx h'
  rw [hc]
  clear hc
  go_enter Try.func187, Try.ntmps187
  go_wp2_with fail
  go_loopw [5, 6] (fun r i wr => ∃ (k : Nat) (D : Option Addr) (n e : Nat), k ≤ xs.length ∧ i = .int .i64 k ∧ n = (filledL (xs.take k) c).length ∧ r = .slice D n e ∧ AtomsO wr w.heap.size (.slice D n e) (filledL (xs.take k) c) ∧ Below w.heap.size w wr) (fun _ i _ => xs.length - (intOf i).toNat)
  case atStart => exact ⟨0, some ⟨w.heap.size, 0, none⟩, 0, 0, Nat.zero_le _, rfl, rfl, rfl, AtomsO.empty w, (by repeat (first | (with_reducible exact Below.refl _ _) | (with_reducible assumption) | (with_reducible apply bbox) | ((with_reducible apply Below.setCell); (case hp => (first | exact Nat.le_refl _ | (simp; done) | (simp; omega) | (simp only; omega) | omega))) | (with_reducible apply Below.drew) | (with_reducible apply below_drewN)))⟩
  case round =>
    obtain ⟨k, D, n, e, hkk, rfl, hn, rfl, of, hB⟩ := hrel
    have HN := Lib.hid hn
    have hnl : n ≤ k := by
      rw [hn]; exact Nat.le_trans (filledL_len _ _) (by simp; omega)
    clear hn
    by_cases hlt : k < xs.length
    · obtain ⟨b, off, rfl, hbl⟩ := h.blt hlt
      have HH := Lib.hid h
      have HT := Lib.hid (filledL_take xs c k hlt)
      have hxk := HX.out _ (List.getElem_mem hlt)
      obtain ⟨x, hxe⟩ : ∃ x, x = xs[k] := ⟨_, rfl⟩
      have HCL : Hid (∀ w' : World, Below w.heap.size w w' → w'.cell? ⟨b, off + k*3, none⟩ = some (.int .i64 x.kind) ∧ w'.cell? ⟨b, off + k*3 + 1, none⟩ = some (.int .i64 x.a) ∧ w'.cell? ⟨b, off + k*3 + 2, none⟩ = some (.int .i64 x.b)) := fun w' hw' => by rw [hxe]; exact (HH.out.below hw').cl hlt
      rw [← hxe] at HT hxk
      clear hxe
      obtain ⟨q, xa, xb⟩ := x
      dsimp only at hxk HCL
      obtain ⟨⟨a1, a2⟩, ⟨b1, b2⟩⟩ := hxk
      obtain ⟨xa, rfl⟩ := Int.eq_ofNat_of_zero_le a1
      obtain ⟨xb, rfl⟩ := Int.eq_ofNat_of_zero_le b1
      have ha9 : (xa : Int) < 9 := by omega
      have hb9 : (xb : Int) < 9 := by omega
      have HCI : Hid (∀ w' : World, Below w.heap.size w w' → w'.cell? ⟨pb, ob + xa, none⟩ = some (.int .i64 (cl c xa)) ∧ w'.cell? ⟨pb, ob + xb, none⟩ = some (.int .i64 (cl c xb))) := fun w' hw' => ⟨ints_cl (H'.out.below hw') (by rw [HC.out]; omega), ints_cl (H'.out.below hw') (by rw [HC.out]; omega)⟩
      have hwz := hB.size
      have hlx : (k : Int) < (xs.length : Int) := by omega
      clear a1 a2 b1 b2 h
      have HS : Hid (∀ w' : World, Below w.heap.size w w' → (w'.cell? ⟨b, off + k*3, none⟩ = some (.int .i64 q) ∧ w'.cell? ⟨b, off + k*3 + 1, none⟩ = some (.int .i64 xa) ∧ w'.cell? ⟨b, off + k*3 + 2, none⟩ = some (.int .i64 xb)) ∧ w'.cell? ⟨pb, ob + xa, none⟩ = some (.int .i64 (cl c xa)) ∧ w'.cell? ⟨pb, ob + xb, none⟩ = some (.int .i64 (cl c xb))) := fun w' hw' => ⟨HCL.out w' hw', HCI.out w' hw'⟩
      go_wp2_with fail
      refine wp_region_noPanic ?_
      refine wp_region_held_drew (S := (fun w' => (w'.cell? ⟨b, off + k*3, none⟩ = some (.int .i64 q) ∧ w'.cell? ⟨b, off + k*3 + 1, none⟩ = some (.int .i64 xa) ∧ w'.cell? ⟨b, off + k*3 + 2, none⟩ = some (.int .i64 xb)) ∧ w'.cell? ⟨pb, ob + xa, none⟩ = some (.int .i64 (cl c xa)) ∧ w'.cell? ⟨pb, ob + xb, none⟩ = some (.int .i64 (cl c xb)))) (by kernel_rfl) (HS.out _ (by repeat (first | (with_reducible exact Below.refl _ _) | (with_reducible assumption) | (with_reducible apply bbox) | ((with_reducible apply Below.setCell); (case hp => (first | exact Nat.le_refl _ | (simp; done) | (simp; omega) | (simp only; omega) | omega))) | (with_reducible apply Below.drew) | (with_reducible apply below_drewN)))) (fun hHeld => ?_)
      refine wpAnyH_take (i := 0) (v := ?_) rfl (by kernel_rfl) (by kernel_rfl) (by kernel_rfl) (fun _ _ _ h => h) (Or.inl ⟨by rfl, fun w hSw => ?_⟩) hHeld ?_
      rotate_left
      · ((try dsimp only at hSw); go_split_ands; go_simp; (try with_reducible rfl))
      try simp only [Act.put, List.getElem_toArray, List.getElem_cons_zero, List.getElem_cons_succ, List.setIfInBounds_toArray, List.set_cons_zero, List.set_cons_succ]
      refine wpAnyH_take (i := 1) (v := ?_) rfl (by kernel_rfl) (by kernel_rfl) (by kernel_rfl) (fun _ _ _ h => h) (Or.inl ⟨by rfl, fun w hSw => ?_⟩) hHeld ?_
      rotate_left
      · ((try dsimp only at hSw); go_split_ands; go_simp; (try with_reducible rfl))
      try simp only [Act.put, List.getElem_toArray, List.getElem_cons_zero, List.getElem_cons_succ, List.setIfInBounds_toArray, List.set_cons_zero, List.set_cons_succ]
      refine wpAnyH_take (i := 2) (v := ?_) rfl (by kernel_rfl) (by kernel_rfl) (by kernel_rfl) (fun _ _ _ h => h) (Or.inl ⟨by rfl, fun w hSw => ?_⟩) hHeld ?_
      rotate_left
      · ((try dsimp only at hSw); go_split_ands; go_simp; (try with_reducible rfl))
      try simp only [Act.put, List.getElem_toArray, List.getElem_cons_zero, List.getElem_cons_succ, List.setIfInBounds_toArray, List.set_cons_zero, List.set_cons_succ]
      refine wpAnyH_take (i := 3) (v := ?_) rfl (by kernel_rfl) (by kernel_rfl) (by kernel_rfl) (fun _ _ _ h => h) (Or.inl ⟨by rfl, fun w hSw => ?_⟩) hHeld ?_
      rotate_left
      · ((try dsimp only at hSw); go_split_ands; go_simp; (try with_reducible rfl))
      try simp only [Act.put, List.getElem_toArray, List.getElem_cons_zero, List.getElem_cons_succ, List.setIfInBounds_toArray, List.set_cons_zero, List.set_cons_succ]
      refine wpAnyH_take (i := 4) (v := ?_) rfl (by kernel_rfl) (by kernel_rfl) (by kernel_rfl) (fun _ _ _ h => h) (Or.inl ⟨by rfl, fun w hSw => ?_⟩) hHeld ?_
      rotate_left
      · ((try dsimp only at hSw); go_split_ands; go_simp; (try with_reducible rfl))
      try simp only [Act.put, List.getElem_toArray, List.getElem_cons_zero, List.getElem_cons_succ, List.setIfInBounds_toArray, List.set_cons_zero, List.set_cons_succ]
      refine wpAnyH_take (i := 5) (v := ?_) rfl (by kernel_rfl) (by kernel_rfl) (by kernel_rfl) (fun _ _ _ h => h) (Or.inl ⟨by rfl, fun w hSw => ?_⟩) hHeld ?_
      rotate_left
      · ((try dsimp only at hSw); go_split_ands; go_simp; (try with_reducible rfl))
      try simp only [Act.put, List.getElem_toArray, List.getElem_cons_zero, List.getElem_cons_succ, List.setIfInBounds_toArray, List.set_cons_zero, List.set_cons_succ]
      refine wpAnyH_take (i := 6) (v := ?_) rfl (by kernel_rfl) (by kernel_rfl) (by kernel_rfl) (fun _ _ _ h => h) (Or.inl ⟨by rfl, fun w hSw => ?_⟩) hHeld ?_
      rotate_left
      · ((try dsimp only at hSw); go_split_ands; go_simp; (try with_reducible rfl))
      try simp only [Act.put, List.getElem_toArray, List.getElem_cons_zero, List.getElem_cons_succ, List.setIfInBounds_toArray, List.set_cons_zero, List.set_cons_succ]
      refine wpAnyH_take (i := 7) (v := ?_) rfl (by kernel_rfl) (by kernel_rfl) (by kernel_rfl) (fun _ _ _ h => h) (Or.inl ⟨by rfl, fun w hSw => ?_⟩) hHeld ?_
      rotate_left
      · ((try dsimp only at hSw); go_split_ands; go_simp; (try with_reducible rfl))
      try simp only [Act.put, List.getElem_toArray, List.getElem_cons_zero, List.getElem_cons_succ, List.setIfInBounds_toArray, List.set_cons_zero, List.set_cons_succ]
      refine wpAnyH_take (i := 8) (v := ?_) rfl (by kernel_rfl) (by kernel_rfl) (by kernel_rfl) (fun _ _ _ h => h) (Or.inl ⟨by rfl, fun w hSw => ?_⟩) hHeld ?_
      rotate_left
      · ((try dsimp only at hSw); go_split_ands; go_simp; (try with_reducible rfl))
      try simp only [Act.put, List.getElem_toArray, List.getElem_cons_zero, List.getElem_cons_succ, List.setIfInBounds_toArray, List.set_cons_zero, List.set_cons_succ]
      refine wpAnyH_take (i := 9) (v := ?_) rfl (by kernel_rfl) (by kernel_rfl) (by kernel_rfl) (fun _ _ _ h => h) (Or.inl ⟨by rfl, fun w hSw => ?_⟩) hHeld ?_
      rotate_left
      · ((try dsimp only at hSw); go_split_ands; go_simp; (try with_reducible rfl))
      try simp only [Act.put, List.getElem_toArray, List.getElem_cons_zero, List.getElem_cons_succ, List.setIfInBounds_toArray, List.set_cons_zero, List.set_cons_succ]
      refine wpAnyH_take (i := 10) (v := ?_) rfl (by kernel_rfl) (by kernel_rfl) (by kernel_rfl) (fun _ _ _ h => h) (Or.inl ⟨by rfl, fun w hSw => ?_⟩) hHeld ?_
      rotate_left
      · ((try dsimp only at hSw); go_split_ands; go_simp; (try with_reducible rfl))
      try simp only [Act.put, List.getElem_toArray, List.getElem_cons_zero, List.getElem_cons_succ, List.setIfInBounds_toArray, List.set_cons_zero, List.set_cons_succ]
      refine wpAnyH_take (i := 11) (v := ?_) rfl (by kernel_rfl) (by kernel_rfl) (by kernel_rfl) (fun _ _ _ h => h) (Or.inl ⟨by rfl, fun w hSw => ?_⟩) hHeld ?_
      rotate_left
      · ((try dsimp only at hSw); go_split_ands; go_simp; (try with_reducible rfl))
      try simp only [Act.put, List.getElem_toArray, List.getElem_cons_zero, List.getElem_cons_succ, List.setIfInBounds_toArray, List.set_cons_zero, List.set_cons_succ]
      refine wpAnyH_take (i := 12) (v := ?_) rfl (by kernel_rfl) (by kernel_rfl) (by kernel_rfl) (fun _ _ _ h => h) (Or.inl ⟨by rfl, fun w hSw => ?_⟩) hHeld ?_
      rotate_left
      · ((try dsimp only at hSw); go_split_ands; go_simp; (try with_reducible rfl))
      try simp only [Act.put, List.getElem_toArray, List.getElem_cons_zero, List.getElem_cons_succ, List.setIfInBounds_toArray, List.set_cons_zero, List.set_cons_succ]
      refine wpAnyH_take (i := 13) (v := ?_) rfl (by kernel_rfl) (by kernel_rfl) (by kernel_rfl) (fun _ _ _ h => h) (Or.inl ⟨by rfl, fun w hSw => ?_⟩) hHeld ?_
      rotate_left
      · ((try dsimp only at hSw); go_split_ands; go_simp; (try with_reducible rfl))
      try simp only [Act.put, List.getElem_toArray, List.getElem_cons_zero, List.getElem_cons_succ, List.setIfInBounds_toArray, List.set_cons_zero, List.set_cons_succ]
      refine wpAnyH_take (i := 14) (v := ?_) rfl (by kernel_rfl) (by kernel_rfl) (by kernel_rfl) (fun _ _ _ h => h) (Or.inl ⟨by rfl, fun w hSw => ?_⟩) hHeld ?_
      rotate_left
      · ((try dsimp only at hSw); go_split_ands; go_simp; (try with_reducible rfl))
      try simp only [Act.put, List.getElem_toArray, List.getElem_cons_zero, List.getElem_cons_succ, List.setIfInBounds_toArray, List.set_cons_zero, List.set_cons_succ]
      refine wpAnyH_take (i := 15) (v := ?_) rfl (by kernel_rfl) (by kernel_rfl) (by kernel_rfl) (fun _ _ _ h => h) (Or.inl ⟨by rfl, fun w hSw => ?_⟩) hHeld ?_
      rotate_left
      · ((try dsimp only at hSw); go_split_ands; go_simp; (try with_reducible rfl))
      try simp only [Act.put, List.getElem_toArray, List.getElem_cons_zero, List.getElem_cons_succ, List.setIfInBounds_toArray, List.set_cons_zero, List.set_cons_succ]
      refine wpAnyH_take (i := 16) (v := ?_) rfl (by kernel_rfl) (by kernel_rfl) (by kernel_rfl) (fun _ _ _ h => h) (Or.inl ⟨by rfl, fun w hSw => ?_⟩) hHeld ?_
      rotate_left
      · ((try dsimp only at hSw); go_split_ands; go_simp; (try with_reducible rfl))
      try simp only [Act.put, List.getElem_toArray, List.getElem_cons_zero, List.getElem_cons_succ, List.setIfInBounds_toArray, List.set_cons_zero, List.set_cons_succ]
      refine wpAnyH_take (i := 17) (v := ?_) rfl (by kernel_rfl) (by kernel_rfl) (by kernel_rfl) (fun _ _ _ h => h) (Or.inl ⟨by rfl, fun w hSw => ?_⟩) hHeld ?_
      rotate_left
      · ((try dsimp only at hSw); go_split_ands; go_simp; (try with_reducible rfl))
      try simp only [Act.put, List.getElem_toArray, List.getElem_cons_zero, List.getElem_cons_succ, List.setIfInBounds_toArray, List.set_cons_zero, List.set_cons_succ]
      refine wpAnyH_take (i := 18) (v := ?_) rfl (by kernel_rfl) (by kernel_rfl) (by kernel_rfl) (fun _ _ _ h => h) (Or.inl ⟨by rfl, fun w hSw => ?_⟩) hHeld ?_
      rotate_left
      · ((try dsimp only at hSw); go_split_ands; go_simp; (try with_reducible rfl))
      try simp only [Act.put, List.getElem_toArray, List.getElem_cons_zero, List.getElem_cons_succ, List.setIfInBounds_toArray, List.set_cons_zero, List.set_cons_succ]
      refine wpAnyH_take (i := 19) (v := ?_) rfl (by kernel_rfl) (by kernel_rfl) (by kernel_rfl) (fun _ _ _ h => h) (Or.inl ⟨by rfl, fun w hSw => ?_⟩) hHeld ?_
      rotate_left
      · ((try dsimp only at hSw); go_split_ands; go_simp; (try with_reducible rfl))
      try simp only [Act.put, List.getElem_toArray, List.getElem_cons_zero, List.getElem_cons_succ, List.setIfInBounds_toArray, List.set_cons_zero, List.set_cons_succ]
      refine wpAnyH_take (i := 20) (v := ?_) rfl (by kernel_rfl) (by kernel_rfl) (by kernel_rfl) (fun _ _ _ h => h) (Or.inl ⟨by rfl, fun w hSw => ?_⟩) hHeld ?_
      rotate_left
      · ((try dsimp only at hSw); go_split_ands; go_simp; (try with_reducible rfl))
      try simp only [Act.put, List.getElem_toArray, List.getElem_cons_zero, List.getElem_cons_succ, List.setIfInBounds_toArray, List.set_cons_zero, List.set_cons_succ]
      refine wpAnyH_take (i := 21) (v := ?_) rfl (by kernel_rfl) (by kernel_rfl) (by kernel_rfl) (fun _ _ _ h => h) (Or.inl ⟨by rfl, fun w hSw => ?_⟩) hHeld ?_
      rotate_left
      · ((try dsimp only at hSw); go_split_ands; go_simp; (try with_reducible rfl))
      try simp only [Act.put, List.getElem_toArray, List.getElem_cons_zero, List.getElem_cons_succ, List.setIfInBounds_toArray, List.set_cons_zero, List.set_cons_succ]
      refine wpAnyH_ready (rs := [22]) (by kernel_rfl) (by simp) ?_
      refine AllReadyH.cons rfl (fun K hK => ?_) AllReadyH.nil
      try simp only [List.getElem_toArray, List.getElem_cons_zero, List.getElem_cons_succ]
      go_simp
      refine hK.out _ _ (HS.out _ (by repeat (first | (with_reducible exact Below.refl _ _) | (with_reducible assumption) | (with_reducible apply bbox) | ((with_reducible apply Below.setCell); (case hp => (first | exact Nat.le_refl _ | (simp; done) | (simp; omega) | (simp only; omega) | omega))) | (with_reducible apply Below.drew) | (with_reducible apply below_drewN)))) (fun hHeldN => ?_)
      clear hHeld hK K
      have hHeld := hHeldN
      clear hHeldN
      try simp only [Act.put, List.getElem_toArray, List.getElem_cons_zero, List.getElem_cons_succ, List.setIfInBounds_toArray, List.set_cons_zero, List.set_cons_succ]
      refine wpAnyH_ready (rs := [23]) (by kernel_rfl) (by simp) ?_
      refine AllReadyH.cons rfl (fun K hK => ?_) AllReadyH.nil
      try simp only [List.getElem_toArray, List.getElem_cons_zero, List.getElem_cons_succ]
      go_simp
      refine hK.out _ _ (HS.out _ (by repeat (first | (with_reducible exact Below.refl _ _) | (with_reducible assumption) | (with_reducible apply bbox) | ((with_reducible apply Below.setCell); (case hp => (first | exact Nat.le_refl _ | (simp; done) | (simp; omega) | (simp only; omega) | omega))) | (with_reducible apply Below.drew) | (with_reducible apply below_drewN)))) (fun hHeldN => ?_)
      clear hHeld hK K
      have hHeld := hHeldN
      clear hHeldN
      try simp only [Act.put, List.getElem_toArray, List.getElem_cons_zero, List.getElem_cons_succ, List.setIfInBounds_toArray, List.set_cons_zero, List.set_cons_succ]
      refine wpAnyH_done (by kernel_rfl) ?_ _
      refine NoPanic.normal ?_
      clear hHeld
      have kx : Blk (wr.alloc (.cells #[.int .i64 q, .int .i64 (cl c xa), .int .i64 (cl c xb)] tA)).drew wr.heap.size tA #[.int .i64 q, .int .i64 (cl c xa), .int .i64 (cl c xb)] := (by repeat (first | (with_reducible assumption) | (with_reducible exact Blk.new _ _ _) | ((with_reducible apply Blk.far); (case hp => (first | exact Nat.le_refl _ | (simp; done) | (simp; omega) | (simp only; omega) | omega))) | (with_reducible apply Blk.set_) | ((with_reducible refine Blk.newE ?_); (simp; done)) | (with_reducible apply Blk.alloc) | (with_reducible apply Blk.drew) | (with_reducible apply Blk.drewN)))
      have hB2 : Below w.heap.size w (wr.alloc (.cells #[.int .i64 q, .int .i64 (cl c xa), .int .i64 (cl c xb)] tA)).drew := (by repeat (first | (with_reducible exact Below.refl _ _) | (with_reducible assumption) | (with_reducible apply bbox) | ((with_reducible apply Below.setCell); (case hp => (first | exact Nat.le_refl _ | (simp; done) | (simp; omega) | (simp only; omega) | omega))) | (with_reducible apply Below.drew) | (with_reducible apply below_drewN)))
      have of2 := of.below (w' := (wr.alloc (.cells #[.int .i64 q, .int .i64 (cl c xa), .int .i64 (cl c xb)] tA)).drew) (by repeat (first | (with_reducible exact Below.refl _ _) | (with_reducible assumption) | (with_reducible apply bbox) | ((with_reducible apply Below.setCell); (case hp => (first | exact Nat.le_refl _ | (simp; done) | (simp; omega) | (simp only; omega) | omega))) | (with_reducible apply Below.drew) | (with_reducible apply below_drewN)))
      have hz2 : wr.heap.size < (wr.alloc (.cells #[.int .i64 q, .int .i64 (cl c xa), .int .i64 (cl c xb)] tA)).drew.heap.size := kx.lt
      generalize (wr.alloc (.cells #[.int .i64 q, .int .i64 (cl c xa), .int .i64 (cl c xb)] tA)).drew = W2 at kx hB2 of2 hz2 ⊢
      have HF : Hid (∀ s t : Bool, (q == 1) = s → (cl c xa == cl c xb) = t → filledL (xs.take (k + 1)) c = filledL (xs.take k) c ++ if (s || !t) then [⟨q, cl c xa, cl c xb⟩] else []) := by
        intro s t hs ht
        rw [HT.out]
        have : Atm.fill c ⟨q, xa, xb⟩ = (s || !t) := by rw [← hs, ← ht]; rfl
        rw [this]; rfl
      have qx := kx.cell
      obtain ⟨u, hu⟩ : ∃ u, u = cl c xa := ⟨_, rfl⟩
      obtain ⟨v, hv⟩ : ∃ v, v = cl c xb := ⟨_, rfl⟩
      rw [← hu, ← hv] at kx qx HF ⊢
      clear hu hv HT HS HCI HCL of hB
      cases hq : (q == 1)
      · cases hab : (u == v)
        · have HZ : Hid (filledL (xs.take (k + 1)) c = filledL (xs.take k) c ++ [⟨q, u, v⟩]) := HF.out _ _ hq hab
          go_wp2_with (at_builtin; refine appAL rfl _ _ rfl (v := .slice D n e) rfl (of2.below (w' := W2.alloc (.cells #[.int .i64 q, .int .i64 u, .int .i64 v] tA)) (by repeat (first | (with_reducible exact Below.refl _ _) | (with_reducible assumption) | (with_reducible apply bbox) | ((with_reducible apply Below.setCell); (case hp => (first | exact Nat.le_refl _ | (simp; done) | (simp; omega) | (simp only; omega) | omega))) | (with_reducible apply Below.drew) | (with_reducible apply below_drewN)))) rfl (AtomsV.one' (Blk.newE rfl)) (by simp only [List.length_cons, List.length_nil]; rw [← HN.out]; omega) (by simp; omega) ?_; intro A' c' w2 of3 hg2 hB3)
          go_round
          case rel => exact ⟨k + 1, A', _, c', by omega, by go_num, rfl, by rw [HZ.out]; simp, by rw [HZ.out]; exact of3, Below.trans (bbox hB2 _) (hB3.mono (Nat.le_refl _))⟩
          case measure => simp [intOf]; omega
        · have HZ : Hid (filledL (xs.take (k + 1)) c = filledL (xs.take k) c ++ []) := HF.out _ _ hq hab
          go_wp2_with fail
          go_round
          case rel => exact ⟨k + 1, D, n, e, by omega, by go_num, by rw [HZ.out, List.append_nil]; exact HN.out, rfl, by rw [HZ.out, List.append_nil]; exact of2, hB2⟩
          case measure => simp [intOf]; omega
      · have HZ : Hid (filledL (xs.take (k + 1)) c = filledL (xs.take k) c ++ [⟨q, u, v⟩]) := HF.out _ _ hq rfl
        go_wp2_with (at_builtin; refine appAL rfl _ _ rfl (v := .slice D n e) rfl (of2.below (w' := W2.alloc (.cells #[.int .i64 q, .int .i64 u, .int .i64 v] tA)) (by repeat (first | (with_reducible exact Below.refl _ _) | (with_reducible assumption) | (with_reducible apply bbox) | ((with_reducible apply Below.setCell); (case hp => (first | exact Nat.le_refl _ | (simp; done) | (simp; omega) | (simp only; omega) | omega))) | (with_reducible apply Below.drew) | (with_reducible apply below_drewN)))) rfl (AtomsV.one' (Blk.newE rfl)) (by simp only [List.length_cons, List.length_nil]; rw [← HN.out]; omega) (by simp; omega) ?_; intro A' c' w2 of3 hg2 hB3)
        go_round
        case rel => exact ⟨k + 1, A', _, c', by omega, by go_num, rfl, by rw [HZ.out]; simp, by rw [HZ.out]; exact of3, Below.trans (bbox hB2 _) (hB3.mono (Nat.le_refl _))⟩
        case measure => simp [intOf]; omega
    · obtain rfl : k = xs.length := by omega
      go_wp2_with fail
      go_ret
      refine ⟨_, rfl, ?_, hB⟩
      rw [List.take_length] at of
      exact of

--@ spec.l5Open
theorem opened_take (n : Nat) (h1 : 1 ≤ n) (h9 : n < 9) : opened.take (n + 1) = opened.take n ++ [-1] := by
  obtain rfl | rfl | rfl | rfl | rfl | rfl | rfl | rfl : n = 1 ∨ n = 2 ∨ n = 3 ∨ n = 4 ∨ n = 5 ∨ n = 6 ∨ n = 7 ∨ n = 8 := by omega
  all_goals rfl
set_option maxHeartbeats 1600000 in
theorem c_spec_l5Open (w : World) :
    Calls Try.prog 133 #[] w fun e w' => ∃ r, e = .returned r ∧ IntsO w' w.heap.size r opened ∧ Below w.heap.size w w' := by
  go_enter Try.func133, Try.ntmps133
  go_wp2_with fail
  go_loopw [1] (fun r wr => ∃ (n : Nat) (D : Option Addr) (e : Nat), 1 ≤ n ∧ n ≤ 9 ∧ r = .slice D n e ∧ IntsO wr w.heap.size (.slice D n e) (opened.take n) ∧ Below w.heap.size w wr) (fun r _ => match r with | .slice _ n _ => 9 - n | _ => 0)
  case atStart => exact ⟨1, some ⟨w.heap.size, 0, none⟩, 1, by omega, by omega, rfl, IntsO.one w 0 (Nat.le_refl _), (by repeat (first | (with_reducible exact Below.refl _ _) | (with_reducible assumption) | (with_reducible apply bbox) | ((with_reducible apply Below.setCell); (case hp => (first | exact Nat.le_refl _ | (simp; done) | (simp; omega) | (simp only; omega) | omega))) | (with_reducible apply Below.drew) | (with_reducible apply below_drewN)))⟩
  case round =>
    obtain ⟨n, D, e, h1, h9, rfl, o, hB⟩ := hrel
    have hwz := hB.size
    by_cases hlt : n < 9
    · have hn8 : (n : Int) ≤ 8 := by omega
      have HT := Lib.hid (opened_take n h1 hlt)
      have hll : Hid ((opened.take n).length = n) := by show _ = _; rw [List.length_take]; show min n 9 = n; omega
      have o1 := o.below (w' := wr.alloc (.cells #[.int .i64 (-1)] tI)) (by repeat (first | (with_reducible exact Below.refl _ _) | (with_reducible assumption) | (with_reducible apply bbox) | ((with_reducible apply Below.setCell); (case hp => (first | exact Nat.le_refl _ | (simp; done) | (simp; omega) | (simp only; omega) | omega))) | (with_reducible apply Below.drew) | (with_reducible apply below_drewN)))
      go_wp2_with (at_builtin; refine appI rfl _ _ rfl (v := .slice D n e) rfl o1 wr.heap.size (-1) rfl (cell_box _ _ _) (by rw [hll.out]; omega) (by simp; omega) ?_; intro g cc w2 o2 hg2 hB3; rw [hll.out, ← HT.out] at o2; rw [hll.out])
      go_round
      case rel => exact ⟨n + 1, _, _, by omega, by omega, rfl, o2, Below.trans (by repeat (first | (with_reducible exact Below.refl _ _) | (with_reducible assumption) | (with_reducible apply bbox) | ((with_reducible apply Below.setCell); (case hp => (first | exact Nat.le_refl _ | (simp; done) | (simp; omega) | (simp only; omega) | omega))) | (with_reducible apply Below.drew) | (with_reducible apply below_drewN))) hB3⟩
      case measure => simp; omega
    · obtain rfl : n = 9 := by omega
      go_wp2_with fail
      go_ret
      exact ⟨_, rfl, o, hB⟩
end Go.Proofs.Ytdhllcejahdjfaa

/- Contracts: the spec's first case. -/
namespace Go.Proofs.Ytdhllcejahdjfaa
open Go Go.RowKit Go.Proofs
attribute [local go_sem ↓] Go.wp_at_zero Go.wp_at_succ

theorem IntsO.open_ {w : World} {base : Nat} {A : Option Addr} {n c k : Nat} {fs : List Int} (h : IntsO w base (.slice A n c) fs) (hk : k < fs.length) : ∃ g cur, n = fs.length ∧ A = some ⟨g, 0, none⟩ ∧ base ≤ g ∧ Blk w g tI cur ∧ cur[k]? = some (.int .i64 fs[k]) ∧
    (∀ v : Int, IntsO (w.setCell ⟨g, k, none⟩ (.int .i64 v)) base (.slice A n c) (fs.set k v)) := by
  obtain ⟨⟨hl, h2⟩, hL⟩ := h
  rcases h2 with ⟨e, hn⟩ | ⟨g, cap, cur, e, hb, hh, hn, hm, hs, ht⟩
  · omega
  · injection e with e1 e2 e3
    subst e1 e2 e3
    have hK : Blk w g tI cur := hh
    have hP : Pre cur (encI fs) (fs.length * 1) := by
      intro j hj
      rw [← ht, List.getElem?_take, if_pos hj]; simp
    refine ⟨g, cur, rfl, rfl, hb, hK, (hP _ (by omega)).trans (by simp [List.getElem?_eq_getElem hk]), ?_⟩
    intro v
    refine ⟨?_, by rw [List.length_set]; exact hL⟩
    rw [show encI (fs.set k v) = (encI fs).set k (.int .i64 v) from by simp [encI, List.map_set], List.length_set]
    exact own_of_blk (hK.set_ k (.int .i64 v)) hb (by rw [List.length_set, hl]) (hP.setL k (.int .i64 v) (by rw [hs]; exact Nat.mul_le_mul hn (Nat.le_refl _)) (by rw [hl]; exact Nat.le_refl _)) hn hm (by simpa using hs)

/-- what comes behind one choice -/
def seekAt (a : Asn) (S n : Nat) (c : List Int) (k : Nat) : List (List Int) := if k < 8 - n ∧ cl c k ≠ k then [] else seek a S n (c.set (8 - n) k)
theorem seek_cut {a : Asn} {S : Nat} (n : Nat) {c : List Int} (h : (fitsS c a.facts && earlyF c [] a.atoms) = false) : seek a S n c = [] := by
  cases n <;> (unfold seek; rw [h]; rfl)
theorem seek_leaf {a : Asn} {S : Nat} {c : List Int} (h : (fitsS c a.facts && earlyF c [] a.atoms) = true) : seek a S 0 c = if apartF [] (filledL a.atoms c) then [c] else [] := by
  unfold seek; rw [h, if_pos rfl]
theorem seek_step {a : Asn} {S n : Nat} {c : List Int} (h : (fitsS c a.facts && earlyF c [] a.atoms) = true) : seek a S (n + 1) c = if S.testBit (8 - n) then (List.range (9 - n)).flatMap (seekAt a S n c) else seek a S n c := by
  conv => lhs; unfold seek
  rw [h, if_pos rfl]; rfl
theorem flatMap_first {α : Type} {f : Nat → List α} {k N : Nat} (hk : k < N) (h : (List.range k).flatMap f = []) (hne : f k ≠ []) : ∃ y, (f k).head? = some y ∧ ((List.range N).flatMap f).head? = some y := by
  obtain ⟨m, rfl⟩ : ∃ m, N = k + (m + 1) := ⟨N - k - 1, by omega⟩
  rw [List.range_add, List.range_succ_eq_map, List.map_cons, List.flatMap_append, List.flatMap_cons, Nat.add_zero, h, List.nil_append]
  cases e : f k with
  | nil => exact absurd e hne
  | cons y ys => exact ⟨y, rfl, rfl⟩
/-- the first of a list, as the program gives it -/
def firstI (L : List (List Int)) : List Int := L.head?.getD []

--@ spec.l5Fits
theorem c_fits9 {lo hi lo' hi' : Nat} (A B : Option Addr) (c0 c1 : Nat) (fs : List Fct) (c : List Int) (w : World) (h : FactsV w lo hi A fs) (h' : IntsV w lo' hi' B c) (hc : c.length = 9) (hf : FactsOk fs) :
    Calls Try.prog 184 #[.slice A fs.length c0, .slice B 9 c1] w fun e w' => e = .returned (.bool (fitsS c fs)) ∧ w = w' := by
  have := c_spec_l5Fits A B c0 c1 fs c w h h' hc hf; rwa [hc] at this
theorem c_early9 {lo hi lo' hi' : Nat} (A B : Option Addr) (c0 c1 : Nat) (xs : List Atm) (c : List Int) (w : World) (h : AtomsV w lo hi A xs) (h' : IntsV w lo' hi' B c) (hc : c.length = 9) (hx : AtomsOk xs) (hcl : ∀ x ∈ xs, cl c x.a ≤ 8) :
    Calls Try.prog 185 #[.slice A xs.length c0, .slice B 9 c1] w fun e w' => e = .returned (.bool (earlyF c [] xs)) ∧ Below w.heap.size w w' := by
  have := c_spec_l5Early A B c0 c1 xs c w h h' hc hx hcl; rwa [hc] at this
theorem c_filled9 {lo hi lo' hi' : Nat} (A B : Option Addr) (c0 c1 : Nat) (xs : List Atm) (c : List Int) (w : World) (h : AtomsV w lo hi A xs) (h' : IntsV w lo' hi' B c) (hc : c.length = 9) (hx : AtomsOk xs) :
    Calls Try.prog 187 #[.slice A xs.length c0, .slice B 9 c1] w fun e w' => ∃ r, e = .returned r ∧ AtomsO w' w.heap.size r (filledL xs c) ∧ Below w.heap.size w w' := by
  have := c_spec_l5Filled A B c0 c1 xs c w h h' hc hx; rwa [hc] at this
--@ spec.l5First
set_option maxRecDepth 100000 in
set_option maxHeartbeats 6400000 in
theorem c_spec_l5First {a : Asn} {S lo hi lo2 hi2 : Nat} {A1 A2 : Option Addr} {d1 d2 : Nat} (T : Option Addr) (tc : Nat) (hv : a.valid = true) :
    ∀ (n : Nat) (c : List Int) (B : Option Addr) (cc lo' hi' : Nat) (w : World), n ≤ 8 → c.length = 9 → (∀ j : Nat, j < 9 - n → S.testBit j = true → 0 ≤ cl c j ∧ cl c j ≤ j) → (∀ j : Nat, j < 9 → cl c j ≤ 8) →
      AsnV w lo hi (.agg #[.slice A1 a.facts.length d1, .slice A2 a.atoms.length d2]) a → BoolsV w lo2 hi2 T (flagsOf S) → IntsV w lo' hi' B c →
      Calls Try.prog 132 #[.agg #[.slice A1 a.facts.length d1, .slice A2 a.atoms.length d2], .slice T 9 tc, .slice B 9 cc, .int .i64 ((9 - n : Nat) : Int)] w fun e w' =>
        ∃ r, e = .returned (.tuple #[r, .bool (!(seek a S n c).isEmpty)]) ∧ IntsO w' w.heap.size r (firstI (seek a S n c)) ∧ Below w.heap.size w w' := by
  intro n
  induction n with
  | zero =>
    intro c B cc lo' hi' w hn hc _ hc8 hA hT hI
    have HO := Lib.hid (Asn.valid_ok hv)
    have hV := Lib.hid hA
    have HC := Lib.hid hc
    have HI := Lib.hid hI
    have HCL : Hid (∀ x ∈ a.atoms, cl c x.a ≤ 8) := fun x hx => by
      have := (HO.out.2 x hx).1
      obtain ⟨t, et⟩ := Int.eq_ofNat_of_zero_le this.1
      rw [et]; exact hc8 t (by omega)
    obtain ⟨B1, e1, B2, e2, he, h1, h2⟩ := hA
    injection he with he; injection he with he; injection he with he1 he2; injection he2 with he2 he3
    injection he1 with he1 _ he4; injection he2 with he2 _ he5
    subst he1 he4 he2 he5
    have H1 := Lib.hid h1
    have H2 := Lib.hid h2
    have hvl := valid_len hv
    clear h1 h2 hc hc8 hT hI he3
    go_enter Try.func132, Try.ntmps132
    go_wp2_with fail
    refine (c_fits9 A1 B d1 cc a.facts c _ (H1.out.below (by repeat (first | (with_reducible exact Below.refl _ _) | (with_reducible assumption) | (with_reducible apply bbox) | ((with_reducible apply Below.setCell); (case hp => (first | exact Nat.le_refl _ | (simp; done) | (simp; omega) | (simp only; omega) | omega))) | (with_reducible apply Below.drew) | (with_reducible apply below_drewN)))) (HI.out.below (by repeat (first | (with_reducible exact Below.refl _ _) | (with_reducible assumption) | (with_reducible apply bbox) | ((with_reducible apply Below.setCell); (case hp => (first | exact Nat.le_refl _ | (simp; done) | (simp; omega) | (simp only; omega) | omega))) | (with_reducible apply Below.drew) | (with_reducible apply below_drewN)))) HC.out HO.out.1).mono ?_
    rintro e w1 ⟨rfl, rfl⟩
    cases hf : fitsS c a.facts
    · have E := Lib.hid (seek_cut (a := a) (S := S) 0 (c := c) (by rw [hf]; rfl))
      clear hf
      go_wp2_with fail
      go_ret2
      exact ⟨_, by rw [E.out]; rfl, by rw [E.out]; exact IntsO.lower (IntsO.empty _ (by simp)) (by simp), (by repeat (first | (with_reducible exact Below.refl _ _) | (with_reducible assumption) | (with_reducible apply bbox) | ((with_reducible apply Below.setCell); (case hp => (first | exact Nat.le_refl _ | (simp; done) | (simp; omega) | (simp only; omega) | omega))) | (with_reducible apply Below.drew) | (with_reducible apply below_drewN)))⟩
    have HF := Lib.hid hf
    clear hf
    go_wp2_with fail
    refine (c_early9 A2 B d2 cc a.atoms c _ (H2.out.below (by repeat (first | (with_reducible exact Below.refl _ _) | (with_reducible assumption) | (with_reducible apply bbox) | ((with_reducible apply Below.setCell); (case hp => (first | exact Nat.le_refl _ | (simp; done) | (simp; omega) | (simp only; omega) | omega))) | (with_reducible apply Below.drew) | (with_reducible apply below_drewN)))) (HI.out.below (by repeat (first | (with_reducible exact Below.refl _ _) | (with_reducible assumption) | (with_reducible apply bbox) | ((with_reducible apply Below.setCell); (case hp => (first | exact Nat.le_refl _ | (simp; done) | (simp; omega) | (simp only; omega) | omega))) | (with_reducible apply Below.drew) | (with_reducible apply below_drewN)))) HC.out HO.out.2 HCL.out).mono ?_
    rintro e w2 ⟨rfl, hB2⟩
    have hB : Below w.heap.size w w2 := bgo (w := w) (by repeat (first | (with_reducible exact Below.refl _ _) | (with_reducible assumption) | (with_reducible apply bbox) | ((with_reducible apply Below.setCell); (case hp => (first | exact Nat.le_refl _ | (simp; done) | (simp; omega) | (simp only; omega) | omega))) | (with_reducible apply Below.drew) | (with_reducible apply below_drewN))) hB2
    have k0 : Blk w2 w.heap.size tAs #[.slice A1 a.facts.length d1, .slice A2 a.atoms.length d2] := Blk.next (by repeat (first | (with_reducible assumption) | (with_reducible exact Blk.new _ _ _) | ((with_reducible apply Blk.far); (case hp => (first | exact Nat.le_refl _ | (simp; done) | (simp; omega) | (simp only; omega) | omega))) | (with_reducible apply Blk.set_) | ((with_reducible refine Blk.newE ?_); (simp; done)) | (with_reducible apply Blk.alloc) | (with_reducible apply Blk.drew) | (with_reducible apply Blk.drewN))) hB2
    have q0 := k0.cell
    have l0 := k0.lt
    clear hB2
    cases he : earlyF c [] a.atoms
    · have E := Lib.hid (seek_cut (a := a) (S := S) 0 (c := c) (by rw [HF.out, he]; rfl))
      clear he
      go_wp2_with fail
      go_ret2
      exact ⟨_, by rw [E.out]; rfl, by rw [E.out]; exact IntsO.lower (IntsO.empty _ rfl) (by omega), (by repeat (first | (with_reducible exact Below.refl _ _) | (with_reducible assumption) | (with_reducible apply bbox) | ((with_reducible apply Below.setCell); (case hp => (first | exact Nat.le_refl _ | (simp; done) | (simp; omega) | (simp only; omega) | omega))) | (with_reducible apply Below.drew) | (with_reducible apply below_drewN)))⟩
    have E0 := Lib.hid (seek_leaf (a := a) (S := S) (c := c) (by rw [HF.out, he]; rfl))
    clear he
    go_wp2_with fail
    refine (c_filled9 A2 B d2 cc a.atoms c _ (H2.out.below hB) (HI.out.below hB) HC.out HO.out.2).mono ?_
    rintro e w3 ⟨r3, rfl, o3, hB3⟩
    obtain ⟨R3, e3, rfl, v3⟩ := o3.reads
    have hBB : Below w.heap.size w w3 := bgo hB hB3
    go_wp2_with fail
    refine (c_spec_l5Apart R3 e3 (filledL a.atoms c) _ v3).mono ?_
    rintro e w4 ⟨rfl, hB4⟩
    have hB5 : Below w.heap.size w w4 := bgo hBB hB4
    have hz := hB5.size
    clear o3 v3 hB3 hB4 hBB q0 l0 k0 hB
    cases hap : apartF [] (filledL a.atoms c)
    · have E := Lib.hid (show seek a S 0 c = [] by rw [E0.out, hap]; rfl)
      clear hap
      go_wp2_with fail
      go_ret2
      exact ⟨_, by rw [E.out]; rfl, by rw [E.out]; exact IntsO.lower (IntsO.empty _ rfl) (by omega), (by repeat (first | (with_reducible exact Below.refl _ _) | (with_reducible assumption) | (with_reducible apply bbox) | ((with_reducible apply Below.setCell); (case hp => (first | exact Nat.le_refl _ | (simp; done) | (simp; omega) | (simp only; omega) | omega))) | (with_reducible apply Below.drew) | (with_reducible apply below_drewN)))⟩
    · have E := Lib.hid (show seek a S 0 c = [c] by rw [E0.out, hap]; rfl)
      clear hap
      go_wp2_with (at_builtin; refine appIL (ys := c) rfl _ _ rfl (v := .slice (some ⟨w4.heap.size, 0, none⟩) 0 0) rfl (IntsO.empty w4 rfl) (by rw [HC.out]; rfl) (HI.out.below (by repeat (first | (with_reducible exact Below.refl _ _) | (with_reducible assumption) | (with_reducible apply bbox) | ((with_reducible apply Below.setCell); (case hp => (first | exact Nat.le_refl _ | (simp; done) | (simp; omega) | (simp only; omega) | omega))) | (with_reducible apply Below.drew) | (with_reducible apply below_drewN)))) (by rw [HC.out]; simp) (by simp) ?_; intro A' c' w5 o5 hg5 hB6; rw [List.nil_append, HC.out])
      go_ret2
      exact ⟨_, by rw [E.out]; rfl, by rw [E.out]; rw [List.nil_append, HC.out] at o5; exact o5.lower hz, Below.trans (by repeat (first | (with_reducible exact Below.refl _ _) | (with_reducible assumption) | (with_reducible apply bbox) | ((with_reducible apply Below.setCell); (case hp => (first | exact Nat.le_refl _ | (simp; done) | (simp; omega) | (simp only; omega) | omega))) | (with_reducible apply Below.drew) | (with_reducible apply below_drewN))) (hB6.mono hz)⟩
  | succ n ih =>
    intro c B cc lo' hi' w hn hc hcl hc8 hA hT hI
    have HO := Lib.hid (Asn.valid_ok hv)
    have hV := Lib.hid hA
    have HC := Lib.hid hc
    have HI := Lib.hid hI
    have HTT := Lib.hid hT
    have HC8 := Lib.hid hc8
    have HCL0 := Lib.hid hcl
    have IH := Lib.hid ih
    have HCL : Hid (∀ x ∈ a.atoms, cl c x.a ≤ 8) := fun x hx => by
      have := (HO.out.2 x hx).1
      obtain ⟨t, et⟩ := Int.eq_ofNat_of_zero_le this.1
      rw [et]; exact hc8 t (by omega)
    obtain ⟨B1, e1, B2, e2, he, h1, h2⟩ := hA
    injection he with he; injection he with he; injection he with he1 he2; injection he2 with he2 he3
    injection he1 with he1 _ he4; injection he2 with he2 _ he5
    subst he1 he4 he2 he5
    have H1 := Lib.hid h1
    have H2 := Lib.hid h2
    obtain ⟨tb, to, rfl, ltb⟩ := flags_addr hT
    obtain ⟨pb, ob, rfl, lpb⟩ := hI.blt (k := 0) (by omega)
    obtain ⟨m, hm8⟩ : ∃ m, m = 8 - n := ⟨_, rfl⟩
    have E1 : Hid (((9 - n : Nat) : Int) = (m : Int) + 1) := by show _ = _; omega
    rw [show 9 - (n + 1) = m from by omega] at HCL0 ⊢
    have HM8 := Lib.hid hm8
    have HN := Lib.hid hn
    have hmg : ¬ (8 < (m : Int)) := by omega
    have hmi9 : (m : Int) < 9 := by omega
    clear h1 h2 hc hc8 hcl hT hI he3 ih hm8 hn
    go_enter Try.func132, Try.ntmps132
    go_wp2_with fail
    refine (c_fits9 A1 _ d1 cc a.facts c _ (H1.out.below (by repeat (first | (with_reducible exact Below.refl _ _) | (with_reducible assumption) | (with_reducible apply bbox) | ((with_reducible apply Below.setCell); (case hp => (first | exact Nat.le_refl _ | (simp; done) | (simp; omega) | (simp only; omega) | omega))) | (with_reducible apply Below.drew) | (with_reducible apply below_drewN)))) (HI.out.below (by repeat (first | (with_reducible exact Below.refl _ _) | (with_reducible assumption) | (with_reducible apply bbox) | ((with_reducible apply Below.setCell); (case hp => (first | exact Nat.le_refl _ | (simp; done) | (simp; omega) | (simp only; omega) | omega))) | (with_reducible apply Below.drew) | (with_reducible apply below_drewN)))) HC.out HO.out.1).mono ?_
    rintro e w1 ⟨rfl, rfl⟩
    cases hf : fitsS c a.facts
    · have E := Lib.hid (seek_cut (a := a) (S := S) (n + 1) (c := c) (by rw [hf]; rfl))
      clear hf
      go_wp2_with fail
      go_ret2
      exact ⟨_, by rw [E.out]; rfl, by rw [E.out]; exact IntsO.lower (IntsO.empty _ (by simp)) (by simp), (by repeat (first | (with_reducible exact Below.refl _ _) | (with_reducible assumption) | (with_reducible apply bbox) | ((with_reducible apply Below.setCell); (case hp => (first | exact Nat.le_refl _ | (simp; done) | (simp; omega) | (simp only; omega) | omega))) | (with_reducible apply Below.drew) | (with_reducible apply below_drewN)))⟩
    have HF := Lib.hid hf
    clear hf
    go_wp2_with fail
    refine (c_early9 A2 _ d2 cc a.atoms c _ (H2.out.below (by repeat (first | (with_reducible exact Below.refl _ _) | (with_reducible assumption) | (with_reducible apply bbox) | ((with_reducible apply Below.setCell); (case hp => (first | exact Nat.le_refl _ | (simp; done) | (simp; omega) | (simp only; omega) | omega))) | (with_reducible apply Below.drew) | (with_reducible apply below_drewN)))) (HI.out.below (by repeat (first | (with_reducible exact Below.refl _ _) | (with_reducible assumption) | (with_reducible apply bbox) | ((with_reducible apply Below.setCell); (case hp => (first | exact Nat.le_refl _ | (simp; done) | (simp; omega) | (simp only; omega) | omega))) | (with_reducible apply Below.drew) | (with_reducible apply below_drewN)))) HC.out HO.out.2 HCL.out).mono ?_
    rintro e w2 ⟨rfl, hB2⟩
    have hB : Below w.heap.size w w2 := bgo (w := w) (by repeat (first | (with_reducible exact Below.refl _ _) | (with_reducible assumption) | (with_reducible apply bbox) | ((with_reducible apply Below.setCell); (case hp => (first | exact Nat.le_refl _ | (simp; done) | (simp; omega) | (simp only; omega) | omega))) | (with_reducible apply Below.drew) | (with_reducible apply below_drewN))) hB2
    have k0 : Blk w2 w.heap.size tAs #[.slice A1 a.facts.length d1, .slice A2 a.atoms.length d2] := Blk.next (by repeat (first | (with_reducible assumption) | (with_reducible exact Blk.new _ _ _) | ((with_reducible apply Blk.far); (case hp => (first | exact Nat.le_refl _ | (simp; done) | (simp; omega) | (simp only; omega) | omega))) | (with_reducible apply Blk.set_) | ((with_reducible refine Blk.newE ?_); (simp; done)) | (with_reducible apply Blk.alloc) | (with_reducible apply Blk.drew) | (with_reducible apply Blk.drewN))) hB2
    have q0 := k0.cell
    have l0 := k0.lt
    clear hB2
    cases he : earlyF c [] a.atoms
    · have E := Lib.hid (seek_cut (a := a) (S := S) (n + 1) (c := c) (by rw [HF.out, he]; rfl))
      clear he
      go_wp2_with fail
      go_ret2
      exact ⟨_, by rw [E.out]; rfl, by rw [E.out]; exact IntsO.lower (IntsO.empty _ rfl) (by omega), (by repeat (first | (with_reducible exact Below.refl _ _) | (with_reducible assumption) | (with_reducible apply bbox) | ((with_reducible apply Below.setCell); (case hp => (first | exact Nat.le_refl _ | (simp; done) | (simp; omega) | (simp only; omega) | omega))) | (with_reducible apply Below.drew) | (with_reducible apply below_drewN)))⟩
    have E0 := Lib.hid (seek_step (a := a) (S := S) (n := n) (c := c) (by rw [HF.out, he]; rfl))
    clear he
    have qt := flags_at (HTT.out.below hB) (m := m) (by omega)
    cases ht : S.testBit m
    · rw [ht] at qt
      have E : Hid (seek a S (n + 1) c = seek a S n c) := by show _ = _; rw [E0.out, ← HM8.out, ht]; rfl
      have ih1 := IH.out c _ cc _ _ w2 (by have := HN.out; omega) HC.out (fun j hj hS => by
        by_cases e : j = m
        · subst e; rw [ht] at hS; cases hS
        · exact HCL0.out j (by have := HM8.out; have := HN.out; omega) hS) HC8.out (hV.out.below hB) (HTT.out.below hB) (HI.out.below hB)
      rw [E1.out] at ih1
      have IH1 := Lib.hid ih1
      clear ih1 ht
      go_wp2_with fail
      refine IH1.out.mono ?_
      rintro e w3 ⟨r, rfl, o3, hB3⟩
      have O3 := Lib.hid o3
      have hz := hB.size
      clear o3
      go_wp2_with fail
      go_ret2
      exact ⟨r, by rw [E.out]; rfl, by rw [E.out]; exact O3.out.lower hz, bgo hB hB3⟩
    · rw [ht] at qt
      have E : Hid (seek a S (n + 1) c = (List.range (9 - n)).flatMap (seekAt a S n c)) := by show _ = _; rw [E0.out, ← HM8.out, ht]; rfl
      clear ht
      go_wp2_with fail
      go_loopw [10] (fun i wr => ∃ k : Nat, k ≤ m + 1 ∧ i = .int .i64 k ∧ Hid ((List.range k).flatMap (seekAt a S n c) = []) ∧ Blk wr w.heap.size tAs #[.slice A1 a.facts.length d1, .slice A2 a.atoms.length d2] ∧ Below w.heap.size w wr) (fun i _ => 9 - (intOf i).toNat)
      case atStart => exact ⟨0, Nat.zero_le _, rfl, rfl, k0, hB⟩
      case round =>
        clear k0 hB q0 l0 qt
        obtain ⟨k, hk, rfl, HP, k0, hB⟩ := hrel
        have q0 := k0.cell
        have l0 := k0.lt
        have hz := hB.size
        by_cases hlt : k ≤ m
        · have hki : (k : Int) ≤ (m : Int) := by omega
          have hk9 : (k : Int) < 9 := by omega
          have hkc := ints_cl (HI.out.below hB) (m := k) (by rw [HC.out]; omega)
          have HNX : Hid ((List.range (k + 1)).flatMap (seekAt a S n c) = seekAt a S n c k) := by show _ = _; rw [List.range_succ, List.flatMap_append, HP.out]; simp
          by_cases hskip : k < m ∧ cl c k ≠ k
          · have HX : Hid (seekAt a S n c k = []) := by show _ = _; rw [seekAt, if_pos (by rw [← HM8.out]; exact hskip)]
            have hkm : (k : Int) < (m : Int) := by omega
            have hne : (cl c k != (k : Int)) = true := by simpa using hskip.2
            clear hskip hki hlt
            go_wp2_with fail
            go_round
            case rel => exact ⟨k + 1, by omega, by go_num, by show _ = _; rw [HNX.out, HX.out], k0, hB⟩
            case measure => simp [intOf]; omega
          · have hsk2 : k < m → (cl c k != (k : Int)) = false := fun h => by
              cases Int.decEq (cl c k) k with
              | isTrue h => simp [h]
              | isFalse h' => exact absurd ⟨h, h'⟩ hskip
            have HX : Hid (seekAt a S n c k = seek a S n (c.set m k)) := by
              show _ = _
              rw [seekAt, ← HM8.out, if_neg hskip]
            clear hskip
            have hcs : (c.set m (k : Int)).length = 9 := by simpa using HC.out
            have HCS := Lib.hid hcs
            have hcl' : ∀ j : Nat, j < 9 - n → S.testBit j = true → 0 ≤ cl (c.set m (k : Int)) j ∧ cl (c.set m (k : Int)) j ≤ j := fun j hj hSj => by
              have := HM8.out; have := HN.out
              rw [cl_set HC.out (by omega) _ (by omega)]
              split
              · omega
              · exact HCL0.out j (by omega) hSj
            have HCL' := Lib.hid hcl'
            have hc8' : ∀ j : Nat, j < 9 → cl (c.set m (k : Int)) j ≤ 8 := fun j hj => by
              rw [cl_set HC.out (by omega) _ (by omega)]
              split
              · omega
              · exact HC8.out j hj
            have HC8' := Lib.hid hc8'
            clear hcl' hc8' hcs
            obtain hkm | hkm : k < m ∨ k = m := by omega
            case' inl => have h1 : (k : Int) < (m : Int) := by omega
            case' inl => have h2 := hsk2 hkm
            case' inr => have h1 : ¬ (k : Int) < (m : Int) := by omega
            all_goals
              clear hkm hsk2
              go_wp2_with (at_builtin; refine appIL (ys := c) (base := wr.heap.size) rfl _ _ rfl (v := .slice (some ⟨wr.heap.size, 0, none⟩) 0 0) rfl (IntsO.empty wr rfl) (by rw [HC.out]; rfl) (HI.out.below (by repeat (first | (with_reducible exact Below.refl _ _) | (with_reducible assumption) | (with_reducible apply bbox) | ((with_reducible apply Below.setCell); (case hp => (first | exact Nat.le_refl _ | (simp; done) | (simp; omega) | (simp only; omega) | omega))) | (with_reducible apply Below.drew) | (with_reducible apply below_drewN)))) (by rw [HC.out]; simp) (by simp) ?_; intro A' c' w5 o5 hg5 hB6; rw [List.nil_append, HC.out] at o5 ⊢; obtain ⟨g, cur, -, rfl, hgb, kg, hcm, hset⟩ := o5.open_ (k := m) (by rw [HC.out]; omega); have qg := (kg.cell m).trans hcm; have rg := kg.frozen; have lg := kg.lt; have HSET := Lib.hid (hset k); have k5 := Blk.below (g := w.heap.size) (w := wr.alloc (.cells #[] tI)) (k0.alloc _) hB6 l0; have hB5 : Below w.heap.size w w5 := Below.trans (by repeat (first | (with_reducible exact Below.refl _ _) | (with_reducible assumption) | (with_reducible apply bbox) | ((with_reducible apply Below.setCell); (case hp => (first | exact Nat.le_refl _ | (simp; done) | (simp; omega) | (simp only; omega) | omega))) | (with_reducible apply Below.drew) | (with_reducible apply below_drewN))) (hB6.mono (by omega)); have k6 := k5.far (p := ⟨g, m, none⟩) (by simp only; omega) (.int .i64 k); have q6 := k6.cell; clear hset o5 kg hcm q0 hg5)
              have hB7 : Below w.heap.size w (w5.setCell ⟨g, m, none⟩ (.int .i64 k)) := hB5.setCell (p := ⟨g, m, none⟩) (by simp only; omega) _
              have hz7 := hB7.size
              have v7 := HSET.out.readsI.2
              have ih1 := IH.out (c.set m (k : Int)) _ c' _ _ _ (by have := HN.out; omega) HCS.out HCL'.out HC8'.out (hV.out.below hB7) (HTT.out.below hB7) v7
              rw [E1.out] at ih1
              refine ih1.mono ?_
              clear ih1 v7 q6 k5 qg rg
              rintro e w8 ⟨r, rfl, o8, hB8⟩
              have O8 := Lib.hid o8
              have k8 := k6.next hB8
              have hBn := bgo hB7 hB8
              clear o8 hB8 k6 hB7 hB5 hB6
              cases hem : (seek a S n (c.set m (k : Int))).isEmpty
              · have hne : seekAt a S n c k ≠ [] := by rw [HX.out]; intro h; rw [h] at hem; cases hem
                obtain ⟨y, y1, y2⟩ := flatMap_first (N := 9 - n) (by have := HM8.out; have := HN.out; omega) HP.out hne
                rw [HX.out] at y1
                have E2 : Hid ((seek a S (n + 1) c).isEmpty = false ∧ firstI (seek a S (n + 1) c) = firstI (seek a S n (c.set m (k : Int)))) := by
                  refine ⟨?_, ?_⟩
                  · rw [E.out]
                    cases h : (List.range (9 - n)).flatMap (seekAt a S n c) with
                    | nil => rw [h] at y2; cases y2
                    | cons _ _ => rfl
                  · unfold firstI; rw [E.out, y1, y2]
                clear hem hne y1 y2
                go_wp2_with fail
                go_ret2
                exact ⟨r, by rw [E2.out.1]; rfl, by rw [E2.out.2]; exact O8.out.lower hz7, hBn⟩
              · have HX2 : Hid (seekAt a S n c k = []) := by show _ = _; rw [HX.out]; simpa using hem
                clear hem
                go_wp2_with fail
                go_round
                case rel => exact ⟨k + 1, by omega, by go_num, by show _ = _; rw [HNX.out, HX2.out], k8, hBn⟩
                case measure => simp [intOf]; omega
        · obtain rfl : k = m + 1 := by omega
          have E2 : Hid (seek a S (n + 1) c = []) := by show _ = _; rw [E.out, show 9 - n = m + 1 from by have := HM8.out; have := HN.out; omega]; exact HP.out
          go_wp2_with fail
          go_ret2
          exact ⟨_, by rw [E2.out]; rfl, by rw [E2.out]; exact IntsO.lower (IntsO.empty _ rfl) (by omega), (by repeat (first | (with_reducible exact Below.refl _ _) | (with_reducible assumption) | (with_reducible apply bbox) | ((with_reducible apply Below.setCell); (case hp => (first | exact Nat.le_refl _ | (simp; done) | (simp; omega) | (simp only; omega) | omega))) | (with_reducible apply Below.drew) | (with_reducible apply below_drewN)))⟩

--@ spec.l5Open
theorem openedB : (∀ j : Nat, j < 9 → cl opened j ≤ 8) ∧ ∀ (S : Nat) (j : Nat), j < 9 - 8 → S.testBit j = true → 0 ≤ cl opened j ∧ cl opened j ≤ j := by
  refine ⟨fun j hj => ?_, fun S j hj _ => ?_⟩
  · obtain rfl | rfl | rfl | rfl | rfl | rfl | rfl | rfl | rfl : j = 0 ∨ j = 1 ∨ j = 2 ∨ j = 3 ∨ j = 4 ∨ j = 5 ∨ j = 6 ∨ j = 7 ∨ j = 8 := by omega
    all_goals decide
  · obtain rfl : j = 0 := by omega
    decide
theorem tins_same {S : Nat} (h : S.testBit 0 = true) : tins S 0 = S := by
  apply Nat.eq_of_testBit_eq
  intro i
  rw [tins_bit]
  by_cases e : i = 0
  · subst e; simp [h]
  · have : ¬ (isTermB (0 : Int) = true ∧ (0 : Int) = (i : Int)) := by rintro ⟨-, h⟩; omega
    rw [decide_eq_false this, Bool.or_false]
end Go.Proofs.Ytdhllcejahdjfaa

/- Contracts: the spec's Consistent; facts added; SymTest. -/
namespace Go.Proofs.Ytdhllcejahdjfaa
open Go Go.RowKit Go.Proofs
attribute [local go_sem ↓] Go.wp_at_zero Go.wp_at_succ

theorem seek_congr (a : Asn) {S S' : Nat} (h : ∀ j, 1 ≤ j → j < 9 → S.testBit j = S'.testBit j) : ∀ (n : Nat) (c : List Int), n ≤ 8 → seek a S n c = seek a S' n c := by
  intro n
  induction n with
  | zero => intro c _; rfl
  | succ n ih =>
    intro c hn
    unfold seek
    rw [h (8 - n) (by omega) (by omega)]
    have e : ∀ c', seek a S n c' = seek a S' n c' := fun c' => ih c' (by omega)
    split
    · split
      · apply flatMap_congr'
        intro k _
        rw [e]
      · exact e _
    · rfl
/-- the spec's search for the terms of S (nil's bit does not matter) gives the cases -/
theorem seek_caseS {a : Asn} (hv : a.valid = true) (F S : Nat) (h : ∀ j, 1 ≤ j → j < 9 → S.testBit j = (caseS a F).testBit j) : seek a S 8 opened = cases a (caseS a F) := by
  rw [seek_congr a h 8 opened (by omega)]
  exact seek_cases (Asn.valid_ok hv).1 (Asn.valid_ok hv).2 (caseS_zero a F) (caseS_not hv F)
theorem seek_terms {a : Asn} (hv : a.valid = true) : seek a (tset (termsL a)) 8 opened = cases a (caseS a 0) := by
  refine seek_caseS hv 0 _ fun j h1 h2 => ?_
  rw [caseS_bit, tset_bit]
  have : ¬ j = 0 := by omega
  simp [this]
end Go.Proofs.Ytdhllcejahdjfaa

/- Contracts: all cases: impl and spec. -/
namespace Go.Proofs.Ytdhllcejahdjfaa
open Go Go.RowKit Go.Proofs
attribute [local go_sem ↓] Go.wp_at_zero Go.wp_at_succ
attribute [local go_sem] Oper.semAt_some

/-- only blocks of slices of numbers may have turned -/
structure KX (w w' : World) : Prop where
  os : w'.os = w.os
  tape : w'.tape = w.tape
  output : w'.output = w.output
  size : w.heap.size ≤ w'.heap.size
  keep : ∀ (k : Nat) (o : Obj), w.heap[k]? = some o → (∀ cs, o ≠ .cells cs tIS (0, 0)) → w'.heap[k]? = some o
section
variable {w w' w1 : World}
theorem KX.of (h : Below w.heap.size w w') : KX w w' := ⟨h.os, h.tape, h.output, h.size, fun k o hk _ => (h.block k (Array.getElem?_eq_some_iff.1 hk).1).trans hk⟩
theorem KX.trans (h : KX w w1) (k : KX w1 w') : KX w w' := ⟨k.os.trans h.os, k.tape.trans h.tape, k.output.trans h.output, Nat.le_trans h.size k.size, fun i o hi ho => k.keep i o (h.keep i o hi ho) ho⟩
theorem KX.set (h : KX w w1) {p : Addr} (hp : w.heap.size ≤ p.block) (u : Value) : KX w (w1.setCell p u) :=
  ⟨h.os, h.tape, h.output, by have := h.size; simpa using this, fun k o hk ho => (Below.heap_setCell w1 p u k (by have := (Array.getElem?_eq_some_iff.1 hk).1; omega)).trans (h.keep k o hk ho)⟩
theorem KX.app {v : Value} {base n : Nat} {vs : List Value} (h : w.ownsRow base tIS 1 v n vs) (hg : w.grownBy w' v.ownBlock) : KX w w' :=
  ⟨hg.os, hg.tape, hg.output, hg.size, fun k o hk ho => (hg.block k (Array.getElem?_eq_some_iff.1 hk).1 (fun e => by
    rcases h.2 with ⟨rfl, -⟩ | ⟨g, cap, cur, rfl, -, hh, -⟩
    · cases e
    · have e1 : k = g := by simpa [Value.ownBlock] using e
      subst e1
      rw [hk] at hh
      exact ho cur (Option.some.inj hh))).trans hk⟩
theorem KX.blk (h : KX w w') {g : Nat} {t : TypeId} {cs : Array Value} (hb : Blk w g t cs) (ht : t ≠ tIS) : Blk w' g t cs := h.keep g _ hb fun c e => by injection e with _ e2; exact ht e2
theorem KX.ints (h : KX w w') {base : Nat} {v : Value} {xs : List Int} (ho : IntsO w base v xs) : IntsO w' base v xs := by
  obtain ⟨⟨h1, h2⟩, h3⟩ := ho
  refine ⟨⟨h1, ?_⟩, h3⟩
  rcases h2 with h2 | ⟨k, cap, cur, hv, hg, hh, r⟩
  · exact Or.inl h2
  · exact Or.inr ⟨k, cap, cur, hv, hg, h.blk (g := k) hh (by decide), r⟩
end
theorem KX.keeps {w w' : World} (h : KX w w') : KeepsOthers w w' := ⟨h.size, fun k o hk ho => h.keep k o hk fun cs e => by subst e; cases ho⟩
theorem KX.kept {T1 T2 : TypeId} {n₀ : Nat} {w w' : World} (h : KX w w') (hb : Below n₀ w w') (h1 : T1 ≠ tIS) (h2 : T2 ≠ tIS) : Kept T1 T2 n₀ w w' := ⟨hb, fun g t cs ht hk => h.blk hk (by rcases ht with rfl | rfl; exact h1; exact h2)⟩
section
variable {P : Program} {n : Nat}
/-- a drawn region within a round, its last store carried out behind the others -/
theorem wpIn_region_last' {Q : Exit → Act → World → Prop} {S : World → Prop} {L : List Oper} {id l : Nat} {a : Act} {w : World} (hlo : ¬ LetsOut Q) (hnd : (L.toArray.all noDefer) = true) (hne : L ≠ []) (hm : P.follows .mixedOrders = true) (hB : lastB L = true) (hS : S w.drew)
    (h : S w.drew → wpAnyH P .any (L.dropLast ++ [nopOf (L.getLast hne)]).toArray (lastQ P (L.getLast hne) Q) S L.length (Array.replicate L.length false) a w.drew) : (Code.region id L.toArray true).wpIn (Fence.wide.inRound l) n P Q a w := by
  refine wpIn_region_any hm (wpAny_in hlo hnd _ _ _ _ ?_)
  have e : L.dropLast ++ [L.getLast hne] = L := List.dropLast_concat_getLast hne
  unfold lastB at hB
  rw [List.getLast?_eq_some_getLast hne] at hB
  simp only [Bool.and_eq_true] at hB
  obtain ⟨⟨⟨⟨h1, h2⟩, h3⟩, h4⟩, h5⟩ := hB
  have hl : L.dropLast.length + 1 = L.length := by have := congrArg List.length e; simpa using this
  have es : L.toArray.size = L.dropLast.length + 1 := by rw [List.size_toArray, hl]
  rw [es]
  have key := wpAny_of_last (P := P) (S := S) (Q := Q) (md := .any) h1 h2 (by rw [e]; exact h3) (by rw [e]; exact h4) (by rw [e]; exact h5) (L.dropLast.length + 1) (Array.replicate (L.dropLast.length + 1) false) a w.drew ⟨by simp, fun j oj _ hl => (by rw [getD_replicate_false] at hl; cases hl), fun t _ ht => getD_in (by simpa using ht) (getD_replicate_false _ _)⟩ (by rw [hl]; exact h hS)
  rwa [e] at key
end

--@ (impl.termCase).list
theorem ints_case {w : World} {g : Nat} {c : List Int} (h : Blk w g tC (case9 c)) (hc : c.length = 9) : IntsV w g (g + 1) (some ⟨g, 0, none⟩) c :=
  ⟨⟨by simp, fun _ => ⟨g, 0, rfl, Nat.le_refl _, Nat.lt_succ_self _, fun j u hu => by rw [Nat.zero_add, (h.case hc).cell]; simpa using hu⟩⟩, by rw [hc]; decide⟩
set_option maxHeartbeats 800000 in
theorem c_impl_caseList (c : List Int) (w : World) (hc : c.length = 9) : Calls Try.prog 103 #[.agg (case9 c)] w fun e w' => ∃ r, e = .returned r ∧ IntsO w' w.heap.size r c ∧ Below w.heap.size w w' := by
  have HC := Lib.hid hc
  have hcp := c_impl_copyInts (some ⟨w.heap.size, 0, none⟩) 9 c (w.alloc (.cells (case9 c) tC)) (ints_case (Blk.new w tC (case9 c)) hc)
  rw [hc] at hcp
  have HCP := Lib.hid hcp
  clear hc hcp
  go_enter Try.func103, Try.ntmps103
  go_wp2_with fail
  refine HCP.out.mono ?_
  rintro e w1 ⟨r, rfl, o, hB1⟩
  have O := Lib.hid o
  clear o
  go_wp2_with fail
  go_ret
  exact ⟨r, rfl, O.out.lower (by simp), bgo (w := w) (by repeat (first | (with_reducible exact Below.refl _ _) | (with_reducible assumption) | (with_reducible apply bbox) | ((with_reducible apply Below.setCell); (case hp => (first | exact Nat.le_refl _ | (simp; done) | (simp; omega) | (simp only; omega) | omega))) | (with_reducible apply Below.drew) | (with_reducible apply below_drewN))) hB1⟩

--@ impl.CasesOf
/-- the cases, as the two programs list them -/
def casesV (a : Asn) : List (List Int) := if a.valid then cases a (caseS a 0) else []
theorem flatMap_len {α β : Type} (f : α → List β) (B : Nat) : ∀ (l : List α), (∀ x ∈ l, (f x).length ≤ B) → (l.flatMap f).length ≤ l.length * B
  | [], _ => by simp
  | x :: xs, h => by
    rw [List.flatMap_cons, List.length_append, List.length_cons, Nat.succ_mul]
    have h1 := h x List.mem_cons_self
    have h2 := flatMap_len f B xs fun y hy => h y (List.mem_cons_of_mem _ hy)
    omega
def fall : Nat → Nat
  | 0 => 1
  | n + 1 => (9 - n) * fall n
theorem gen_len (S : Nat) : ∀ (n : Nat) (c : List Int), n ≤ 9 → (gen S n c).length ≤ fall n
  | 0, _, _ => by simp [gen, fall]
  | n + 1, c, hn => by
    have ih := fun c => gen_len S n c (by omega)
    unfold gen fall
    split
    · refine Nat.le_trans (flatMap_len _ (fall n) _ fun k _ => ?_) (by simp)
      split
      · simp
      · exact ih _
    · refine Nat.le_trans (ih _) ?_
      have : 1 ≤ 9 - n := by omega
      exact Nat.le_mul_of_pos_left _ this
theorem cases_len (a : Asn) (S : Nat) : (cases a S).length ≤ 362880 := Nat.le_trans (List.length_filter_le _ _) (gen_len S 9 zeros (by omega))
theorem tot_nine : ∀ (L : List (List Int)), (∀ c ∈ L, c.length = 9) → tot L = L.length * 9
  | [], _ => rfl
  | c :: L, h => by rw [tot_cons, h c List.mem_cons_self, tot_nine L fun d hd => h d (List.mem_cons_of_mem _ hd), List.length_cons]; omega
theorem cases_nine {a : Asn} {S : Nat} : ∀ c ∈ cases a S, c.length = 9 := fun c hc => CaseT.len (a := a) (S := S) ⟨c, hc⟩
theorem casesV_tot (a : Asn) : tot (casesV a) ≤ 16777216 := by
  unfold casesV
  split
  · rw [tot_nine _ cases_nine]
    have := cases_len a (caseS a 0)
    omega
  · simp [tot]
theorem slice_one (v : Value) (h : ∃ A n c, v = .slice A n c) : v.oneCell' = true := by obtain ⟨A, n, c, rfl⟩ := h; rfl
section
variable {ops : Array Oper} {rest : List Oper} {o : Oper} {a : Act} {Q : Exit → Act → World → Prop} {w w0 : World} {base : Nat} {v : Value} {vs : List Value} {xss : List (List Int)}
theorem rwS {w : World} {g : Nat} {sv : Value} (h : Blk w g tIS #[sv]) : Rw w g (g + 1) 1 (some ⟨g, 0, none⟩) 1 [sv] :=
  ⟨rfl, fun _ => ⟨g, 0, rfl, Nat.le_refl _, Nat.lt_succ_self _, fun j u hu => by
    match j, hu with
    | 0, hu => simp at hu; subst hu; exact h.cell 0⟩⟩
/-- append of one slice to a list of slices, at a step of a drawn region -/
theorem stepSS {K : Act → World → Prop} {E : Prop} (hgd : o.guard = none) (s x : Operand) (ho : o.op = .call { callee := .builtin .append, args := #[s, x], argTypes := #[55, 55] })
    (hs : a.eval s = v) (h0 : SSO w0 base v vs xss) (hb0 : Below w0.heap.size w0 w) (hbase : base ≤ w0.heap.size) {g : Nat} {A : Option Addr} {n c : Nat} {ys : List Int} (hy : IntsO w w0.heap.size (.slice A n c) ys) (hg : Blk w g tIS #[.slice A n c]) (hx : a.eval x = .slice (some ⟨g, 0, none⟩) 1 1) (hl : xss.length + 1 ≤ 1049600)
    (h : ∀ A' c' w', SSO w' base (.slice A' (xss.length + 1) c') (vs ++ [.slice A n c]) (xss ++ [ys]) → w.grownBy w' v.ownBlock → Below base w w' → K (a.put o.dst (.slice A' (xss.length + 1) c')) w') : if Region.wanted o (yielded ops a.tmps) = true then Oper.wp Try.prog o a w K Q else E := by
  have hw : Region.wanted o (yielded ops a.tmps) = true := by simp [Region.wanted, hgd]
  rw [if_pos hw]
  have hvl := h0.len
  refine wp_appL s x 55 ho Try.underlying55 infoIS rfl (by decide) (by decide) hs (own_below h0.row hb0) hx (rwS hg) (by intro u hu; simp at hu; subst hu; rfl) (by omega) (Nat.le_trans hbase hb0.size) ?_
  intro v' w' h1 h2 h3
  have hS := h0.snoc hb0 hy hbase (by omega) h2 h1
  obtain ⟨A', c', rfl⟩ := hS.form
  simp only [List.length_append, List.length_cons, List.length_nil, Nat.zero_add] at hS ⊢
  exact h A' c' w' hS h2 h3
/-- .. in a list of operations -/
theorem appSS (hgd : o.guard = none) (s x : Operand) (ho : o.op = .call { callee := .builtin .append, args := #[s, x], argTypes := #[55, 55] })
    (hs : a.eval s = v) (h0 : SSO w0 base v vs xss) (hb0 : Below w0.heap.size w0 w) (hbase : base ≤ w0.heap.size) {g : Nat} {A : Option Addr} {n c : Nat} {ys : List Int} (hy : IntsO w w0.heap.size (.slice A n c) ys) (hg : Blk w g tIS #[.slice A n c]) (hx : a.eval x = .slice (some ⟨g, 0, none⟩) 1 1) (hl : xss.length + 1 ≤ 1049600)
    (h : ∀ A' c' w', SSO w' base (.slice A' (xss.length + 1) c') (vs ++ [.slice A n c]) (xss ++ [ys]) → w.grownBy w' v.ownBlock → Below base w w' → wpList Try.prog ops Q rest (a.put o.dst (.slice A' (xss.length + 1) c')) w') : wpList Try.prog ops Q (o :: rest) a w := by
  have hvl := h0.len
  refine wpList_appL hgd s x 55 ho Try.underlying55 infoIS rfl (by decide) (by decide) hs (own_below h0.row hb0) hx (rwS hg) (by intro u hu; simp at hu; subst hu; rfl) (by omega) (Nat.le_trans hbase hb0.size) ?_
  intro v' w' h1 h2 h3
  have hS := h0.snoc hb0 hy hbase (by omega) h2 h1
  obtain ⟨A', c', rfl⟩ := hS.form
  simp only [List.length_append, List.length_cons, List.length_nil, Nat.zero_add] at hS ⊢
  exact h A' c' w' hS h2 h3
end
set_option maxRecDepth 100000 in
set_option maxHeartbeats 3200000 in
theorem c_impl_CasesOf {lo hi : Nat} (v : Value) (a : Asn) (w : World) (h : AsnV w lo hi v a) (hhi : hi ≤ w.heap.size) :
    Calls Try.prog 36 #[v] w fun e w' => ∃ r, e = .returned r ∧ IntSSR w' w.heap.size r (casesV a) ∧ Below w.heap.size w w' := by
  have hV := Lib.hid h
  obtain ⟨A1, c1, A2, c2, rfl, -, -⟩ := h
  refine (callsIn_wide (n := 3)).1 ?_
  (refine callsIn_of_wp_marks Try.func36 rfl trivial ?_ rfl; simp only [Try.ntmps36, List.size_toArray, List.length_cons, List.length_nil, Nat.reduceAdd, Nat.reduceSub, Array.replicate_succ, Array.replicate_zero, List.push_toArray, List.append_toArray, List.nil_append, List.cons_append])
  gi_wp2_with fail
  refine ⟨trivial, (callsIn_wide.2 (c_impl_AssertionValid _ a _ (hV.out.below (by repeat (first | (with_reducible exact Below.refl _ _) | (with_reducible assumption) | (with_reducible apply bbox) | ((with_reducible apply Below.setCell); (case hp => (first | exact Nat.le_refl _ | (simp; done) | (simp; omega) | (simp only; omega) | omega))) | (with_reducible apply Below.drew) | (with_reducible apply below_drewN)))))).mono ?_⟩
  rintro e w1 ⟨rfl, hB1⟩
  have k0 : Blk w1 w.heap.size tAs #[.slice A1 a.facts.length c1, .slice A2 a.atoms.length c2] := Blk.next (by repeat (first | (with_reducible assumption) | (with_reducible exact Blk.new _ _ _) | ((with_reducible apply Blk.far); (case hp => (first | exact Nat.le_refl _ | (simp; done) | (simp; omega) | (simp only; omega) | omega))) | (with_reducible apply Blk.set_) | ((with_reducible refine Blk.newE ?_); (simp; done)) | (with_reducible apply Blk.alloc) | (with_reducible apply Blk.drew) | (with_reducible apply Blk.drewN))) hB1
  have hB : Below w.heap.size w w1 := bgo (w := w) (by repeat (first | (with_reducible exact Below.refl _ _) | (with_reducible assumption) | (with_reducible apply bbox) | ((with_reducible apply Below.setCell); (case hp => (first | exact Nat.le_refl _ | (simp; done) | (simp; omega) | (simp only; omega) | omega))) | (with_reducible apply Below.drew) | (with_reducible apply below_drewN))) hB1
  clear hB1
  have q0 := k0.cell
  have l0 := k0.lt
  cases hv : a.valid
  · gi_wp2_with fail
    refine ⟨.slice none 0 0, by simp [results, Try.f36, go_sem], _, rfl, ⟨⟨[], ?_⟩, casesV_tot a⟩, hB⟩
    rw [show casesV a = [] from by unfold casesV; rw [hv]; rfl]
    exact SSO.nil _ _
  have HV := Lib.hid hv
  clear hv
  gi_wp2_with fail
  refine ⟨trivial, (callsIn_wide.2 (c_impl_possibleCases A1 A2 c1 c2 a 0 _ (hV.out.below (by repeat (first | (with_reducible exact Below.refl _ _) | (with_reducible assumption) | (with_reducible apply bbox) | ((with_reducible apply Below.setCell); (case hp => (first | exact Nat.le_refl _ | (simp; done) | (simp; omega) | (simp only; omega) | omega))) | (with_reducible apply Below.drew) | (with_reducible apply below_drewN)))) (by decide))).mono ?_⟩
  rintro e w2 ⟨gA, gT, rfl, hA, hT, kA, kT, hB2⟩
  have kR : Blk w2 w1.heap.size 55 #[.slice none 0 0] := Blk.next (by repeat (first | (with_reducible assumption) | (with_reducible exact Blk.new _ _ _) | ((with_reducible apply Blk.far); (case hp => (first | exact Nat.le_refl _ | (simp; done) | (simp; omega) | (simp only; omega) | omega))) | (with_reducible apply Blk.set_) | ((with_reducible refine Blk.newE ?_); (simp; done)) | (with_reducible apply Blk.alloc) | (with_reducible apply Blk.drew) | (with_reducible apply Blk.drewN))) hB2
  have hBB : Below w.heap.size w w2 := bgo (w := w) (by repeat (first | (with_reducible exact Below.refl _ _) | (with_reducible assumption) | (with_reducible apply bbox) | ((with_reducible apply Below.setCell); (case hp => (first | exact Nat.le_refl _ | (simp; done) | (simp; omega) | (simp only; omega) | omega))) | (with_reducible apply Below.drew) | (with_reducible apply below_drewN))) hB2
  have hz := hB2.size
  have hz1 := hB.size
  simp only [World.size_alloc] at hz hA hT
  have hAw := hV.out.below hBB
  clear hB2
  gi_wp2_with fail
  refine wp_rangeT (gf := 169) (lb := #[.pointer (some ⟨gA, 0, none⟩), .pointer (some ⟨gT, 0, none⟩)]) rfl (enters_of Try.func169 (by kernel_rfl) rfl)
    (c_seq (n₀ := w.heap.size) w2 HV.out (by decide) hAw hhi (by omega) kA kT) (fun h k => h.trans k) (Kept.putl (by omega)) (Below.refl _ _) (fun _ => rfl)
    (fun pre W => ∃ vs A c, SSO W w.heap.size (.slice A pre.length c) vs (pre.map Subtype.val) ∧ Blk W w1.heap.size 55 #[.slice A pre.length c] ∧ Below w.heap.size w W)
    (fun c pre W => False)
    (fun s X Y row hs hg hr => by
      obtain ⟨vs, A, c, h1, h2, h3⟩ := hs
      exact ⟨vs, A, c, h1.turn hg hr (by decide) (by decide), h2.turn hg hr (Or.inr (by omega)), Below.turn h3 hg hr (by omega) h3.size⟩)
    (fun c s X Y row hs hg hr => hs)
    ⟨[], none, 0, SSO.nil _ _, kR, hBB⟩ ?round ?done ?stop
  case round =>
    rintro l pre x W hl ⟨vs, A, c, hS, kR, hB⟩ hadm
    have hwz := hB.size
    have lR := kR.lt
    have hpl : pre.length + 1 ≤ 1049600 := by
      have h1 := hadm.length_le
      have h2 := cases_len a (caseS a 0)
      simp at h1
      omega
    clear hadm
    gi_wp2
    refine ⟨(KeepsOthers.alloc _ _).from _, Kept.alloc (by omega) _, fun o o' ho hc => ?_⟩
    have kX := (Blk.new W tC (case9 x.1)).putl o' ho hc
    replace kR := (kR.alloc (.cells (case9 x.1) tC)).putl o' ho hc
    have hK0 := Kept.put (T1 := tC) (T2 := tAs) (n₀ := w.heap.size) o' (by omega) ho hc
    have hB' := (bbox hB (.cells (case9 x.1) tC)).trans hK0.below
    have hS' : SSO ((W.alloc (.cells (case9 x.1) tC)).putObj l o') w.heap.size (.slice A pre.length c) vs (pre.map Subtype.val) := (hS.below (by repeat (first | (with_reducible exact Below.refl _ _) | (with_reducible assumption) | (with_reducible apply bbox) | ((with_reducible apply Below.setCell); (case hp => (first | exact Nat.le_refl _ | (simp; done) | (simp; omega) | (simp only; omega) | omega))) | (with_reducible apply Below.drew) | (with_reducible apply below_drewN)))).turn (T := tC) (B := l) (grownBy_putObj' _ l o') (fun r e => by cases e; exact ⟨Nat.le_refl _, o, ho, Or.inl hc⟩) (by decide) (by decide)
    clear ho hS hB
    obtain ⟨V, hVe⟩ : ∃ V, V = (W.alloc (.cells (case9 x.1) tC)).putObj l o' := ⟨_, rfl⟩
    rw [← hVe] at kX kR hB' hS' ⊢
    clear hVe hK0
    obtain ⟨p0, p1, p2, p3, p4, p5, p6, p7, p8⟩ := case9_cells kX
    have qR := kR.cell
    have rR := kR.frozen
    have lRV := kR.lt
    have lXV := kX.lt
    have hzV := hB'.size
    have hx9 := Lib.hid x.len
    have HS := Lib.hid hS'
    clear hS'
    gi_wp2_with fail
    refine wpIn_noPanic ?_
    refine wpIn_region_last' (S := (fun w' => (∀ i, w'.cell? ⟨w1.heap.size, i, none⟩ = #[.slice A pre.length c][i]?) ∧ (∀ i, w'.cell? ⟨W.heap.size, i, none⟩ = (case9 x.1)[i]?))) (fun h => by obtain ⟨_, _, h⟩ := h; exact h) (by kernel_rfl) (by simp) (by kernel_rfl) (by kernel_rfl) (⟨Blk.cell (by repeat (first | (with_reducible assumption) | (with_reducible exact Blk.new _ _ _) | ((with_reducible apply Blk.far); (case hp => (first | exact Nat.le_refl _ | (simp; done) | (simp; omega) | (simp only; omega) | omega))) | (with_reducible apply Blk.set_) | ((with_reducible refine Blk.newE ?_); (simp; done)) | (with_reducible apply Blk.alloc) | (with_reducible apply Blk.drew) | (with_reducible apply Blk.drewN))), Blk.cell (by repeat (first | (with_reducible assumption) | (with_reducible exact Blk.new _ _ _) | ((with_reducible apply Blk.far); (case hp => (first | exact Nat.le_refl _ | (simp; done) | (simp; omega) | (simp only; omega) | omega))) | (with_reducible apply Blk.set_) | ((with_reducible refine Blk.newE ?_); (simp; done)) | (with_reducible apply Blk.alloc) | (with_reducible apply Blk.drew) | (with_reducible apply Blk.drewN)))⟩) (fun hHeld => ?_)
    simp only [List.dropLast, List.getLast, nopOf, List.cons_append, List.nil_append, List.length_cons, List.length_nil, Nat.zero_add, Nat.reduceAdd]
    refine wpAnyH_take (i := 0) (v := ?_) rfl (by kernel_rfl) (by kernel_rfl) (by kernel_rfl) (fun _ _ _ h => h) (Or.inl ⟨by rfl, fun w hSw => ?_⟩) hHeld ?_
    rotate_left
    · ((try dsimp only at hSw); go_split_ands; go_simp; (try with_reducible rfl))
    try simp only [Act.put, List.getElem_toArray, List.getElem_cons_zero, List.getElem_cons_succ, List.setIfInBounds_toArray, List.set_cons_zero, List.set_cons_succ]
    refine wpAnyH_take (i := 1) (v := ?_) rfl (by kernel_rfl) (by kernel_rfl) (by kernel_rfl) (fun _ _ _ h => h) (Or.inl ⟨by rfl, fun w hSw => ?_⟩) hHeld ?_
    rotate_left
    · ((try dsimp only at hSw); go_split_ands; go_simp; (try with_reducible rfl))
    try simp only [Act.put, List.getElem_toArray, List.getElem_cons_zero, List.getElem_cons_succ, List.setIfInBounds_toArray, List.set_cons_zero, List.set_cons_succ]
    refine wpAnyH_ready (rs := [2]) (by kernel_rfl) (by simp) ?_
    refine AllReadyH.cons rfl (fun K hK => ?_) AllReadyH.nil
    try simp only [List.getElem_toArray, List.getElem_cons_zero, List.getElem_cons_succ]
    (go_simp; refine (c_impl_caseList x.1 _ hx9.out).mono ?_; rintro e w2 ⟨r, rfl, o, hB1⟩; obtain ⟨A3, n3, rfl, -⟩ := o.reads; have hB2 := bgo (w := V) (by repeat (first | (with_reducible exact Below.refl _ _) | (with_reducible assumption) | (with_reducible apply bbox) | ((with_reducible apply Below.setCell); (case hp => (first | exact Nat.le_refl _ | (simp; done) | (simp; omega) | (simp only; omega) | omega))) | (with_reducible apply Below.drew) | (with_reducible apply below_drewN))) hB1; have o2 := o.lower (base' := V.heap.size) (by simp); replace kR := Blk.next (g := w1.heap.size) (by repeat (first | (with_reducible assumption) | (with_reducible exact Blk.new _ _ _) | ((with_reducible apply Blk.far); (case hp => (first | exact Nat.le_refl _ | (simp; done) | (simp; omega) | (simp only; omega) | omega))) | (with_reducible apply Blk.set_) | ((with_reducible refine Blk.newE ?_); (simp; done)) | (with_reducible apply Blk.alloc) | (with_reducible apply Blk.drew) | (with_reducible apply Blk.drewN))) hB1; replace kX := Blk.next (g := W.heap.size) (by repeat (first | (with_reducible assumption) | (with_reducible exact Blk.new _ _ _) | ((with_reducible apply Blk.far); (case hp => (first | exact Nat.le_refl _ | (simp; done) | (simp; omega) | (simp only; omega) | omega))) | (with_reducible apply Blk.set_) | ((with_reducible refine Blk.newE ?_); (simp; done)) | (with_reducible apply Blk.alloc) | (with_reducible apply Blk.drew) | (with_reducible apply Blk.drewN))) hB1; clear o hB1)
    refine hK.out _ _ (⟨Blk.cell (by repeat (first | (with_reducible assumption) | (with_reducible exact Blk.new _ _ _) | ((with_reducible apply Blk.far); (case hp => (first | exact Nat.le_refl _ | (simp; done) | (simp; omega) | (simp only; omega) | omega))) | (with_reducible apply Blk.set_) | ((with_reducible refine Blk.newE ?_); (simp; done)) | (with_reducible apply Blk.alloc) | (with_reducible apply Blk.drew) | (with_reducible apply Blk.drewN))), Blk.cell (by repeat (first | (with_reducible assumption) | (with_reducible exact Blk.new _ _ _) | ((with_reducible apply Blk.far); (case hp => (first | exact Nat.le_refl _ | (simp; done) | (simp; omega) | (simp only; omega) | omega))) | (with_reducible apply Blk.set_) | ((with_reducible refine Blk.newE ?_); (simp; done)) | (with_reducible apply Blk.alloc) | (with_reducible apply Blk.drew) | (with_reducible apply Blk.drewN)))⟩) (fun hHeldN => ?_)
    clear hHeld hK K
    have hHeld := hHeldN
    clear hHeldN
    try simp only [Act.put, List.getElem_toArray, List.getElem_cons_zero, List.getElem_cons_succ, List.setIfInBounds_toArray, List.set_cons_zero, List.set_cons_succ]
    refine wpAnyH_ready (rs := [3]) (by kernel_rfl) (by simp) ?_
    refine AllReadyH.cons rfl (fun K hK => ?_) AllReadyH.nil
    try simp only [List.getElem_toArray, List.getElem_cons_zero, List.getElem_cons_succ]
    go_simp
    refine hK.out _ _ (⟨Blk.cell (by repeat (first | (with_reducible assumption) | (with_reducible exact Blk.new _ _ _) | ((with_reducible apply Blk.far); (case hp => (first | exact Nat.le_refl _ | (simp; done) | (simp; omega) | (simp only; omega) | omega))) | (with_reducible apply Blk.set_) | ((with_reducible refine Blk.newE ?_); (simp; done)) | (with_reducible apply Blk.alloc) | (with_reducible apply Blk.drew) | (with_reducible apply Blk.drewN))), Blk.cell (by repeat (first | (with_reducible assumption) | (with_reducible exact Blk.new _ _ _) | ((with_reducible apply Blk.far); (case hp => (first | exact Nat.le_refl _ | (simp; done) | (simp; omega) | (simp only; omega) | omega))) | (with_reducible apply Blk.set_) | ((with_reducible refine Blk.newE ?_); (simp; done)) | (with_reducible apply Blk.alloc) | (with_reducible apply Blk.drew) | (with_reducible apply Blk.drewN)))⟩) (fun hHeldN => ?_)
    clear hHeld hK K
    have hHeld := hHeldN
    clear hHeldN
    try simp only [Act.put, List.getElem_toArray, List.getElem_cons_zero, List.getElem_cons_succ, List.setIfInBounds_toArray, List.set_cons_zero, List.set_cons_succ]
    refine wpAnyH_ready (rs := [4]) (by kernel_rfl) (by simp) ?_
    refine AllReadyH.cons rfl (fun K hK => ?_) AllReadyH.nil
    skip
    (refine stepSS (w0 := V) (base := w.heap.size) rfl _ _ rfl rfl HS.out (by repeat (first | (with_reducible exact Below.refl _ _) | (with_reducible assumption) | (with_reducible apply bbox) | ((with_reducible apply Below.setCell); (case hp => (first | exact Nat.le_refl _ | (simp; done) | (simp; omega) | (simp only; omega) | omega))) | (with_reducible apply Below.drew) | (with_reducible apply below_drewN))) (by omega) (IntsO.below o2 (by repeat (first | (with_reducible exact Below.refl _ _) | (with_reducible assumption) | (with_reducible apply bbox) | ((with_reducible apply Below.setCell); (case hp => (first | exact Nat.le_refl _ | (simp; done) | (simp; omega) | (simp only; omega) | omega))) | (with_reducible apply Below.drew) | (with_reducible apply below_drewN)))) (Blk.new w2 tIS _) rfl (by simpa using hpl) ?_; intro A' c' w6 hS6 hg6 hB6; have hKX : KX V w6 := KX.trans (KX.of (w := V) (by repeat (first | (with_reducible exact Below.refl _ _) | (with_reducible assumption) | (with_reducible apply bbox) | ((with_reducible apply Below.setCell); (case hp => (first | exact Nat.le_refl _ | (simp; done) | (simp; omega) | (simp only; omega) | omega))) | (with_reducible apply Below.drew) | (with_reducible apply below_drewN)))) (KX.app (own_below HS.out.row (w' := w2.alloc _) (by repeat (first | (with_reducible exact Below.refl _ _) | (with_reducible assumption) | (with_reducible apply bbox) | ((with_reducible apply Below.setCell); (case hp => (first | exact Nat.le_refl _ | (simp; done) | (simp; omega) | (simp only; omega) | omega))) | (with_reducible apply Below.drew) | (with_reducible apply below_drewN)))) hg6); replace kR := (KX.app (own_below HS.out.row (w' := w2.alloc _) (by repeat (first | (with_reducible exact Below.refl _ _) | (with_reducible assumption) | (with_reducible apply bbox) | ((with_reducible apply Below.setCell); (case hp => (first | exact Nat.le_refl _ | (simp; done) | (simp; omega) | (simp only; omega) | omega))) | (with_reducible apply Below.drew) | (with_reducible apply below_drewN)))) hg6).blk (kR.alloc _) (by decide); replace kX := (KX.app (own_below HS.out.row (w' := w2.alloc _) (by repeat (first | (with_reducible exact Below.refl _ _) | (with_reducible assumption) | (with_reducible apply bbox) | ((with_reducible apply Below.setCell); (case hp => (first | exact Nat.le_refl _ | (simp; done) | (simp; omega) | (simp only; omega) | omega))) | (with_reducible apply Below.drew) | (with_reducible apply below_drewN)))) hg6).blk (kX.alloc _) (by decide); have rR := kR.frozen)
    refine hK.out _ _ (⟨kR.cell, kX.cell⟩) (fun hHeldN => ?_)
    clear hHeld hK K
    have hHeld := hHeldN
    clear hHeldN
    try simp only [Act.put, List.getElem_toArray, List.getElem_cons_zero, List.getElem_cons_succ, List.setIfInBounds_toArray, List.set_cons_zero, List.set_cons_succ]
    refine wpAnyH_ready (rs := [5]) (by kernel_rfl) (by simp) ?_
    refine AllReadyH.cons rfl (fun K hK => ?_) AllReadyH.nil
    go_simp
    refine hK.out _ _ (⟨kR.cell, kX.cell⟩) (fun hHeld => ?_)
    clear hK K
    refine wpAnyH_done (by kernel_rfl) ?_ _
    unfold lastQ
    go_simp
    refine NoPanic.normal ?_
    have hB7 : Below w.heap.size V w6 := Below.trans (btoB (w := V) (by repeat (first | (with_reducible exact Below.refl _ _) | (with_reducible assumption) | (with_reducible apply bbox) | ((with_reducible apply Below.setCell); (case hp => (first | exact Nat.le_refl _ | (simp; done) | (simp; omega) | (simp only; omega) | omega))) | (with_reducible apply Below.drew) | (with_reducible apply below_drewN))) (by omega)) hB6
    have hS7 : SSO w6 w.heap.size (.slice A' ((pre ++ [x]).length) c') (vs ++ [.slice A3 x.1.length n3]) ((pre ++ [x]).map Subtype.val) := by simpa using hS6
    have el : pre.length + 1 = (pre ++ [x]).length := by simp
    rw [el]
    exact ⟨(hKX.keeps.trans (KeepsOthers.setCell _ _ _)).from _, (hKX.kept hB7 (by decide) (by decide)).trans (Kept.set kR (by omega) (by decide) (by decide) 0 _),
      _, A', c', hS7.setT kR (by decide) (by decide) 0 _, kR.set_ 0 _, (hB'.trans hB7).setCell (p := ⟨w1.heap.size, 0, none⟩) (by simp only; omega) _⟩
  case done =>
    rintro D ys W hD hYS ⟨vs, A, c, hS, kR, hB⟩ hK
    have qR := kR.cell
    have lR := kR.lt
    gi_wp2
    refine ⟨by simp, .inl ⟨_, _, rfl, run_takeDeferred hK, ?_⟩⟩
    refine ⟨.slice A ys.length c, by simp [results, Try.f36, go_sem], _, rfl, ⟨⟨vs, ?_⟩, casesV_tot a⟩, hB.trans (belowK_b (w := w) (Nat.le_refl _) W D _ _ (by omega) hK rfl rfl)⟩
    rw [show casesV a = ys.map Subtype.val from by rw [hYS]; unfold casesV; rw [if_pos HV.out]]
    exact hS.turn (T := tC) (B := D) (grownBy_putObj' _ D _) (fun r e => by cases e; exact ⟨Nat.le_refl _, _, hK, Or.inl rfl⟩) (by decide) (by decide)
  case stop =>
    rintro D c pre W hD hS h hK
    exact h.elim
end Go.Proofs.Ytdhllcejahdjfaa
