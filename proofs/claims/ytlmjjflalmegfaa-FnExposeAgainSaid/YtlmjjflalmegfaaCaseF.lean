/- Contracts: the spec's cases: filled atoms, the open case. -/
import Derived.Test.YtlmjjflalmegfaaMCaseS
set_option linter.unusedSimpArgs false
set_option linter.unusedVariables false
namespace Go.Proofs.Ytlmjjflalmegfaa
open Go Go.RowKit Go.Proofs
attribute [local go_sem ↓] Go.wp_at_zero Go.wp_at_succ

--@ spec.l5Filled
set_option maxRecDepth 100000 in
set_option maxHeartbeats 3200000 in
theorem c_spec_l5Filled {lo hi lo' hi' : Nat} (A B : Option Addr) (c0 c1 : Nat) (xs : List Atm) (c : List Int) (w : World) (h : AtomsV w lo hi A xs) (h' : IntsV w lo' hi' B c) (hc : c.length = 9) (hx : AtomsOk xs) :
    Calls Try.prog 141 #[.slice A xs.length c0, .slice B c.length c1] w fun e w' => ∃ r, e = .returned r ∧ AtomsO w' w.heap.size r (filledL xs c) ∧ Below w.heap.size w w' := by
  have hl := h.le
  obtain ⟨pb, ob, rfl, lpb⟩ := h'.blt (k := 0) (by omega)
  have HC := Lib.hid hc
  have HX := Lib.hid hx
  have H' := Lib.hid h'
  clear hx h'
  rw [hc]
  clear hc
  go_enter Try.func141, Try.ntmps141
  go_wp2_with fail
  go_loopw [5, 6] (fun r i wr => ∃ (k : Nat) (D : Option Addr) (n e : Nat), k ≤ xs.length ∧ i = .int .i64 k ∧ n = (filledL (xs.take k) c).length ∧ r = .slice D n e ∧ AtomsO wr w.heap.size (.slice D n e) (filledL (xs.take k) c) ∧ Below w.heap.size w wr) (fun _ i _ => xs.length - (intOf i).toNat)
  case atStart => exact ⟨0, some ⟨w.heap.size, 0, none⟩, 0, 0, Nat.zero_le _, rfl, rfl, rfl, AtomsO.empty w, bel⟩
  case round =>
    obtain ⟨k, D, n, e, hkk, rfl, hn, rfl, of, hB⟩ := hrel
    have HN := Lib.hid hn
    have hnl : n ≤ k := by
      rw [hn]; exact Nat.le_trans (filledL_len _ _) (by simp; omega)
    clear hn
    by_cases hlt : k < xs.length
    · obtain ⟨b, off, rfl, hbl⟩ := h.blt hlt
      have HH := Lib.hid h
      have HT := Lib.hid (filledL_take xs c k hlt)
      have hxk := HX.out _ (List.getElem_mem hlt)
      obtain ⟨x, hxe⟩ : ∃ x, x = xs[k] := ⟨_, rfl⟩
      have HCL : Hid (∀ w' : World, Below w.heap.size w w' → w'.cell? ⟨b, off + k*3, none⟩ = some (.int .i64 x.kind) ∧ w'.cell? ⟨b, off + k*3 + 1, none⟩ = some (.int .i64 x.a) ∧ w'.cell? ⟨b, off + k*3 + 2, none⟩ = some (.int .i64 x.b)) := fun w' hw' => by rw [hxe]; exact (HH.out.below hw').cl hlt
      rw [← hxe] at HT hxk
      clear hxe
      obtain ⟨q, xa, xb⟩ := x
      dsimp only at hxk HCL
      obtain ⟨⟨a1, a2⟩, ⟨b1, b2⟩⟩ := hxk
      obtain ⟨xa, rfl⟩ := Int.eq_ofNat_of_zero_le a1
      obtain ⟨xb, rfl⟩ := Int.eq_ofNat_of_zero_le b1
      have ha9 : (xa : Int) < 9 := by omega
      have hb9 : (xb : Int) < 9 := by omega
      have HCI : Hid (∀ w' : World, Below w.heap.size w w' → w'.cell? ⟨pb, ob + xa, none⟩ = some (.int .i64 (cl c xa)) ∧ w'.cell? ⟨pb, ob + xb, none⟩ = some (.int .i64 (cl c xb))) := fun w' hw' => ⟨ints_cl (H'.out.below hw') (by rw [HC.out]; omega), ints_cl (H'.out.below hw') (by rw [HC.out]; omega)⟩
      have hwz := hB.size
      have hlx : (k : Int) < (xs.length : Int) := by omega
      clear a1 a2 b1 b2 h
      have HS : Hid (∀ w' : World, Below w.heap.size w w' → (w'.cell? ⟨b, off + k*3, none⟩ = some (.int .i64 q) ∧ w'.cell? ⟨b, off + k*3 + 1, none⟩ = some (.int .i64 xa) ∧ w'.cell? ⟨b, off + k*3 + 2, none⟩ = some (.int .i64 xb)) ∧ w'.cell? ⟨pb, ob + xa, none⟩ = some (.int .i64 (cl c xa)) ∧ w'.cell? ⟨pb, ob + xb, none⟩ = some (.int .i64 (cl c xb))) := fun w' hw' => ⟨HCL.out w' hw', HCI.out w' hw'⟩
      go_wp2_with fail
      refine wp_region_noPanic ?_
      refine wp_region_held_drew (S := (fun w' => (w'.cell? ⟨b, off + k*3, none⟩ = some (.int .i64 q) ∧ w'.cell? ⟨b, off + k*3 + 1, none⟩ = some (.int .i64 xa) ∧ w'.cell? ⟨b, off + k*3 + 2, none⟩ = some (.int .i64 xb)) ∧ w'.cell? ⟨pb, ob + xa, none⟩ = some (.int .i64 (cl c xa)) ∧ w'.cell? ⟨pb, ob + xb, none⟩ = some (.int .i64 (cl c xb)))) (by kernel_rfl) (HS.out _ bel) (fun hHeld => ?_)
      refine wpAnyH_take (i := 0) (v := ?_) rfl (by kernel_rfl) (by kernel_rfl) (by kernel_rfl) (fun _ _ _ h => h) (Or.inl ⟨by rfl, fun w hSw => ?_⟩) hHeld ?_
      rotate_left
      · ((try dsimp only at hSw); go_split_ands; go_simp; (try with_reducible rfl))
      try simp only [Act.put, List.getElem_toArray, List.getElem_cons_zero, List.getElem_cons_succ, List.setIfInBounds_toArray, List.set_cons_zero, List.set_cons_succ]
      refine wpAnyH_take (i := 1) (v := ?_) rfl (by kernel_rfl) (by kernel_rfl) (by kernel_rfl) (fun _ _ _ h => h) (Or.inl ⟨by rfl, fun w hSw => ?_⟩) hHeld ?_
      rotate_left
      · ((try dsimp only at hSw); go_split_ands; go_simp; (try with_reducible rfl))
      try simp only [Act.put, List.getElem_toArray, List.getElem_cons_zero, List.getElem_cons_succ, List.setIfInBounds_toArray, List.set_cons_zero, List.set_cons_succ]
      refine wpAnyH_take (i := 2) (v := ?_) rfl (by kernel_rfl) (by kernel_rfl) (by kernel_rfl) (fun _ _ _ h => h) (Or.inl ⟨by rfl, fun w hSw => ?_⟩) hHeld ?_
      rotate_left
      · ((try dsimp only at hSw); go_split_ands; go_simp; (try with_reducible rfl))
      try simp only [Act.put, List.getElem_toArray, List.getElem_cons_zero, List.getElem_cons_succ, List.setIfInBounds_toArray, List.set_cons_zero, List.set_cons_succ]
      refine wpAnyH_take (i := 3) (v := ?_) rfl (by kernel_rfl) (by kernel_rfl) (by kernel_rfl) (fun _ _ _ h => h) (Or.inl ⟨by rfl, fun w hSw => ?_⟩) hHeld ?_
      rotate_left
      · ((try dsimp only at hSw); go_split_ands; go_simp; (try with_reducible rfl))
      try simp only [Act.put, List.getElem_toArray, List.getElem_cons_zero, List.getElem_cons_succ, List.setIfInBounds_toArray, List.set_cons_zero, List.set_cons_succ]
      refine wpAnyH_take (i := 4) (v := ?_) rfl (by kernel_rfl) (by kernel_rfl) (by kernel_rfl) (fun _ _ _ h => h) (Or.inl ⟨by rfl, fun w hSw => ?_⟩) hHeld ?_
      rotate_left
      · ((try dsimp only at hSw); go_split_ands; go_simp; (try with_reducible rfl))
      try simp only [Act.put, List.getElem_toArray, List.getElem_cons_zero, List.getElem_cons_succ, List.setIfInBounds_toArray, List.set_cons_zero, List.set_cons_succ]
      refine wpAnyH_take (i := 5) (v := ?_) rfl (by kernel_rfl) (by kernel_rfl) (by kernel_rfl) (fun _ _ _ h => h) (Or.inl ⟨by rfl, fun w hSw => ?_⟩) hHeld ?_
      rotate_left
      · ((try dsimp only at hSw); go_split_ands; go_simp; (try with_reducible rfl))
      try simp only [Act.put, List.getElem_toArray, List.getElem_cons_zero, List.getElem_cons_succ, List.setIfInBounds_toArray, List.set_cons_zero, List.set_cons_succ]
      refine wpAnyH_take (i := 6) (v := ?_) rfl (by kernel_rfl) (by kernel_rfl) (by kernel_rfl) (fun _ _ _ h => h) (Or.inl ⟨by rfl, fun w hSw => ?_⟩) hHeld ?_
      rotate_left
      · ((try dsimp only at hSw); go_split_ands; go_simp; (try with_reducible rfl))
      try simp only [Act.put, List.getElem_toArray, List.getElem_cons_zero, List.getElem_cons_succ, List.setIfInBounds_toArray, List.set_cons_zero, List.set_cons_succ]
      refine wpAnyH_take (i := 7) (v := ?_) rfl (by kernel_rfl) (by kernel_rfl) (by kernel_rfl) (fun _ _ _ h => h) (Or.inl ⟨by rfl, fun w hSw => ?_⟩) hHeld ?_
      rotate_left
      · ((try dsimp only at hSw); go_split_ands; go_simp; (try with_reducible rfl))
      try simp only [Act.put, List.getElem_toArray, List.getElem_cons_zero, List.getElem_cons_succ, List.setIfInBounds_toArray, List.set_cons_zero, List.set_cons_succ]
      refine wpAnyH_take (i := 8) (v := ?_) rfl (by kernel_rfl) (by kernel_rfl) (by kernel_rfl) (fun _ _ _ h => h) (Or.inl ⟨by rfl, fun w hSw => ?_⟩) hHeld ?_
      rotate_left
      · ((try dsimp only at hSw); go_split_ands; go_simp; (try with_reducible rfl))
      try simp only [Act.put, List.getElem_toArray, List.getElem_cons_zero, List.getElem_cons_succ, List.setIfInBounds_toArray, List.set_cons_zero, List.set_cons_succ]
      refine wpAnyH_take (i := 9) (v := ?_) rfl (by kernel_rfl) (by kernel_rfl) (by kernel_rfl) (fun _ _ _ h => h) (Or.inl ⟨by rfl, fun w hSw => ?_⟩) hHeld ?_
      rotate_left
      · ((try dsimp only at hSw); go_split_ands; go_simp; (try with_reducible rfl))
      try simp only [Act.put, List.getElem_toArray, List.getElem_cons_zero, List.getElem_cons_succ, List.setIfInBounds_toArray, List.set_cons_zero, List.set_cons_succ]
      refine wpAnyH_take (i := 10) (v := ?_) rfl (by kernel_rfl) (by kernel_rfl) (by kernel_rfl) (fun _ _ _ h => h) (Or.inl ⟨by rfl, fun w hSw => ?_⟩) hHeld ?_
      rotate_left
      · ((try dsimp only at hSw); go_split_ands; go_simp; (try with_reducible rfl))
      try simp only [Act.put, List.getElem_toArray, List.getElem_cons_zero, List.getElem_cons_succ, List.setIfInBounds_toArray, List.set_cons_zero, List.set_cons_succ]
      refine wpAnyH_take (i := 11) (v := ?_) rfl (by kernel_rfl) (by kernel_rfl) (by kernel_rfl) (fun _ _ _ h => h) (Or.inl ⟨by rfl, fun w hSw => ?_⟩) hHeld ?_
      rotate_left
      · ((try dsimp only at hSw); go_split_ands; go_simp; (try with_reducible rfl))
      try simp only [Act.put, List.getElem_toArray, List.getElem_cons_zero, List.getElem_cons_succ, List.setIfInBounds_toArray, List.set_cons_zero, List.set_cons_succ]
      refine wpAnyH_take (i := 12) (v := ?_) rfl (by kernel_rfl) (by kernel_rfl) (by kernel_rfl) (fun _ _ _ h => h) (Or.inl ⟨by rfl, fun w hSw => ?_⟩) hHeld ?_
      rotate_left
      · ((try dsimp only at hSw); go_split_ands; go_simp; (try with_reducible rfl))
      try simp only [Act.put, List.getElem_toArray, List.getElem_cons_zero, List.getElem_cons_succ, List.setIfInBounds_toArray, List.set_cons_zero, List.set_cons_succ]
      refine wpAnyH_take (i := 13) (v := ?_) rfl (by kernel_rfl) (by kernel_rfl) (by kernel_rfl) (fun _ _ _ h => h) (Or.inl ⟨by rfl, fun w hSw => ?_⟩) hHeld ?_
      rotate_left
      · ((try dsimp only at hSw); go_split_ands; go_simp; (try with_reducible rfl))
      try simp only [Act.put, List.getElem_toArray, List.getElem_cons_zero, List.getElem_cons_succ, List.setIfInBounds_toArray, List.set_cons_zero, List.set_cons_succ]
      refine wpAnyH_take (i := 14) (v := ?_) rfl (by kernel_rfl) (by kernel_rfl) (by kernel_rfl) (fun _ _ _ h => h) (Or.inl ⟨by rfl, fun w hSw => ?_⟩) hHeld ?_
      rotate_left
      · ((try dsimp only at hSw); go_split_ands; go_simp; (try with_reducible rfl))
      try simp only [Act.put, List.getElem_toArray, List.getElem_cons_zero, List.getElem_cons_succ, List.setIfInBounds_toArray, List.set_cons_zero, List.set_cons_succ]
      refine wpAnyH_take (i := 15) (v := ?_) rfl (by kernel_rfl) (by kernel_rfl) (by kernel_rfl) (fun _ _ _ h => h) (Or.inl ⟨by rfl, fun w hSw => ?_⟩) hHeld ?_
      rotate_left
      · ((try dsimp only at hSw); go_split_ands; go_simp; (try with_reducible rfl))
      try simp only [Act.put, List.getElem_toArray, List.getElem_cons_zero, List.getElem_cons_succ, List.setIfInBounds_toArray, List.set_cons_zero, List.set_cons_succ]
      refine wpAnyH_take (i := 16) (v := ?_) rfl (by kernel_rfl) (by kernel_rfl) (by kernel_rfl) (fun _ _ _ h => h) (Or.inl ⟨by rfl, fun w hSw => ?_⟩) hHeld ?_
      rotate_left
      · ((try dsimp only at hSw); go_split_ands; go_simp; (try with_reducible rfl))
      try simp only [Act.put, List.getElem_toArray, List.getElem_cons_zero, List.getElem_cons_succ, List.setIfInBounds_toArray, List.set_cons_zero, List.set_cons_succ]
      refine wpAnyH_take (i := 17) (v := ?_) rfl (by kernel_rfl) (by kernel_rfl) (by kernel_rfl) (fun _ _ _ h => h) (Or.inl ⟨by rfl, fun w hSw => ?_⟩) hHeld ?_
      rotate_left
      · ((try dsimp only at hSw); go_split_ands; go_simp; (try with_reducible rfl))
      try simp only [Act.put, List.getElem_toArray, List.getElem_cons_zero, List.getElem_cons_succ, List.setIfInBounds_toArray, List.set_cons_zero, List.set_cons_succ]
      refine wpAnyH_take (i := 18) (v := ?_) rfl (by kernel_rfl) (by kernel_rfl) (by kernel_rfl) (fun _ _ _ h => h) (Or.inl ⟨by rfl, fun w hSw => ?_⟩) hHeld ?_
      rotate_left
      · ((try dsimp only at hSw); go_split_ands; go_simp; (try with_reducible rfl))
      try simp only [Act.put, List.getElem_toArray, List.getElem_cons_zero, List.getElem_cons_succ, List.setIfInBounds_toArray, List.set_cons_zero, List.set_cons_succ]
      refine wpAnyH_take (i := 19) (v := ?_) rfl (by kernel_rfl) (by kernel_rfl) (by kernel_rfl) (fun _ _ _ h => h) (Or.inl ⟨by rfl, fun w hSw => ?_⟩) hHeld ?_
      rotate_left
      · ((try dsimp only at hSw); go_split_ands; go_simp; (try with_reducible rfl))
      try simp only [Act.put, List.getElem_toArray, List.getElem_cons_zero, List.getElem_cons_succ, List.setIfInBounds_toArray, List.set_cons_zero, List.set_cons_succ]
      refine wpAnyH_take (i := 20) (v := ?_) rfl (by kernel_rfl) (by kernel_rfl) (by kernel_rfl) (fun _ _ _ h => h) (Or.inl ⟨by rfl, fun w hSw => ?_⟩) hHeld ?_
      rotate_left
      · ((try dsimp only at hSw); go_split_ands; go_simp; (try with_reducible rfl))
      try simp only [Act.put, List.getElem_toArray, List.getElem_cons_zero, List.getElem_cons_succ, List.setIfInBounds_toArray, List.set_cons_zero, List.set_cons_succ]
      refine wpAnyH_take (i := 21) (v := ?_) rfl (by kernel_rfl) (by kernel_rfl) (by kernel_rfl) (fun _ _ _ h => h) (Or.inl ⟨by rfl, fun w hSw => ?_⟩) hHeld ?_
      rotate_left
      · ((try dsimp only at hSw); go_split_ands; go_simp; (try with_reducible rfl))
      try simp only [Act.put, List.getElem_toArray, List.getElem_cons_zero, List.getElem_cons_succ, List.setIfInBounds_toArray, List.set_cons_zero, List.set_cons_succ]
      refine wpAnyH_ready (rs := [22]) (by kernel_rfl) (by simp) ?_
      refine AllReadyH.cons rfl (fun K hK => ?_) AllReadyH.nil
      try simp only [List.getElem_toArray, List.getElem_cons_zero, List.getElem_cons_succ]
      go_simp
      refine hK.out _ _ (HS.out _ bel) (fun hHeldN => ?_)
      clear hHeld hK K
      have hHeld := hHeldN
      clear hHeldN
      try simp only [Act.put, List.getElem_toArray, List.getElem_cons_zero, List.getElem_cons_succ, List.setIfInBounds_toArray, List.set_cons_zero, List.set_cons_succ]
      refine wpAnyH_ready (rs := [23]) (by kernel_rfl) (by simp) ?_
      refine AllReadyH.cons rfl (fun K hK => ?_) AllReadyH.nil
      try simp only [List.getElem_toArray, List.getElem_cons_zero, List.getElem_cons_succ]
      go_simp
      refine hK.out _ _ (HS.out _ bel) (fun hHeldN => ?_)
      clear hHeld hK K
      have hHeld := hHeldN
      clear hHeldN
      try simp only [Act.put, List.getElem_toArray, List.getElem_cons_zero, List.getElem_cons_succ, List.setIfInBounds_toArray, List.set_cons_zero, List.set_cons_succ]
      refine wpAnyH_done (by kernel_rfl) ?_ _
      refine NoPanic.normal ?_
      clear hHeld
      have kx : Blk (wr.alloc (.cells #[.int .i64 q, .int .i64 (cl c xa), .int .i64 (cl c xb)] tA)).drew wr.heap.size tA #[.int .i64 q, .int .i64 (cl c xa), .int .i64 (cl c xb)] := blks
      have hB2 : Below w.heap.size w (wr.alloc (.cells #[.int .i64 q, .int .i64 (cl c xa), .int .i64 (cl c xb)] tA)).drew := bel
      have of2 := of.below (w' := (wr.alloc (.cells #[.int .i64 q, .int .i64 (cl c xa), .int .i64 (cl c xb)] tA)).drew) bel
      have hz2 : wr.heap.size < (wr.alloc (.cells #[.int .i64 q, .int .i64 (cl c xa), .int .i64 (cl c xb)] tA)).drew.heap.size := kx.lt
      generalize (wr.alloc (.cells #[.int .i64 q, .int .i64 (cl c xa), .int .i64 (cl c xb)] tA)).drew = W2 at kx hB2 of2 hz2 ⊢
      have HF : Hid (∀ s t : Bool, (q == 1) = s → (cl c xa == cl c xb) = t → filledL (xs.take (k + 1)) c = filledL (xs.take k) c ++ if (s || !t) then [⟨q, cl c xa, cl c xb⟩] else []) := by
        intro s t hs ht
        rw [HT.out]
        have : Atm.fill c ⟨q, xa, xb⟩ = (s || !t) := by rw [← hs, ← ht]; rfl
        rw [this]; rfl
      have qx := kx.cell
      obtain ⟨u, hu⟩ : ∃ u, u = cl c xa := ⟨_, rfl⟩
      obtain ⟨v, hv⟩ : ∃ v, v = cl c xb := ⟨_, rfl⟩
      rw [← hu, ← hv] at kx qx HF ⊢
      clear hu hv HT HS HCI HCL of hB
      cases hq : (q == 1)
      · cases hab : (u == v)
        · have HZ : Hid (filledL (xs.take (k + 1)) c = filledL (xs.take k) c ++ [⟨q, u, v⟩]) := HF.out _ _ hq hab
          go_wp2_with (at_builtin; refine appAL rfl _ _ rfl (v := .slice D n e) rfl (of2.below (w' := W2.alloc (.cells #[.int .i64 q, .int .i64 u, .int .i64 v] tA)) bel) rfl (AtomsV.one' (Blk.newE rfl)) (by simp only [List.length_cons, List.length_nil]; rw [← HN.out]; omega) (by simp; omega) ?_; intro A' c' w2 of3 hg2 hB3)
          go_round
          case rel => exact ⟨k + 1, A', _, c', by omega, by go_num, rfl, by rw [HZ.out]; simp, by rw [HZ.out]; exact of3, Below.trans (bbox hB2 _) (hB3.mono (Nat.le_refl _))⟩
          case measure => simp [intOf]; omega
        · have HZ : Hid (filledL (xs.take (k + 1)) c = filledL (xs.take k) c ++ []) := HF.out _ _ hq hab
          go_wp2_with fail
          go_round
          case rel => exact ⟨k + 1, D, n, e, by omega, by go_num, by rw [HZ.out, List.append_nil]; exact HN.out, rfl, by rw [HZ.out, List.append_nil]; exact of2, hB2⟩
          case measure => simp [intOf]; omega
      · have HZ : Hid (filledL (xs.take (k + 1)) c = filledL (xs.take k) c ++ [⟨q, u, v⟩]) := HF.out _ _ hq rfl
        go_wp2_with (at_builtin; refine appAL rfl _ _ rfl (v := .slice D n e) rfl (of2.below (w' := W2.alloc (.cells #[.int .i64 q, .int .i64 u, .int .i64 v] tA)) bel) rfl (AtomsV.one' (Blk.newE rfl)) (by simp only [List.length_cons, List.length_nil]; rw [← HN.out]; omega) (by simp; omega) ?_; intro A' c' w2 of3 hg2 hB3)
        go_round
        case rel => exact ⟨k + 1, A', _, c', by omega, by go_num, rfl, by rw [HZ.out]; simp, by rw [HZ.out]; exact of3, Below.trans (bbox hB2 _) (hB3.mono (Nat.le_refl _))⟩
        case measure => simp [intOf]; omega
    · obtain rfl : k = xs.length := by omega
      go_wp2_with fail
      go_ret
      refine ⟨_, rfl, ?_, hB⟩
      rw [List.take_length] at of
      exact of

--@ spec.l5Open
theorem opened_take (n : Nat) (h1 : 1 ≤ n) (h9 : n < 9) : opened.take (n + 1) = opened.take n ++ [-1] := by
  obtain rfl | rfl | rfl | rfl | rfl | rfl | rfl | rfl : n = 1 ∨ n = 2 ∨ n = 3 ∨ n = 4 ∨ n = 5 ∨ n = 6 ∨ n = 7 ∨ n = 8 := by omega
  all_goals rfl
set_option maxHeartbeats 1600000 in
theorem c_spec_l5Open (w : World) :
    Calls Try.prog 113 #[] w fun e w' => ∃ r, e = .returned r ∧ IntsO w' w.heap.size r opened ∧ Below w.heap.size w w' := by
  go_enter Try.func113, Try.ntmps113
  go_wp2_with fail
  go_loopw [1] (fun r wr => ∃ (n : Nat) (D : Option Addr) (e : Nat), 1 ≤ n ∧ n ≤ 9 ∧ r = .slice D n e ∧ IntsO wr w.heap.size (.slice D n e) (opened.take n) ∧ Below w.heap.size w wr) (fun r _ => match r with | .slice _ n _ => 9 - n | _ => 0)
  case atStart => exact ⟨1, some ⟨w.heap.size, 0, none⟩, 1, by omega, by omega, rfl, IntsO.one w 0 (Nat.le_refl _), bel⟩
  case round =>
    obtain ⟨n, D, e, h1, h9, rfl, o, hB⟩ := hrel
    have hwz := hB.size
    by_cases hlt : n < 9
    · have hn8 : (n : Int) ≤ 8 := by omega
      have HT := Lib.hid (opened_take n h1 hlt)
      have hll : Hid ((opened.take n).length = n) := by show _ = _; rw [List.length_take]; show min n 9 = n; omega
      have o1 := o.below (w' := wr.alloc (.cells #[.int .i64 (-1)] tI)) bel
      go_wp2_with (at_builtin; refine appI rfl _ _ rfl (v := .slice D n e) rfl o1 wr.heap.size (-1) rfl (cell_box _ _ _) (by rw [hll.out]; omega) (by simp; omega) ?_; intro g cc w2 o2 hg2 hB3; rw [hll.out, ← HT.out] at o2; rw [hll.out])
      go_round
      case rel => exact ⟨n + 1, _, _, by omega, by omega, rfl, o2, Below.trans bel hB3⟩
      case measure => simp; omega
    · obtain rfl : n = 9 := by omega
      go_wp2_with fail
      go_ret
      exact ⟨_, rfl, o, hB⟩
end Go.Proofs.Ytlmjjflalmegfaa
