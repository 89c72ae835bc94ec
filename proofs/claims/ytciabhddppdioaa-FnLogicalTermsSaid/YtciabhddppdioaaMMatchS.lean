/- Contracts: the spec's cases: filled atoms, the open case. -/
import Derived.Test.YtciabhddppdioaaCaseS
import Derived.Test.YtciabhddppdioaaMModel
import Derived.Test.YtciabhddppdioaaMCmdG
import Derived.Deep.RegionHeld3
import Derived.Test.YtciabhddppdioaaMIntSS
import Derived.Test.YtciabhddppdioaaMMatch
import Derived.Deep.LoopGhost
set_option linter.unusedSimpArgs false
set_option linter.unusedVariables false
namespace Go.Proofs.Ytciabhddppdioaa
open Go Go.RowKit Go.Proofs
attribute [local go_sem ↓] Go.wp_at_zero Go.wp_at_succ

--@ spec.l5Filled
set_option maxRecDepth 100000 in
set_option maxHeartbeats 3200000 in
theorem c_spec_l5Filled {lo hi lo' hi' : Nat} (A B : Option Addr) (c0 c1 : Nat) (xs : List Atm) (c : List Int) (w : World) (h : AtomsV w lo hi A xs) (h' : IntsV w lo' hi' B c) (hc : c.length = 9) (hx : AtomsOk xs) :
    Calls Try.prog 133 #[.slice A xs.length c0, .slice B c.length c1] w fun e w' => ∃ r, e = .returned r ∧ AtomsO w' w.heap.size r (filledL xs c) ∧ Below w.heap.size w w' := by
  have hl := h.le
  obtain ⟨pb, ob, rfl, lpb⟩ := h'.blt (k := 0) (by omega)
  have HC := Lib.hid hc
  have HX := Lib.hid hx
  have H' := Lib.hid h'
  clear hx h'
  rw [hc]
  clear hc
  go_enter Try.func133, Try.ntmps133
  go_wp2_with fail
  go_loopw [5, 6] (fun r i wr => ∃ (k : Nat) (D : Option Addr) (n e : Nat), k ≤ xs.length ∧ i = .int .i64 k ∧ n = (filledL (xs.take k) c).length ∧ r = .slice D n e ∧ AtomsO wr w.heap.size (.slice D n e) (filledL (xs.take k) c) ∧ Below w.heap.size w wr) (fun _ i _ => xs.length - (intOf i).toNat)
  case atStart => exact ⟨0, some ⟨w.heap.size, 0, none⟩, 0, 0, Nat.zero_le _, rfl, rfl, rfl, AtomsO.empty w, bel⟩
  case round =>
    obtain ⟨k, D, n, e, hkk, rfl, hn, rfl, of, hB⟩ := hrel
    have HN := Lib.hid hn
    have hnl : n ≤ k := by
      rw [hn]; exact Nat.le_trans (filledL_len _ _) (by simp; omega)
    clear hn
    by_cases hlt : k < xs.length
    · obtain ⟨b, off, rfl, hbl⟩ := h.blt hlt
      have HH := Lib.hid h
      have HT := Lib.hid (filledL_take xs c k hlt)
      have hxk := HX.out _ (List.getElem_mem hlt)
      obtain ⟨x, hxe⟩ : ∃ x, x = xs[k] := ⟨_, rfl⟩
      have HCL : Hid (∀ w' : World, Below w.heap.size w w' → w'.cell? ⟨b, off + k*3, none⟩ = some (.int .i64 x.kind) ∧ w'.cell? ⟨b, off + k*3 + 1, none⟩ = some (.int .i64 x.a) ∧ w'.cell? ⟨b, off + k*3 + 2, none⟩ = some (.int .i64 x.b)) := fun w' hw' => by rw [hxe]; exact (HH.out.below hw').cl hlt
      rw [← hxe] at HT hxk
      clear hxe
      obtain ⟨q, xa, xb⟩ := x
      dsimp only at hxk HCL
      obtain ⟨⟨a1, a2⟩, ⟨b1, b2⟩⟩ := hxk
      obtain ⟨xa, rfl⟩ := Int.eq_ofNat_of_zero_le a1
      obtain ⟨xb, rfl⟩ := Int.eq_ofNat_of_zero_le b1
      have ha9 : (xa : Int) < 9 := by omega
      have hb9 : (xb : Int) < 9 := by omega
      have HCI : Hid (∀ w' : World, Below w.heap.size w w' → w'.cell? ⟨pb, ob + xa, none⟩ = some (.int .i64 (cl c xa)) ∧ w'.cell? ⟨pb, ob + xb, none⟩ = some (.int .i64 (cl c xb))) := fun w' hw' => ⟨ints_cl (H'.out.below hw') (by rw [HC.out]; omega), ints_cl (H'.out.below hw') (by rw [HC.out]; omega)⟩
      have hwz := hB.size
      have hlx : (k : Int) < (xs.length : Int) := by omega
      clear a1 a2 b1 b2 h
      have HS : Hid (∀ w' : World, Below w.heap.size w w' → (w'.cell? ⟨b, off + k*3, none⟩ = some (.int .i64 q) ∧ w'.cell? ⟨b, off + k*3 + 1, none⟩ = some (.int .i64 xa) ∧ w'.cell? ⟨b, off + k*3 + 2, none⟩ = some (.int .i64 xb)) ∧ w'.cell? ⟨pb, ob + xa, none⟩ = some (.int .i64 (cl c xa)) ∧ w'.cell? ⟨pb, ob + xb, none⟩ = some (.int .i64 (cl c xb))) := fun w' hw' => ⟨HCL.out w' hw', HCI.out w' hw'⟩
      go_wp2_with fail
      refine wp_region_noPanic ?_
      refine wp_region_held_drew (S := (fun w' => (w'.cell? ⟨b, off + k*3, none⟩ = some (.int .i64 q) ∧ w'.cell? ⟨b, off + k*3 + 1, none⟩ = some (.int .i64 xa) ∧ w'.cell? ⟨b, off + k*3 + 2, none⟩ = some (.int .i64 xb)) ∧ w'.cell? ⟨pb, ob + xa, none⟩ = some (.int .i64 (cl c xa)) ∧ w'.cell? ⟨pb, ob + xb, none⟩ = some (.int .i64 (cl c xb)))) (by kernel_rfl) (HS.out _ bel) (fun hHeld => ?_)
      refine wpAnyH_take (i := 0) (v := ?_) rfl (by kernel_rfl) (by kernel_rfl) (by kernel_rfl) (fun _ _ _ h => h) (Or.inl ⟨by rfl, fun w hSw => ?_⟩) hHeld ?_
      rotate_left
      · ((try dsimp only at hSw); go_split_ands; go_simp; (try with_reducible rfl))
      try simp only [Act.put, List.getElem_toArray, List.getElem_cons_zero, List.getElem_cons_succ, List.setIfInBounds_toArray, List.set_cons_zero, List.set_cons_succ]
      refine wpAnyH_take (i := 1) (v := ?_) rfl (by kernel_rfl) (by kernel_rfl) (by kernel_rfl) (fun _ _ _ h => h) (Or.inl ⟨by rfl, fun w hSw => ?_⟩) hHeld ?_
      rotate_left
      · ((try dsimp only at hSw); go_split_ands; go_simp; (try with_reducible rfl))
      try simp only [Act.put, List.getElem_toArray, List.getElem_cons_zero, List.getElem_cons_succ, List.setIfInBounds_toArray, List.set_cons_zero, List.set_cons_succ]
      refine wpAnyH_take (i := 2) (v := ?_) rfl (by kernel_rfl) (by kernel_rfl) (by kernel_rfl) (fun _ _ _ h => h) (Or.inl ⟨by rfl, fun w hSw => ?_⟩) hHeld ?_
      rotate_left
      · ((try dsimp only at hSw); go_split_ands; go_simp; (try with_reducible rfl))
      try simp only [Act.put, List.getElem_toArray, List.getElem_cons_zero, List.getElem_cons_succ, List.setIfInBounds_toArray, List.set_cons_zero, List.set_cons_succ]
      refine wpAnyH_take (i := 3) (v := ?_) rfl (by kernel_rfl) (by kernel_rfl) (by kernel_rfl) (fun _ _ _ h => h) (Or.inl ⟨by rfl, fun w hSw => ?_⟩) hHeld ?_
      rotate_left
      · ((try dsimp only at hSw); go_split_ands; go_simp; (try with_reducible rfl))
      try simp only [Act.put, List.getElem_toArray, List.getElem_cons_zero, List.getElem_cons_succ, List.setIfInBounds_toArray, List.set_cons_zero, List.set_cons_succ]
      refine wpAnyH_take (i := 4) (v := ?_) rfl (by kernel_rfl) (by kernel_rfl) (by kernel_rfl) (fun _ _ _ h => h) (Or.inl ⟨by rfl, fun w hSw => ?_⟩) hHeld ?_
      rotate_left
      · ((try dsimp only at hSw); go_split_ands; go_simp; (try with_reducible rfl))
      try simp only [Act.put, List.getElem_toArray, List.getElem_cons_zero, List.getElem_cons_succ, List.setIfInBounds_toArray, List.set_cons_zero, List.set_cons_succ]
      refine wpAnyH_take (i := 5) (v := ?_) rfl (by kernel_rfl) (by kernel_rfl) (by kernel_rfl) (fun _ _ _ h => h) (Or.inl ⟨by rfl, fun w hSw => ?_⟩) hHeld ?_
      rotate_left
      · ((try dsimp only at hSw); go_split_ands; go_simp; (try with_reducible rfl))
      try simp only [Act.put, List.getElem_toArray, List.getElem_cons_zero, List.getElem_cons_succ, List.setIfInBounds_toArray, List.set_cons_zero, List.set_cons_succ]
      refine wpAnyH_take (i := 6) (v := ?_) rfl (by kernel_rfl) (by kernel_rfl) (by kernel_rfl) (fun _ _ _ h => h) (Or.inl ⟨by rfl, fun w hSw => ?_⟩) hHeld ?_
      rotate_left
      · ((try dsimp only at hSw); go_split_ands; go_simp; (try with_reducible rfl))
      try simp only [Act.put, List.getElem_toArray, List.getElem_cons_zero, List.getElem_cons_succ, List.setIfInBounds_toArray, List.set_cons_zero, List.set_cons_succ]
      refine wpAnyH_take (i := 7) (v := ?_) rfl (by kernel_rfl) (by kernel_rfl) (by kernel_rfl) (fun _ _ _ h => h) (Or.inl ⟨by rfl, fun w hSw => ?_⟩) hHeld ?_
      rotate_left
      · ((try dsimp only at hSw); go_split_ands; go_simp; (try with_reducible rfl))
      try simp only [Act.put, List.getElem_toArray, List.getElem_cons_zero, List.getElem_cons_succ, List.setIfInBounds_toArray, List.set_cons_zero, List.set_cons_succ]
      refine wpAnyH_take (i := 8) (v := ?_) rfl (by kernel_rfl) (by kernel_rfl) (by kernel_rfl) (fun _ _ _ h => h) (Or.inl ⟨by rfl, fun w hSw => ?_⟩) hHeld ?_
      rotate_left
      · ((try dsimp only at hSw); go_split_ands; go_simp; (try with_reducible rfl))
      try simp only [Act.put, List.getElem_toArray, List.getElem_cons_zero, List.getElem_cons_succ, List.setIfInBounds_toArray, List.set_cons_zero, List.set_cons_succ]
      refine wpAnyH_take (i := 9) (v := ?_) rfl (by kernel_rfl) (by kernel_rfl) (by kernel_rfl) (fun _ _ _ h => h) (Or.inl ⟨by rfl, fun w hSw => ?_⟩) hHeld ?_
      rotate_left
      · ((try dsimp only at hSw); go_split_ands; go_simp; (try with_reducible rfl))
      try simp only [Act.put, List.getElem_toArray, List.getElem_cons_zero, List.getElem_cons_succ, List.setIfInBounds_toArray, List.set_cons_zero, List.set_cons_succ]
      refine wpAnyH_take (i := 10) (v := ?_) rfl (by kernel_rfl) (by kernel_rfl) (by kernel_rfl) (fun _ _ _ h => h) (Or.inl ⟨by rfl, fun w hSw => ?_⟩) hHeld ?_
      rotate_left
      · ((try dsimp only at hSw); go_split_ands; go_simp; (try with_reducible rfl))
      try simp only [Act.put, List.getElem_toArray, List.getElem_cons_zero, List.getElem_cons_succ, List.setIfInBounds_toArray, List.set_cons_zero, List.set_cons_succ]
      refine wpAnyH_take (i := 11) (v := ?_) rfl (by kernel_rfl) (by kernel_rfl) (by kernel_rfl) (fun _ _ _ h => h) (Or.inl ⟨by rfl, fun w hSw => ?_⟩) hHeld ?_
      rotate_left
      · ((try dsimp only at hSw); go_split_ands; go_simp; (try with_reducible rfl))
      try simp only [Act.put, List.getElem_toArray, List.getElem_cons_zero, List.getElem_cons_succ, List.setIfInBounds_toArray, List.set_cons_zero, List.set_cons_succ]
      refine wpAnyH_take (i := 12) (v := ?_) rfl (by kernel_rfl) (by kernel_rfl) (by kernel_rfl) (fun _ _ _ h => h) (Or.inl ⟨by rfl, fun w hSw => ?_⟩) hHeld ?_
      rotate_left
      · ((try dsimp only at hSw); go_split_ands; go_simp; (try with_reducible rfl))
      try simp only [Act.put, List.getElem_toArray, List.getElem_cons_zero, List.getElem_cons_succ, List.setIfInBounds_toArray, List.set_cons_zero, List.set_cons_succ]
      refine wpAnyH_take (i := 13) (v := ?_) rfl (by kernel_rfl) (by kernel_rfl) (by kernel_rfl) (fun _ _ _ h => h) (Or.inl ⟨by rfl, fun w hSw => ?_⟩) hHeld ?_
      rotate_left
      · ((try dsimp only at hSw); go_split_ands; go_simp; (try with_reducible rfl))
      try simp only [Act.put, List.getElem_toArray, List.getElem_cons_zero, List.getElem_cons_succ, List.setIfInBounds_toArray, List.set_cons_zero, List.set_cons_succ]
      refine wpAnyH_take (i := 14) (v := ?_) rfl (by kernel_rfl) (by kernel_rfl) (by kernel_rfl) (fun _ _ _ h => h) (Or.inl ⟨by rfl, fun w hSw => ?_⟩) hHeld ?_
      rotate_left
      · ((try dsimp only at hSw); go_split_ands; go_simp; (try with_reducible rfl))
      try simp only [Act.put, List.getElem_toArray, List.getElem_cons_zero, List.getElem_cons_succ, List.setIfInBounds_toArray, List.set_cons_zero, List.set_cons_succ]
      refine wpAnyH_take (i := 15) (v := ?_) rfl (by kernel_rfl) (by kernel_rfl) (by kernel_rfl) (fun _ _ _ h => h) (Or.inl ⟨by rfl, fun w hSw => ?_⟩) hHeld ?_
      rotate_left
      · ((try dsimp only at hSw); go_split_ands; go_simp; (try with_reducible rfl))
      try simp only [Act.put, List.getElem_toArray, List.getElem_cons_zero, List.getElem_cons_succ, List.setIfInBounds_toArray, List.set_cons_zero, List.set_cons_succ]
      refine wpAnyH_take (i := 16) (v := ?_) rfl (by kernel_rfl) (by kernel_rfl) (by kernel_rfl) (fun _ _ _ h => h) (Or.inl ⟨by rfl, fun w hSw => ?_⟩) hHeld ?_
      rotate_left
      · ((try dsimp only at hSw); go_split_ands; go_simp; (try with_reducible rfl))
      try simp only [Act.put, List.getElem_toArray, List.getElem_cons_zero, List.getElem_cons_succ, List.setIfInBounds_toArray, List.set_cons_zero, List.set_cons_succ]
      refine wpAnyH_take (i := 17) (v := ?_) rfl (by kernel_rfl) (by kernel_rfl) (by kernel_rfl) (fun _ _ _ h => h) (Or.inl ⟨by rfl, fun w hSw => ?_⟩) hHeld ?_
      rotate_left
      · ((try dsimp only at hSw); go_split_ands; go_simp; (try with_reducible rfl))
      try simp only [Act.put, List.getElem_toArray, List.getElem_cons_zero, List.getElem_cons_succ, List.setIfInBounds_toArray, List.set_cons_zero, List.set_cons_succ]
      refine wpAnyH_take (i := 18) (v := ?_) rfl (by kernel_rfl) (by kernel_rfl) (by kernel_rfl) (fun _ _ _ h => h) (Or.inl ⟨by rfl, fun w hSw => ?_⟩) hHeld ?_
      rotate_left
      · ((try dsimp only at hSw); go_split_ands; go_simp; (try with_reducible rfl))
      try simp only [Act.put, List.getElem_toArray, List.getElem_cons_zero, List.getElem_cons_succ, List.setIfInBounds_toArray, List.set_cons_zero, List.set_cons_succ]
      refine wpAnyH_take (i := 19) (v := ?_) rfl (by kernel_rfl) (by kernel_rfl) (by kernel_rfl) (fun _ _ _ h => h) (Or.inl ⟨by rfl, fun w hSw => ?_⟩) hHeld ?_
      rotate_left
      · ((try dsimp only at hSw); go_split_ands; go_simp; (try with_reducible rfl))
      try simp only [Act.put, List.getElem_toArray, List.getElem_cons_zero, List.getElem_cons_succ, List.setIfInBounds_toArray, List.set_cons_zero, List.set_cons_succ]
      refine wpAnyH_take (i := 20) (v := ?_) rfl (by kernel_rfl) (by kernel_rfl) (by kernel_rfl) (fun _ _ _ h => h) (Or.inl ⟨by rfl, fun w hSw => ?_⟩) hHeld ?_
      rotate_left
      · ((try dsimp only at hSw); go_split_ands; go_simp; (try with_reducible rfl))
      try simp only [Act.put, List.getElem_toArray, List.getElem_cons_zero, List.getElem_cons_succ, List.setIfInBounds_toArray, List.set_cons_zero, List.set_cons_succ]
      refine wpAnyH_take (i := 21) (v := ?_) rfl (by kernel_rfl) (by kernel_rfl) (by kernel_rfl) (fun _ _ _ h => h) (Or.inl ⟨by rfl, fun w hSw => ?_⟩) hHeld ?_
      rotate_left
      · ((try dsimp only at hSw); go_split_ands; go_simp; (try with_reducible rfl))
      try simp only [Act.put, List.getElem_toArray, List.getElem_cons_zero, List.getElem_cons_succ, List.setIfInBounds_toArray, List.set_cons_zero, List.set_cons_succ]
      refine wpAnyH_ready (rs := [22]) (by kernel_rfl) (by simp) ?_
      refine AllReadyH.cons rfl (fun K hK => ?_) AllReadyH.nil
      try simp only [List.getElem_toArray, List.getElem_cons_zero, List.getElem_cons_succ]
      go_simp
      refine hK.out _ _ (HS.out _ bel) (fun hHeldN => ?_)
      clear hHeld hK K
      have hHeld := hHeldN
      clear hHeldN
      try simp only [Act.put, List.getElem_toArray, List.getElem_cons_zero, List.getElem_cons_succ, List.setIfInBounds_toArray, List.set_cons_zero, List.set_cons_succ]
      refine wpAnyH_ready (rs := [23]) (by kernel_rfl) (by simp) ?_
      refine AllReadyH.cons rfl (fun K hK => ?_) AllReadyH.nil
      try simp only [List.getElem_toArray, List.getElem_cons_zero, List.getElem_cons_succ]
      go_simp
      refine hK.out _ _ (HS.out _ bel) (fun hHeldN => ?_)
      clear hHeld hK K
      have hHeld := hHeldN
      clear hHeldN
      try simp only [Act.put, List.getElem_toArray, List.getElem_cons_zero, List.getElem_cons_succ, List.setIfInBounds_toArray, List.set_cons_zero, List.set_cons_succ]
      refine wpAnyH_done (by kernel_rfl) ?_ _
      refine NoPanic.normal ?_
      clear hHeld
      have kx : Blk (wr.alloc (.cells #[.int .i64 q, .int .i64 (cl c xa), .int .i64 (cl c xb)] tA)).drew wr.heap.size tA #[.int .i64 q, .int .i64 (cl c xa), .int .i64 (cl c xb)] := blks
      have hB2 : Below w.heap.size w (wr.alloc (.cells #[.int .i64 q, .int .i64 (cl c xa), .int .i64 (cl c xb)] tA)).drew := bel
      have of2 := of.below (w' := (wr.alloc (.cells #[.int .i64 q, .int .i64 (cl c xa), .int .i64 (cl c xb)] tA)).drew) bel
      have hz2 : wr.heap.size < (wr.alloc (.cells #[.int .i64 q, .int .i64 (cl c xa), .int .i64 (cl c xb)] tA)).drew.heap.size := kx.lt
      generalize (wr.alloc (.cells #[.int .i64 q, .int .i64 (cl c xa), .int .i64 (cl c xb)] tA)).drew = W2 at kx hB2 of2 hz2 ⊢
      have HF : Hid (∀ s t : Bool, (q == 1) = s → (cl c xa == cl c xb) = t → filledL (xs.take (k + 1)) c = filledL (xs.take k) c ++ if (s || !t) then [⟨q, cl c xa, cl c xb⟩] else []) := by
        intro s t hs ht
        rw [HT.out]
        have : Atm.fill c ⟨q, xa, xb⟩ = (s || !t) := by rw [← hs, ← ht]; rfl
        rw [this]; rfl
      have qx := kx.cell
      obtain ⟨u, hu⟩ : ∃ u, u = cl c xa := ⟨_, rfl⟩
      obtain ⟨v, hv⟩ : ∃ v, v = cl c xb := ⟨_, rfl⟩
      rw [← hu, ← hv] at kx qx HF ⊢
      clear hu hv HT HS HCI HCL of hB
      cases hq : (q == 1)
      · cases hab : (u == v)
        · have HZ : Hid (filledL (xs.take (k + 1)) c = filledL (xs.take k) c ++ [⟨q, u, v⟩]) := HF.out _ _ hq hab
          go_wp2_with (at_builtin; refine appAL rfl _ _ rfl (v := .slice D n e) rfl (of2.below (w' := W2.alloc (.cells #[.int .i64 q, .int .i64 u, .int .i64 v] tA)) bel) rfl (AtomsV.one' (Blk.newE rfl)) (by simp only [List.length_cons, List.length_nil]; rw [← HN.out]; omega) (by simp; omega) ?_; intro A' c' w2 of3 hg2 hB3)
          go_round
          case rel => exact ⟨k + 1, A', _, c', by omega, by go_num, rfl, by rw [HZ.out]; simp, by rw [HZ.out]; exact of3, Below.trans (bbox hB2 _) (hB3.mono (Nat.le_refl _))⟩
          case measure => simp [intOf]; omega
        · have HZ : Hid (filledL (xs.take (k + 1)) c = filledL (xs.take k) c ++ []) := HF.out _ _ hq hab
          go_wp2_with fail
          go_round
          case rel => exact ⟨k + 1, D, n, e, by omega, by go_num, by rw [HZ.out, List.append_nil]; exact HN.out, rfl, by rw [HZ.out, List.append_nil]; exact of2, hB2⟩
          case measure => simp [intOf]; omega
      · have HZ : Hid (filledL (xs.take (k + 1)) c = filledL (xs.take k) c ++ [⟨q, u, v⟩]) := HF.out _ _ hq rfl
        go_wp2_with (at_builtin; refine appAL rfl _ _ rfl (v := .slice D n e) rfl (of2.below (w' := W2.alloc (.cells #[.int .i64 q, .int .i64 u, .int .i64 v] tA)) bel) rfl (AtomsV.one' (Blk.newE rfl)) (by simp only [List.length_cons, List.length_nil]; rw [← HN.out]; omega) (by simp; omega) ?_; intro A' c' w2 of3 hg2 hB3)
        go_round
        case rel => exact ⟨k + 1, A', _, c', by omega, by go_num, rfl, by rw [HZ.out]; simp, by rw [HZ.out]; exact of3, Below.trans (bbox hB2 _) (hB3.mono (Nat.le_refl _))⟩
        case measure => simp [intOf]; omega
    · obtain rfl : k = xs.length := by omega
      go_wp2_with fail
      go_ret
      refine ⟨_, rfl, ?_, hB⟩
      rw [List.take_length] at of
      exact of

--@ spec.l5Open
theorem opened_take (n : Nat) (h1 : 1 ≤ n) (h9 : n < 9) : opened.take (n + 1) = opened.take n ++ [-1] := by
  obtain rfl | rfl | rfl | rfl | rfl | rfl | rfl | rfl : n = 1 ∨ n = 2 ∨ n = 3 ∨ n = 4 ∨ n = 5 ∨ n = 6 ∨ n = 7 ∨ n = 8 := by omega
  all_goals rfl
set_option maxHeartbeats 1600000 in
theorem c_spec_l5Open (w : World) :
    Calls Try.prog 194 #[] w fun e w' => ∃ r, e = .returned r ∧ IntsO w' w.heap.size r opened ∧ Below w.heap.size w w' := by
  go_enter Try.func194, Try.ntmps194
  go_wp2_with fail
  go_loopw [1] (fun r wr => ∃ (n : Nat) (D : Option Addr) (e : Nat), 1 ≤ n ∧ n ≤ 9 ∧ r = .slice D n e ∧ IntsO wr w.heap.size (.slice D n e) (opened.take n) ∧ Below w.heap.size w wr) (fun r _ => match r with | .slice _ n _ => 9 - n | _ => 0)
  case atStart => exact ⟨1, some ⟨w.heap.size, 0, none⟩, 1, by omega, by omega, rfl, IntsO.one w 0 (Nat.le_refl _), bel⟩
  case round =>
    obtain ⟨n, D, e, h1, h9, rfl, o, hB⟩ := hrel
    have hwz := hB.size
    by_cases hlt : n < 9
    · have hn8 : (n : Int) ≤ 8 := by omega
      have HT := Lib.hid (opened_take n h1 hlt)
      have hll : Hid ((opened.take n).length = n) := by show _ = _; rw [List.length_take]; show min n 9 = n; omega
      have o1 := o.below (w' := wr.alloc (.cells #[.int .i64 (-1)] tI)) bel
      go_wp2_with (at_builtin; refine appI rfl _ _ rfl (v := .slice D n e) rfl o1 wr.heap.size (-1) rfl (cell_box _ _ _) (by rw [hll.out]; omega) (by simp; omega) ?_; intro g cc w2 o2 hg2 hB3; rw [hll.out, ← HT.out] at o2; rw [hll.out])
      go_round
      case rel => exact ⟨n + 1, _, _, by omega, by omega, rfl, o2, Below.trans bel hB3⟩
      case measure => simp; omega
    · obtain rfl : n = 9 := by omega
      go_wp2_with fail
      go_ret
      exact ⟨_, rfl, o, hB⟩
end Go.Proofs.Ytciabhddppdioaa

/- Contracts: the spec's first case. -/
namespace Go.Proofs.Ytciabhddppdioaa
open Go Go.RowKit Go.Proofs
attribute [local go_sem ↓] Go.wp_at_zero Go.wp_at_succ

theorem IntsO.open_ {w : World} {base : Nat} {A : Option Addr} {n c k : Nat} {fs : List Int} (h : IntsO w base (.slice A n c) fs) (hk : k < fs.length) : ∃ g cur, n = fs.length ∧ A = some ⟨g, 0, none⟩ ∧ base ≤ g ∧ Blk w g tI cur ∧ cur[k]? = some (.int .i64 fs[k]) ∧
    (∀ v : Int, IntsO (w.setCell ⟨g, k, none⟩ (.int .i64 v)) base (.slice A n c) (fs.set k v)) := by
  obtain ⟨⟨hl, h2⟩, hL⟩ := h
  rcases h2 with ⟨e, hn⟩ | ⟨g, cap, cur, e, hb, hh, hn, hm, hs, ht⟩
  · omega
  · injection e with e1 e2 e3
    subst e1 e2 e3
    have hK : Blk w g tI cur := hh
    have hP : Pre cur (encI fs) (fs.length * 1) := by
      intro j hj
      rw [← ht, List.getElem?_take, if_pos hj]; simp
    refine ⟨g, cur, rfl, rfl, hb, hK, (hP _ (by omega)).trans (by simp [List.getElem?_eq_getElem hk]), ?_⟩
    intro v
    refine ⟨?_, by rw [List.length_set]; exact hL⟩
    rw [show encI (fs.set k v) = (encI fs).set k (.int .i64 v) from by simp [encI, List.map_set], List.length_set]
    exact own_of_blk (hK.set_ k (.int .i64 v)) hb (by rw [List.length_set, hl]) (hP.setL k (.int .i64 v) (by rw [hs]; exact Nat.mul_le_mul hn (Nat.le_refl _)) (by rw [hl]; exact Nat.le_refl _)) hn hm (by simpa using hs)

/-- what comes behind one choice -/
def seekAt (a : Asn) (S n : Nat) (c : List Int) (k : Nat) : List (List Int) := if k < 8 - n ∧ cl c k ≠ k then [] else seek a S n (c.set (8 - n) k)
theorem seek_cut {a : Asn} {S : Nat} (n : Nat) {c : List Int} (h : (fitsS c a.facts && earlyF c [] a.atoms) = false) : seek a S n c = [] := by
  cases n <;> (unfold seek; rw [h]; rfl)
theorem seek_leaf {a : Asn} {S : Nat} {c : List Int} (h : (fitsS c a.facts && earlyF c [] a.atoms) = true) : seek a S 0 c = if apartF [] (filledL a.atoms c) then [c] else [] := by
  unfold seek; rw [h, if_pos rfl]
theorem seek_step {a : Asn} {S n : Nat} {c : List Int} (h : (fitsS c a.facts && earlyF c [] a.atoms) = true) : seek a S (n + 1) c = if S.testBit (8 - n) then (List.range (9 - n)).flatMap (seekAt a S n c) else seek a S n c := by
  conv => lhs; unfold seek
  rw [h, if_pos rfl]; rfl
theorem flatMap_first {α : Type} {f : Nat → List α} {k N : Nat} (hk : k < N) (h : (List.range k).flatMap f = []) (hne : f k ≠ []) : ∃ y, (f k).head? = some y ∧ ((List.range N).flatMap f).head? = some y := by
  obtain ⟨m, rfl⟩ : ∃ m, N = k + (m + 1) := ⟨N - k - 1, by omega⟩
  rw [List.range_add, List.range_succ_eq_map, List.map_cons, List.flatMap_append, List.flatMap_cons, Nat.add_zero, h, List.nil_append]
  cases e : f k with
  | nil => exact absurd e hne
  | cons y ys => exact ⟨y, rfl, rfl⟩
/-- the first of a list, as the program gives it -/
def firstI (L : List (List Int)) : List Int := L.head?.getD []

--@ spec.l5Fits
theorem c_fits9 {lo hi lo' hi' : Nat} (A B : Option Addr) (c0 c1 : Nat) (fs : List Fct) (c : List Int) (w : World) (h : FactsV w lo hi A fs) (h' : IntsV w lo' hi' B c) (hc : c.length = 9) (hf : FactsOk fs) :
    Calls Try.prog 231 #[.slice A fs.length c0, .slice B 9 c1] w fun e w' => e = .returned (.bool (fitsS c fs)) ∧ w = w' := by
  have := c_spec_l5Fits A B c0 c1 fs c w h h' hc hf; rwa [hc] at this
theorem c_early9 {lo hi lo' hi' : Nat} (A B : Option Addr) (c0 c1 : Nat) (xs : List Atm) (c : List Int) (w : World) (h : AtomsV w lo hi A xs) (h' : IntsV w lo' hi' B c) (hc : c.length = 9) (hx : AtomsOk xs) (hcl : ∀ x ∈ xs, cl c x.a ≤ 8) :
    Calls Try.prog 232 #[.slice A xs.length c0, .slice B 9 c1] w fun e w' => e = .returned (.bool (earlyF c [] xs)) ∧ Below w.heap.size w w' := by
  have := c_spec_l5Early A B c0 c1 xs c w h h' hc hx hcl; rwa [hc] at this
theorem c_filled9 {lo hi lo' hi' : Nat} (A B : Option Addr) (c0 c1 : Nat) (xs : List Atm) (c : List Int) (w : World) (h : AtomsV w lo hi A xs) (h' : IntsV w lo' hi' B c) (hc : c.length = 9) (hx : AtomsOk xs) :
    Calls Try.prog 133 #[.slice A xs.length c0, .slice B 9 c1] w fun e w' => ∃ r, e = .returned r ∧ AtomsO w' w.heap.size r (filledL xs c) ∧ Below w.heap.size w w' := by
  have := c_spec_l5Filled A B c0 c1 xs c w h h' hc hx; rwa [hc] at this
--@ spec.l5First
set_option maxRecDepth 100000 in
set_option maxHeartbeats 6400000 in
theorem c_spec_l5First {a : Asn} {S lo hi lo2 hi2 : Nat} {A1 A2 : Option Addr} {d1 d2 : Nat} (T : Option Addr) (tc : Nat) (hv : a.valid = true) :
    ∀ (n : Nat) (c : List Int) (B : Option Addr) (cc lo' hi' : Nat) (w : World), n ≤ 8 → c.length = 9 → (∀ j : Nat, j < 9 - n → S.testBit j = true → 0 ≤ cl c j ∧ cl c j ≤ j) → (∀ j : Nat, j < 9 → cl c j ≤ 8) →
      AsnV w lo hi (.agg #[.slice A1 a.facts.length d1, .slice A2 a.atoms.length d2]) a → BoolsV w lo2 hi2 T (flagsOf S) → IntsV w lo' hi' B c →
      Calls Try.prog 207 #[.agg #[.slice A1 a.facts.length d1, .slice A2 a.atoms.length d2], .slice T 9 tc, .slice B 9 cc, .int .i64 ((9 - n : Nat) : Int)] w fun e w' =>
        ∃ r, e = .returned (.tuple #[r, .bool (!(seek a S n c).isEmpty)]) ∧ IntsO w' w.heap.size r (firstI (seek a S n c)) ∧ Below w.heap.size w w' := by
  intro n
  induction n with
  | zero =>
    intro c B cc lo' hi' w hn hc _ hc8 hA hT hI
    have HO := Lib.hid (Asn.valid_ok hv)
    have hV := Lib.hid hA
    have HC := Lib.hid hc
    have HI := Lib.hid hI
    have HCL : Hid (∀ x ∈ a.atoms, cl c x.a ≤ 8) := fun x hx => by
      have := (HO.out.2 x hx).1
      obtain ⟨t, et⟩ := Int.eq_ofNat_of_zero_le this.1
      rw [et]; exact hc8 t (by omega)
    obtain ⟨B1, e1, B2, e2, he, h1, h2⟩ := hA
    injection he with he; injection he with he; injection he with he1 he2; injection he2 with he2 he3
    injection he1 with he1 _ he4; injection he2 with he2 _ he5
    subst he1 he4 he2 he5
    have H1 := Lib.hid h1
    have H2 := Lib.hid h2
    have hvl := valid_len hv
    clear h1 h2 hc hc8 hT hI he3
    go_enter Try.func207, Try.ntmps207
    go_wp2_with fail
    refine (c_fits9 A1 B d1 cc a.facts c _ (H1.out.below bel) (HI.out.below bel) HC.out HO.out.1).mono ?_
    rintro e w1 ⟨rfl, rfl⟩
    cases hf : fitsS c a.facts
    · have E := Lib.hid (seek_cut (a := a) (S := S) 0 (c := c) (by rw [hf]; rfl))
      clear hf
      go_wp2_with fail
      go_ret2
      exact ⟨_, by rw [E.out]; rfl, by rw [E.out]; exact IntsO.lower (IntsO.empty _ (by simp)) (by simp), bel⟩
    have HF := Lib.hid hf
    clear hf
    go_wp2_with fail
    refine (c_early9 A2 B d2 cc a.atoms c _ (H2.out.below bel) (HI.out.below bel) HC.out HO.out.2 HCL.out).mono ?_
    rintro e w2 ⟨rfl, hB2⟩
    have hB : Below w.heap.size w w2 := bgo (w := w) bel hB2
    have k0 : Blk w2 w.heap.size tAs #[.slice A1 a.facts.length d1, .slice A2 a.atoms.length d2] := Blk.next blks hB2
    have q0 := k0.cell
    have l0 := k0.lt
    clear hB2
    cases he : earlyF c [] a.atoms
    · have E := Lib.hid (seek_cut (a := a) (S := S) 0 (c := c) (by rw [HF.out, he]; rfl))
      clear he
      go_wp2_with fail
      go_ret2
      exact ⟨_, by rw [E.out]; rfl, by rw [E.out]; exact IntsO.lower (IntsO.empty _ rfl) (by omega), bel⟩
    have E0 := Lib.hid (seek_leaf (a := a) (S := S) (c := c) (by rw [HF.out, he]; rfl))
    clear he
    go_wp2_with fail
    refine (c_filled9 A2 B d2 cc a.atoms c _ (H2.out.below hB) (HI.out.below hB) HC.out HO.out.2).mono ?_
    rintro e w3 ⟨r3, rfl, o3, hB3⟩
    obtain ⟨R3, e3, rfl, v3⟩ := o3.reads
    have hBB : Below w.heap.size w w3 := bgo hB hB3
    go_wp2_with fail
    refine (c_spec_l5Apart R3 e3 (filledL a.atoms c) _ v3).mono ?_
    rintro e w4 ⟨rfl, hB4⟩
    have hB5 : Below w.heap.size w w4 := bgo hBB hB4
    have hz := hB5.size
    clear o3 v3 hB3 hB4 hBB q0 l0 k0 hB
    cases hap : apartF [] (filledL a.atoms c)
    · have E := Lib.hid (show seek a S 0 c = [] by rw [E0.out, hap]; rfl)
      clear hap
      go_wp2_with fail
      go_ret2
      exact ⟨_, by rw [E.out]; rfl, by rw [E.out]; exact IntsO.lower (IntsO.empty _ rfl) (by omega), bel⟩
    · have E := Lib.hid (show seek a S 0 c = [c] by rw [E0.out, hap]; rfl)
      clear hap
      go_wp2_with (at_builtin; refine appIL (ys := c) rfl _ _ rfl (v := .slice (some ⟨w4.heap.size, 0, none⟩) 0 0) rfl (IntsO.empty w4 rfl) (by rw [HC.out]; rfl) (HI.out.below bel) (by rw [HC.out]; simp) (by simp) ?_; intro A' c' w5 o5 hg5 hB6; rw [List.nil_append, HC.out])
      go_ret2
      exact ⟨_, by rw [E.out]; rfl, by rw [E.out]; rw [List.nil_append, HC.out] at o5; exact o5.lower hz, Below.trans bel (hB6.mono hz)⟩
  | succ n ih =>
    intro c B cc lo' hi' w hn hc hcl hc8 hA hT hI
    have HO := Lib.hid (Asn.valid_ok hv)
    have hV := Lib.hid hA
    have HC := Lib.hid hc
    have HI := Lib.hid hI
    have HTT := Lib.hid hT
    have HC8 := Lib.hid hc8
    have HCL0 := Lib.hid hcl
    have IH := Lib.hid ih
    have HCL : Hid (∀ x ∈ a.atoms, cl c x.a ≤ 8) := fun x hx => by
      have := (HO.out.2 x hx).1
      obtain ⟨t, et⟩ := Int.eq_ofNat_of_zero_le this.1
      rw [et]; exact hc8 t (by omega)
    obtain ⟨B1, e1, B2, e2, he, h1, h2⟩ := hA
    injection he with he; injection he with he; injection he with he1 he2; injection he2 with he2 he3
    injection he1 with he1 _ he4; injection he2 with he2 _ he5
    subst he1 he4 he2 he5
    have H1 := Lib.hid h1
    have H2 := Lib.hid h2
    obtain ⟨tb, to, rfl, ltb⟩ := flags_addr hT
    obtain ⟨pb, ob, rfl, lpb⟩ := hI.blt (k := 0) (by omega)
    obtain ⟨m, hm8⟩ : ∃ m, m = 8 - n := ⟨_, rfl⟩
    have E1 : Hid (((9 - n : Nat) : Int) = (m : Int) + 1) := by show _ = _; omega
    rw [show 9 - (n + 1) = m from by omega] at HCL0 ⊢
    have HM8 := Lib.hid hm8
    have HN := Lib.hid hn
    have hmg : ¬ (8 < (m : Int)) := by omega
    have hmi9 : (m : Int) < 9 := by omega
    clear h1 h2 hc hc8 hcl hT hI he3 ih hm8 hn
    go_enter Try.func207, Try.ntmps207
    go_wp2_with fail
    refine (c_fits9 A1 _ d1 cc a.facts c _ (H1.out.below bel) (HI.out.below bel) HC.out HO.out.1).mono ?_
    rintro e w1 ⟨rfl, rfl⟩
    cases hf : fitsS c a.facts
    · have E := Lib.hid (seek_cut (a := a) (S := S) (n + 1) (c := c) (by rw [hf]; rfl))
      clear hf
      go_wp2_with fail
      go_ret2
      exact ⟨_, by rw [E.out]; rfl, by rw [E.out]; exact IntsO.lower (IntsO.empty _ (by simp)) (by simp), bel⟩
    have HF := Lib.hid hf
    clear hf
    go_wp2_with fail
    refine (c_early9 A2 _ d2 cc a.atoms c _ (H2.out.below bel) (HI.out.below bel) HC.out HO.out.2 HCL.out).mono ?_
    rintro e w2 ⟨rfl, hB2⟩
    have hB : Below w.heap.size w w2 := bgo (w := w) bel hB2
    have k0 : Blk w2 w.heap.size tAs #[.slice A1 a.facts.length d1, .slice A2 a.atoms.length d2] := Blk.next blks hB2
    have q0 := k0.cell
    have l0 := k0.lt
    clear hB2
    cases he : earlyF c [] a.atoms
    · have E := Lib.hid (seek_cut (a := a) (S := S) (n + 1) (c := c) (by rw [HF.out, he]; rfl))
      clear he
      go_wp2_with fail
      go_ret2
      exact ⟨_, by rw [E.out]; rfl, by rw [E.out]; exact IntsO.lower (IntsO.empty _ rfl) (by omega), bel⟩
    have E0 := Lib.hid (seek_step (a := a) (S := S) (n := n) (c := c) (by rw [HF.out, he]; rfl))
    clear he
    have qt := flags_at (HTT.out.below hB) (m := m) (by omega)
    cases ht : S.testBit m
    · rw [ht] at qt
      have E : Hid (seek a S (n + 1) c = seek a S n c) := by show _ = _; rw [E0.out, ← HM8.out, ht]; rfl
      have ih1 := IH.out c _ cc _ _ w2 (by have := HN.out; omega) HC.out (fun j hj hS => by
        by_cases e : j = m
        · subst e; rw [ht] at hS; cases hS
        · exact HCL0.out j (by have := HM8.out; have := HN.out; omega) hS) HC8.out (hV.out.below hB) (HTT.out.below hB) (HI.out.below hB)
      rw [E1.out] at ih1
      have IH1 := Lib.hid ih1
      clear ih1 ht
      go_wp2_with fail
      refine IH1.out.mono ?_
      rintro e w3 ⟨r, rfl, o3, hB3⟩
      have O3 := Lib.hid o3
      have hz := hB.size
      clear o3
      go_wp2_with fail
      go_ret2
      exact ⟨r, by rw [E.out]; rfl, by rw [E.out]; exact O3.out.lower hz, bgo hB hB3⟩
    · rw [ht] at qt
      have E : Hid (seek a S (n + 1) c = (List.range (9 - n)).flatMap (seekAt a S n c)) := by show _ = _; rw [E0.out, ← HM8.out, ht]; rfl
      clear ht
      go_wp2_with fail
      go_loopw [10] (fun i wr => ∃ k : Nat, k ≤ m + 1 ∧ i = .int .i64 k ∧ Hid ((List.range k).flatMap (seekAt a S n c) = []) ∧ Blk wr w.heap.size tAs #[.slice A1 a.facts.length d1, .slice A2 a.atoms.length d2] ∧ Below w.heap.size w wr) (fun i _ => 9 - (intOf i).toNat)
      case atStart => exact ⟨0, Nat.zero_le _, rfl, rfl, k0, hB⟩
      case round =>
        clear k0 hB q0 l0 qt
        obtain ⟨k, hk, rfl, HP, k0, hB⟩ := hrel
        have q0 := k0.cell
        have l0 := k0.lt
        have hz := hB.size
        by_cases hlt : k ≤ m
        · have hki : (k : Int) ≤ (m : Int) := by omega
          have hk9 : (k : Int) < 9 := by omega
          have hkc := ints_cl (HI.out.below hB) (m := k) (by rw [HC.out]; omega)
          have HNX : Hid ((List.range (k + 1)).flatMap (seekAt a S n c) = seekAt a S n c k) := by show _ = _; rw [List.range_succ, List.flatMap_append, HP.out]; simp
          by_cases hskip : k < m ∧ cl c k ≠ k
          · have HX : Hid (seekAt a S n c k = []) := by show _ = _; rw [seekAt, if_pos (by rw [← HM8.out]; exact hskip)]
            have hkm : (k : Int) < (m : Int) := by omega
            have hne : (cl c k != (k : Int)) = true := by simpa using hskip.2
            clear hskip hki hlt
            go_wp2_with fail
            go_round
            case rel => exact ⟨k + 1, by omega, by go_num, by show _ = _; rw [HNX.out, HX.out], k0, hB⟩
            case measure => simp [intOf]; omega
          · have hsk2 : k < m → (cl c k != (k : Int)) = false := fun h => by
              cases Int.decEq (cl c k) k with
              | isTrue h => simp [h]
              | isFalse h' => exact absurd ⟨h, h'⟩ hskip
            have HX : Hid (seekAt a S n c k = seek a S n (c.set m k)) := by
              show _ = _
              rw [seekAt, ← HM8.out, if_neg hskip]
            clear hskip
            have hcs : (c.set m (k : Int)).length = 9 := by simpa using HC.out
            have HCS := Lib.hid hcs
            have hcl' : ∀ j : Nat, j < 9 - n → S.testBit j = true → 0 ≤ cl (c.set m (k : Int)) j ∧ cl (c.set m (k : Int)) j ≤ j := fun j hj hSj => by
              have := HM8.out; have := HN.out
              rw [cl_set HC.out (by omega) _ (by omega)]
              split
              · omega
              · exact HCL0.out j (by omega) hSj
            have HCL' := Lib.hid hcl'
            have hc8' : ∀ j : Nat, j < 9 → cl (c.set m (k : Int)) j ≤ 8 := fun j hj => by
              rw [cl_set HC.out (by omega) _ (by omega)]
              split
              · omega
              · exact HC8.out j hj
            have HC8' := Lib.hid hc8'
            clear hcl' hc8' hcs
            obtain hkm | hkm : k < m ∨ k = m := by omega
            case' inl => have h1 : (k : Int) < (m : Int) := by omega
            case' inl => have h2 := hsk2 hkm
            case' inr => have h1 : ¬ (k : Int) < (m : Int) := by omega
            all_goals
              clear hkm hsk2
              go_wp2_with (at_builtin; refine appIL (ys := c) (base := wr.heap.size) rfl _ _ rfl (v := .slice (some ⟨wr.heap.size, 0, none⟩) 0 0) rfl (IntsO.empty wr rfl) (by rw [HC.out]; rfl) (HI.out.below bel) (by rw [HC.out]; simp) (by simp) ?_; intro A' c' w5 o5 hg5 hB6; rw [List.nil_append, HC.out] at o5 ⊢; obtain ⟨g, cur, -, rfl, hgb, kg, hcm, hset⟩ := o5.open_ (k := m) (by rw [HC.out]; omega); have qg := (kg.cell m).trans hcm; have rg := kg.frozen; have lg := kg.lt; have HSET := Lib.hid (hset k); have k5 := Blk.below (g := w.heap.size) (w := wr.alloc (.cells #[] tI)) (k0.alloc _) hB6 l0; have hB5 : Below w.heap.size w w5 := Below.trans bel (hB6.mono (by omega)); have k6 := k5.far (p := ⟨g, m, none⟩) (by simp only; omega) (.int .i64 k); have q6 := k6.cell; clear hset o5 kg hcm q0 hg5)
              have hB7 : Below w.heap.size w (w5.setCell ⟨g, m, none⟩ (.int .i64 k)) := hB5.setCell (p := ⟨g, m, none⟩) (by simp only; omega) _
              have hz7 := hB7.size
              have v7 := HSET.out.readsI.2
              have ih1 := IH.out (c.set m (k : Int)) _ c' _ _ _ (by have := HN.out; omega) HCS.out HCL'.out HC8'.out (hV.out.below hB7) (HTT.out.below hB7) v7
              rw [E1.out] at ih1
              refine ih1.mono ?_
              clear ih1 v7 q6 k5 qg rg
              rintro e w8 ⟨r, rfl, o8, hB8⟩
              have O8 := Lib.hid o8
              have k8 := k6.next hB8
              have hBn := bgo hB7 hB8
              clear o8 hB8 k6 hB7 hB5 hB6
              cases hem : (seek a S n (c.set m (k : Int))).isEmpty
              · have hne : seekAt a S n c k ≠ [] := by rw [HX.out]; intro h; rw [h] at hem; cases hem
                obtain ⟨y, y1, y2⟩ := flatMap_first (N := 9 - n) (by have := HM8.out; have := HN.out; omega) HP.out hne
                rw [HX.out] at y1
                have E2 : Hid ((seek a S (n + 1) c).isEmpty = false ∧ firstI (seek a S (n + 1) c) = firstI (seek a S n (c.set m (k : Int)))) := by
                  refine ⟨?_, ?_⟩
                  · rw [E.out]
                    cases h : (List.range (9 - n)).flatMap (seekAt a S n c) with
                    | nil => rw [h] at y2; cases y2
                    | cons _ _ => rfl
                  · unfold firstI; rw [E.out, y1, y2]
                clear hem hne y1 y2
                go_wp2_with fail
                go_ret2
                exact ⟨r, by rw [E2.out.1]; rfl, by rw [E2.out.2]; exact O8.out.lower hz7, hBn⟩
              · have HX2 : Hid (seekAt a S n c k = []) := by show _ = _; rw [HX.out]; simpa using hem
                clear hem
                go_wp2_with fail
                go_round
                case rel => exact ⟨k + 1, by omega, by go_num, by show _ = _; rw [HNX.out, HX2.out], k8, hBn⟩
                case measure => simp [intOf]; omega
        · obtain rfl : k = m + 1 := by omega
          have E2 : Hid (seek a S (n + 1) c = []) := by show _ = _; rw [E.out, show 9 - n = m + 1 from by have := HM8.out; have := HN.out; omega]; exact HP.out
          go_wp2_with fail
          go_ret2
          exact ⟨_, by rw [E2.out]; rfl, by rw [E2.out]; exact IntsO.lower (IntsO.empty _ rfl) (by omega), bel⟩

--@ spec.l5Open
theorem openedB : (∀ j : Nat, j < 9 → cl opened j ≤ 8) ∧ ∀ (S : Nat) (j : Nat), j < 9 - 8 → S.testBit j = true → 0 ≤ cl opened j ∧ cl opened j ≤ j := by
  refine ⟨fun j hj => ?_, fun S j hj _ => ?_⟩
  · obtain rfl | rfl | rfl | rfl | rfl | rfl | rfl | rfl | rfl : j = 0 ∨ j = 1 ∨ j = 2 ∨ j = 3 ∨ j = 4 ∨ j = 5 ∨ j = 6 ∨ j = 7 ∨ j = 8 := by omega
    all_goals decide
  · obtain rfl : j = 0 := by omega
    decide
theorem tins_same {S : Nat} (h : S.testBit 0 = true) : tins S 0 = S := by
  apply Nat.eq_of_testBit_eq
  intro i
  rw [tins_bit]
  by_cases e : i = 0
  · subst e; simp [h]
  · have : ¬ (isTermB (0 : Int) = true ∧ (0 : Int) = (i : Int)) := by rintro ⟨-, h⟩; omega
    rw [decide_eq_false this, Bool.or_false]
end Go.Proofs.Ytciabhddppdioaa

/- Contracts: the spec's Consistent; facts added; SymTest. -/
namespace Go.Proofs.Ytciabhddppdioaa
open Go Go.RowKit Go.Proofs
attribute [local go_sem ↓] Go.wp_at_zero Go.wp_at_succ

theorem seek_congr (a : Asn) {S S' : Nat} (h : ∀ j, 1 ≤ j → j < 9 → S.testBit j = S'.testBit j) : ∀ (n : Nat) (c : List Int), n ≤ 8 → seek a S n c = seek a S' n c := by
  intro n
  induction n with
  | zero => intro c _; rfl
  | succ n ih =>
    intro c hn
    unfold seek
    rw [h (8 - n) (by omega) (by omega)]
    have e : ∀ c', seek a S n c' = seek a S' n c' := fun c' => ih c' (by omega)
    split
    · split
      · apply flatMap_congr'
        intro k _
        rw [e]
      · exact e _
    · rfl
/-- the spec's search for the terms of S (nil's bit does not matter) gives the cases -/
theorem seek_caseS {a : Asn} (hv : a.valid = true) (F S : Nat) (h : ∀ j, 1 ≤ j → j < 9 → S.testBit j = (caseS a F).testBit j) : seek a S 8 opened = cases a (caseS a F) := by
  rw [seek_congr a h 8 opened (by omega)]
  exact seek_cases (Asn.valid_ok hv).1 (Asn.valid_ok hv).2 (caseS_zero a F) (caseS_not hv F)
theorem seek_terms {a : Asn} (hv : a.valid = true) : seek a (tset (termsL a)) 8 opened = cases a (caseS a 0) := by
  refine seek_caseS hv 0 _ fun j h1 h2 => ?_
  rw [caseS_bit, tset_bit]
  have : ¬ j = 0 := by omega
  simp [this]

--@ spec.Consistent
set_option maxRecDepth 100000 in
set_option maxHeartbeats 3200000 in
theorem c_spec_Consistent {lo hi : Nat} (v : Value) (a : Asn) (w : World) (h : AsnV w lo hi v a) :
    Calls Try.prog 162 #[v] w fun e w' => e = .returned (.bool (a.valid && !(cases a (caseS a 0)).isEmpty)) ∧ Below w.heap.size w w' := by
  have hV := Lib.hid h
  obtain ⟨A1, c1, A2, c2, rfl, -, -⟩ := h
  go_enter Try.func162, Try.ntmps162
  go_wp2_with fail
  refine (c_spec_AssertionValid _ a _ (hV.out.below bel)).mono ?_
  rintro e w1 ⟨rfl, hB1⟩
  have k0 : Blk w1 w.heap.size tAs #[.slice A1 a.facts.length c1, .slice A2 a.atoms.length c2] := Blk.next blks hB1
  have hB : Below w.heap.size w w1 := bgo (w := w) bel hB1
  clear hB1
  have q0 := k0.cell
  have l0 := k0.lt
  cases hv : a.valid
  · go_wp2_with fail
    go_ret
    exact ⟨ret_bool (by simp [hv]), hB⟩
  · have HV := Lib.hid hv
    have HT := Lib.hid (termsL_ok hv)
    have HS := Lib.hid (seek_terms hv)
    have HOP := Lib.hid openedB
    clear hv
    go_wp2_with fail
    refine wp_region_noPanic ?_
    refine wp_region_held_drew (S := (fun w' => ∀ i, w'.cell? ⟨w.heap.size, i, none⟩ = #[.slice A1 a.facts.length c1, .slice A2 a.atoms.length c2][i]?)) (by kernel_rfl) (Blk.cell blks) (fun hHeld => ?_)
    refine wpAnyH_take (i := 0) (v := ?_) rfl (by kernel_rfl) (by kernel_rfl) (by kernel_rfl) (fun _ _ _ h => h) (Or.inl ⟨by rfl, fun w hSw => ?_⟩) hHeld ?_
    rotate_left
    · ((try dsimp only at hSw); go_split_ands; go_simp; (try with_reducible rfl))
    try simp only [Act.put, List.getElem_toArray, List.getElem_cons_zero, List.getElem_cons_succ, List.setIfInBounds_toArray, List.set_cons_zero, List.set_cons_succ]
    refine wpAnyH_take (i := 1) (v := ?_) rfl (by kernel_rfl) (by kernel_rfl) (by kernel_rfl) (fun _ _ _ h => h) (Or.inl ⟨by rfl, fun w hSw => ?_⟩) hHeld ?_
    rotate_left
    · ((try dsimp only at hSw); go_split_ands; go_simp; (try with_reducible rfl))
    try simp only [Act.put, List.getElem_toArray, List.getElem_cons_zero, List.getElem_cons_succ, List.setIfInBounds_toArray, List.set_cons_zero, List.set_cons_succ]
    refine wpAnyH_ready (rs := [2]) (by kernel_rfl) (by simp) ?_
    refine AllReadyH.cons rfl (fun K hK => ?_) AllReadyH.nil
    try simp only [List.getElem_toArray, List.getElem_cons_zero, List.getElem_cons_succ]
    (go_simp; refine (c_spec_l3Terms _ a _ (hV.out.below bel) HT.out).mono ?_; rintro e w3 ⟨r3, rfl, o3, hB3⟩; obtain ⟨Tb, ct, rfl, fT⟩ := o3.reads; rw [flagsOf_length]; have hB' := bgo (w := w) bel hB3; replace k0 := Blk.next (g := w.heap.size) blks hB3)
    refine hK.out _ _ (Blk.cell blks) (fun hHeldN => ?_)
    clear hHeld hK K
    have hHeld := hHeldN
    clear hHeldN
    try simp only [Act.put, List.getElem_toArray, List.getElem_cons_zero, List.getElem_cons_succ, List.setIfInBounds_toArray, List.set_cons_zero, List.set_cons_succ]
    refine wpAnyH_ready (rs := [3]) (by kernel_rfl) (by simp) ?_
    refine AllReadyH.cons rfl (fun K hK => ?_) AllReadyH.nil
    try simp only [List.getElem_toArray, List.getElem_cons_zero, List.getElem_cons_succ]
    (go_simp; refine (c_spec_l5Open _).mono ?_; rintro e w4 ⟨r4, rfl, o4, hB4⟩; obtain ⟨Cb, cc, rfl, fC⟩ := o4.reads; have hB2 := bgo hB' hB4; have fT4 := fT.below hB4; replace k0 := Blk.next (g := w.heap.size) blks hB4)
    refine hK.out _ _ (Blk.cell blks) (fun hHeldN => ?_)
    clear hHeld hK K
    have hHeld := hHeldN
    clear hHeldN
    try simp only [Act.put, List.getElem_toArray, List.getElem_cons_zero, List.getElem_cons_succ, List.setIfInBounds_toArray, List.set_cons_zero, List.set_cons_succ]
    refine wpAnyH_ready (rs := [4]) (by kernel_rfl) (by simp) ?_
    refine AllReadyH.cons rfl (fun K hK => ?_) AllReadyH.nil
    try simp only [List.getElem_toArray, List.getElem_cons_zero, List.getElem_cons_succ]
    (go_simp; refine (c_spec_l5First Tb ct HV.out 8 opened Cb cc _ _ _ (by omega) rfl (HOP.out.2 _) HOP.out.1 (hV.out.below bel) (fT4.below bel) (fC.below bel)).mono ?_; rintro e w5 ⟨r5, rfl, o5, hB5⟩; have hB6 := bgo (w := w) bel hB5; replace k0 := Blk.next (g := w.heap.size) blks hB5)
    refine hK.out _ _ (Blk.cell blks) (fun hHeldN => ?_)
    clear hHeld hK K
    have hHeld := hHeldN
    clear hHeldN
    try simp only [Act.put, List.getElem_toArray, List.getElem_cons_zero, List.getElem_cons_succ, List.setIfInBounds_toArray, List.set_cons_zero, List.set_cons_succ]
    refine wpAnyH_take (i := 5) (v := ?_) rfl (by kernel_rfl) (by kernel_rfl) (by kernel_rfl) (fun _ _ _ h => h) (Or.inl ⟨by rfl, fun w hSw => ?_⟩) hHeld ?_
    rotate_left
    · ((try dsimp only at hSw); go_split_ands; go_simp; (try with_reducible rfl))
    try simp only [Act.put, List.getElem_toArray, List.getElem_cons_zero, List.getElem_cons_succ, List.setIfInBounds_toArray, List.set_cons_zero, List.set_cons_succ]
    refine wpAnyH_take (i := 6) (v := ?_) rfl (by kernel_rfl) (by kernel_rfl) (by kernel_rfl) (fun _ _ _ h => h) (Or.inl ⟨by rfl, fun w hSw => ?_⟩) hHeld ?_
    rotate_left
    · ((try dsimp only at hSw); go_split_ands; go_simp; (try with_reducible rfl))
    try simp only [Act.put, List.getElem_toArray, List.getElem_cons_zero, List.getElem_cons_succ, List.setIfInBounds_toArray, List.set_cons_zero, List.set_cons_succ]
    refine wpAnyH_take (i := 7) (v := ?_) rfl (by kernel_rfl) (by kernel_rfl) (by kernel_rfl) (fun _ _ _ h => h) (Or.inl ⟨by rfl, fun w hSw => ?_⟩) hHeld ?_
    rotate_left
    · ((try dsimp only at hSw); go_split_ands; go_simp; (try with_reducible rfl))
    try simp only [Act.put, List.getElem_toArray, List.getElem_cons_zero, List.getElem_cons_succ, List.setIfInBounds_toArray, List.set_cons_zero, List.set_cons_succ]
    refine wpAnyH_take (i := 8) (v := ?_) rfl (by kernel_rfl) (by kernel_rfl) (by kernel_rfl) (fun _ _ _ h => h) (Or.inl ⟨by rfl, fun w hSw => ?_⟩) hHeld ?_
    rotate_left
    · ((try dsimp only at hSw); go_split_ands; go_simp; (try with_reducible rfl))
    try simp only [Act.put, List.getElem_toArray, List.getElem_cons_zero, List.getElem_cons_succ, List.setIfInBounds_toArray, List.set_cons_zero, List.set_cons_succ]
    refine wpAnyH_take (i := 9) (v := ?_) rfl (by kernel_rfl) (by kernel_rfl) (by kernel_rfl) (fun _ _ _ h => h) (Or.inl ⟨by rfl, fun w hSw => ?_⟩) hHeld ?_
    rotate_left
    · ((try dsimp only at hSw); go_split_ands; go_simp; (try with_reducible rfl))
    try simp only [Act.put, List.getElem_toArray, List.getElem_cons_zero, List.getElem_cons_succ, List.setIfInBounds_toArray, List.set_cons_zero, List.set_cons_succ]
    refine wpAnyH_done (by kernel_rfl) ?_ _
    refine NoPanic.normal ?_
    go_wp2_with fail
    go_ret
    exact ⟨ret_bool (by rw [HS.out, HV.out]; rfl), bel⟩

--@ impl.withFact
def addF (a : Asn) (f : Fct) : Asn := ⟨a.facts ++ [f], a.atoms⟩
def symF (a : Asn) (f : Fct) : Option Asn := if (addF a f).valid && !(cases (addF a f) (caseS (addF a f) 0)).isEmpty then some (addF a f) else none
--@ spec.StarAssertions
--@ impl.SymTest
--@ spec.SymTest
theorem symF_star (a : Asn) (f : Fct) : symF a f = (starF a ⟨[f], []⟩).bind fun x => if x.valid && !(cases x (caseS x 0)).isEmpty then some x else none := by
  have e : starA a ⟨[f], []⟩ = addF a f := by simp [starA, addF]
  unfold symF starF
  rw [e]
  cases h : (addF a f).valid
  · simp
  · have h1 : a.valid = true ∧ (⟨[f], []⟩ : Asn).valid = true := by
      simp only [Asn.valid, addF, factsValid, Bool.and_eq_true, decide_eq_true_eq, List.all_append, List.length_append, List.length_cons, List.length_nil] at h ⊢
      exact ⟨⟨⟨by omega, h.1.2.1⟩, of_decide_eq_true h.2.1, h.2.2⟩, ⟨⟨by omega, h.1.2.2⟩, by simp⟩⟩
    rw [h1.1, h1.2]
    simp [h]
end Go.Proofs.Ytciabhddppdioaa

/- Contracts: all cases: impl and spec. -/
namespace Go.Proofs.Ytciabhddppdioaa
open Go Go.RowKit Go.Proofs
attribute [local go_sem ↓] Go.wp_at_zero Go.wp_at_succ
attribute [local go_sem] Oper.semAt_some

/-- only blocks of slices of numbers may have turned -/
structure KX (w w' : World) : Prop where
  os : w'.os = w.os
  tape : w'.tape = w.tape
  output : w'.output = w.output
  size : w.heap.size ≤ w'.heap.size
  keep : ∀ (k : Nat) (o : Obj), w.heap[k]? = some o → (∀ cs, o ≠ .cells cs tIS (0, 0)) → w'.heap[k]? = some o
section
variable {w w' w1 : World}
theorem KX.of (h : Below w.heap.size w w') : KX w w' := ⟨h.os, h.tape, h.output, h.size, fun k o hk _ => (h.block k (Array.getElem?_eq_some_iff.1 hk).1).trans hk⟩
theorem KX.trans (h : KX w w1) (k : KX w1 w') : KX w w' := ⟨k.os.trans h.os, k.tape.trans h.tape, k.output.trans h.output, Nat.le_trans h.size k.size, fun i o hi ho => k.keep i o (h.keep i o hi ho) ho⟩
theorem KX.set (h : KX w w1) {p : Addr} (hp : w.heap.size ≤ p.block) (u : Value) : KX w (w1.setCell p u) :=
  ⟨h.os, h.tape, h.output, by have := h.size; simpa using this, fun k o hk ho => (Below.heap_setCell w1 p u k (by have := (Array.getElem?_eq_some_iff.1 hk).1; omega)).trans (h.keep k o hk ho)⟩
theorem KX.app {v : Value} {base n : Nat} {vs : List Value} (h : w.ownsRow base tIS 1 v n vs) (hg : w.grownBy w' v.ownBlock) : KX w w' :=
  ⟨hg.os, hg.tape, hg.output, hg.size, fun k o hk ho => (hg.block k (Array.getElem?_eq_some_iff.1 hk).1 (fun e => by
    rcases h.2 with ⟨rfl, -⟩ | ⟨g, cap, cur, rfl, -, hh, -⟩
    · cases e
    · have e1 : k = g := by simpa [Value.ownBlock] using e
      subst e1
      rw [hk] at hh
      exact ho cur (Option.some.inj hh))).trans hk⟩
theorem KX.blk (h : KX w w') {g : Nat} {t : TypeId} {cs : Array Value} (hb : Blk w g t cs) (ht : t ≠ tIS) : Blk w' g t cs := h.keep g _ hb fun c e => by injection e with _ e2; exact ht e2
theorem KX.ints (h : KX w w') {base : Nat} {v : Value} {xs : List Int} (ho : IntsO w base v xs) : IntsO w' base v xs := by
  obtain ⟨⟨h1, h2⟩, h3⟩ := ho
  refine ⟨⟨h1, ?_⟩, h3⟩
  rcases h2 with h2 | ⟨k, cap, cur, hv, hg, hh, r⟩
  · exact Or.inl h2
  · exact Or.inr ⟨k, cap, cur, hv, hg, h.blk (g := k) hh (by decide), r⟩
end
theorem KX.keeps {w w' : World} (h : KX w w') : KeepsOthers w w' := ⟨h.size, fun k o hk ho => h.keep k o hk fun cs e => by subst e; cases ho⟩
theorem KX.kept {T1 T2 : TypeId} {n₀ : Nat} {w w' : World} (h : KX w w') (hb : Below n₀ w w') (h1 : T1 ≠ tIS) (h2 : T2 ≠ tIS) : Kept T1 T2 n₀ w w' := ⟨hb, fun g t cs ht hk => h.blk hk (by rcases ht with rfl | rfl; exact h1; exact h2)⟩
section
variable {P : Program} {n : Nat}
/-- a drawn region within a round, its last store carried out behind the others -/
theorem wpIn_region_last' {Q : Exit → Act → World → Prop} {S : World → Prop} {L : List Oper} {id l : Nat} {a : Act} {w : World} (hlo : ¬ LetsOut Q) (hnd : (L.toArray.all noDefer) = true) (hne : L ≠ []) (hm : P.follows .mixedOrders = true) (hB : lastB L = true) (hS : S w.drew)
    (h : S w.drew → wpAnyH P .any (L.dropLast ++ [nopOf (L.getLast hne)]).toArray (lastQ P (L.getLast hne) Q) S L.length (Array.replicate L.length false) a w.drew) : (Code.region id L.toArray true).wpIn (Fence.wide.inRound l) n P Q a w := by
  refine wpIn_region_any hm (wpAny_in hlo hnd _ _ _ _ ?_)
  have e : L.dropLast ++ [L.getLast hne] = L := List.dropLast_concat_getLast hne
  unfold lastB at hB
  rw [List.getLast?_eq_some_getLast hne] at hB
  simp only [Bool.and_eq_true] at hB
  obtain ⟨⟨⟨⟨h1, h2⟩, h3⟩, h4⟩, h5⟩ := hB
  have hl : L.dropLast.length + 1 = L.length := by have := congrArg List.length e; simpa using this
  have es : L.toArray.size = L.dropLast.length + 1 := by rw [List.size_toArray, hl]
  rw [es]
  have key := wpAny_of_last (P := P) (S := S) (Q := Q) (md := .any) h1 h2 (by rw [e]; exact h3) (by rw [e]; exact h4) (by rw [e]; exact h5) (L.dropLast.length + 1) (Array.replicate (L.dropLast.length + 1) false) a w.drew ⟨by simp, fun j oj _ hl => (by rw [getD_replicate_false] at hl; cases hl), fun t _ ht => getD_in (by simpa using ht) (getD_replicate_false _ _)⟩ (by rw [hl]; exact h hS)
  rwa [e] at key
end

--@ (impl.termCase).list
theorem ints_case {w : World} {g : Nat} {c : List Int} (h : Blk w g tTc (case9 c)) (hc : c.length = 9) : IntsV w g (g + 1) (some ⟨g, 0, none⟩) c :=
  ⟨⟨by simp, fun _ => ⟨g, 0, rfl, Nat.le_refl _, Nat.lt_succ_self _, fun j u hu => by rw [Nat.zero_add, (h.case hc).cell]; simpa using hu⟩⟩, by rw [hc]; decide⟩
--@ impl.CasesOf
/-- the cases, as the two programs list them -/
def casesV (a : Asn) : List (List Int) := if a.valid then cases a (caseS a 0) else []
theorem flatMap_len {α β : Type} (f : α → List β) (B : Nat) : ∀ (l : List α), (∀ x ∈ l, (f x).length ≤ B) → (l.flatMap f).length ≤ l.length * B
  | [], _ => by simp
  | x :: xs, h => by
    rw [List.flatMap_cons, List.length_append, List.length_cons, Nat.succ_mul]
    have h1 := h x List.mem_cons_self
    have h2 := flatMap_len f B xs fun y hy => h y (List.mem_cons_of_mem _ hy)
    omega
def fall : Nat → Nat
  | 0 => 1
  | n + 1 => (9 - n) * fall n
theorem gen_len (S : Nat) : ∀ (n : Nat) (c : List Int), n ≤ 9 → (gen S n c).length ≤ fall n
  | 0, _, _ => by simp [gen, fall]
  | n + 1, c, hn => by
    have ih := fun c => gen_len S n c (by omega)
    unfold gen fall
    split
    · refine Nat.le_trans (flatMap_len _ (fall n) _ fun k _ => ?_) (by simp)
      split
      · simp
      · exact ih _
    · refine Nat.le_trans (ih _) ?_
      have : 1 ≤ 9 - n := by omega
      exact Nat.le_mul_of_pos_left _ this
theorem cases_len (a : Asn) (S : Nat) : (cases a S).length ≤ 362880 := Nat.le_trans (List.length_filter_le _ _) (gen_len S 9 zeros (by omega))
theorem tot_nine : ∀ (L : List (List Int)), (∀ c ∈ L, c.length = 9) → tot L = L.length * 9
  | [], _ => rfl
  | c :: L, h => by rw [tot_cons, h c List.mem_cons_self, tot_nine L fun d hd => h d (List.mem_cons_of_mem _ hd), List.length_cons]; omega
theorem cases_nine {a : Asn} {S : Nat} : ∀ c ∈ cases a S, c.length = 9 := fun c hc => CaseT.len (a := a) (S := S) ⟨c, hc⟩
theorem casesV_tot (a : Asn) : tot (casesV a) ≤ 16777216 := by
  unfold casesV
  split
  · rw [tot_nine _ cases_nine]
    have := cases_len a (caseS a 0)
    omega
  · simp [tot]
theorem slice_one (v : Value) (h : ∃ A n c, v = .slice A n c) : v.oneCell' = true := by obtain ⟨A, n, c, rfl⟩ := h; rfl
section
variable {ops : Array Oper} {rest : List Oper} {o : Oper} {a : Act} {Q : Exit → Act → World → Prop} {w w0 : World} {base : Nat} {v : Value} {vs : List Value} {xss : List (List Int)}
theorem rwS {w : World} {g : Nat} {sv : Value} (h : Blk w g tIS #[sv]) : Rw w g (g + 1) 1 (some ⟨g, 0, none⟩) 1 [sv] :=
  ⟨rfl, fun _ => ⟨g, 0, rfl, Nat.le_refl _, Nat.lt_succ_self _, fun j u hu => by
    match j, hu with
    | 0, hu => simp at hu; subst hu; exact h.cell 0⟩⟩
/-- append of one slice to a list of slices, at a step of a drawn region -/
theorem stepSS {K : Act → World → Prop} {E : Prop} (hgd : o.guard = none) (s x : Operand) (ho : o.op = .call { callee := .builtin .append, args := #[s, x], argTypes := #[94, 94] })
    (hs : a.eval s = v) (h0 : SSO w0 base v vs xss) (hb0 : Below w0.heap.size w0 w) (hbase : base ≤ w0.heap.size) {g : Nat} {A : Option Addr} {n c : Nat} {ys : List Int} (hy : IntsO w w0.heap.size (.slice A n c) ys) (hg : Blk w g tIS #[.slice A n c]) (hx : a.eval x = .slice (some ⟨g, 0, none⟩) 1 1) (hl : xss.length + 1 ≤ 1049600)
    (h : ∀ A' c' w', SSO w' base (.slice A' (xss.length + 1) c') (vs ++ [.slice A n c]) (xss ++ [ys]) → w.grownBy w' v.ownBlock → Below base w w' → K (a.put o.dst (.slice A' (xss.length + 1) c')) w') : if Region.wanted o (yielded ops a.tmps) = true then Oper.wp Try.prog o a w K Q else E := by
  have hw : Region.wanted o (yielded ops a.tmps) = true := by simp [Region.wanted, hgd]
  rw [if_pos hw]
  have hvl := h0.len
  refine wp_appL s x 94 ho Try.underlying94 infoIS rfl (by decide) (by decide) hs (own_below h0.row hb0) hx (rwS hg) (by intro u hu; simp at hu; subst hu; rfl) (by omega) (Nat.le_trans hbase hb0.size) ?_
  intro v' w' h1 h2 h3
  have hS := h0.snoc hb0 hy hbase (by omega) h2 h1
  obtain ⟨A', c', rfl⟩ := hS.form
  simp only [List.length_append, List.length_cons, List.length_nil, Nat.zero_add] at hS ⊢
  exact h A' c' w' hS h2 h3
/-- .. in a list of operations -/
theorem appSS (hgd : o.guard = none) (s x : Operand) (ho : o.op = .call { callee := .builtin .append, args := #[s, x], argTypes := #[94, 94] })
    (hs : a.eval s = v) (h0 : SSO w0 base v vs xss) (hb0 : Below w0.heap.size w0 w) (hbase : base ≤ w0.heap.size) {g : Nat} {A : Option Addr} {n c : Nat} {ys : List Int} (hy : IntsO w w0.heap.size (.slice A n c) ys) (hg : Blk w g tIS #[.slice A n c]) (hx : a.eval x = .slice (some ⟨g, 0, none⟩) 1 1) (hl : xss.length + 1 ≤ 1049600)
    (h : ∀ A' c' w', SSO w' base (.slice A' (xss.length + 1) c') (vs ++ [.slice A n c]) (xss ++ [ys]) → w.grownBy w' v.ownBlock → Below base w w' → wpList Try.prog ops Q rest (a.put o.dst (.slice A' (xss.length + 1) c')) w') : wpList Try.prog ops Q (o :: rest) a w := by
  have hvl := h0.len
  refine wpList_appL hgd s x 94 ho Try.underlying94 infoIS rfl (by decide) (by decide) hs (own_below h0.row hb0) hx (rwS hg) (by intro u hu; simp at hu; subst hu; rfl) (by omega) (Nat.le_trans hbase hb0.size) ?_
  intro v' w' h1 h2 h3
  have hS := h0.snoc hb0 hy hbase (by omega) h2 h1
  obtain ⟨A', c', rfl⟩ := hS.form
  simp only [List.length_append, List.length_cons, List.length_nil, Nat.zero_add] at hS ⊢
  exact h A' c' w' hS h2 h3
end
end Go.Proofs.Ytciabhddppdioaa

/- Contracts: impl's matching of filled atoms. -/
namespace Go.Proofs.Ytciabhddppdioaa
open Go Go.RowKit Go.Proofs
attribute [local go_sem ↓] Go.wp_at_zero Go.wp_at_succ

--@ (*impl.termCase).factsHold
theorem fits_drop (c : List Int) (fs : List Fct) (k : Nat) (hk : k < fs.length) : (fs.drop k).all (Fct.fits c) = (fs[k].fits c && (fs.drop (k + 1)).all (Fct.fits c)) := by
  rw [List.drop_eq_getElem_cons hk]; rfl
set_option maxHeartbeats 1600000 in
theorem c_impl_factsHold {lo hi : Nat} (A : Option Addr) (d : Nat) (fs : List Fct) (c : List Int) (g : Nat) (w : World) (h : FactsV w lo hi A fs) (hk : Blk w g tTc (encI c).toArray) (hc : c.length = 9) (hf : FactsOk fs) :
    Calls Try.prog 217 #[.pointer (some ⟨g, 0, none⟩), .slice A fs.length d] w fun e w' => e = .returned (.bool (fs.all (Fct.fits c))) ∧ Below w.heap.size w w' := by
  have hl := h.le
  have hgl := hk.lt
  have HF := Lib.hid hf
  have H := Lib.hid h
  clear hf h
  go_enter Try.func217, Try.ntmps217
  go_wp2_with fail
  go_loopw [9] (fun i wr => ∃ k : Nat, k ≤ fs.length ∧ i = .int .i64 k ∧ Hid (fs.all (Fct.fits c) = (fs.drop k).all (Fct.fits c)) ∧ Below w.heap.size w wr) (fun i _ => fs.length - (intOf i).toNat)
  case atStart => exact ⟨0, Nat.zero_le _, rfl, rfl, bel⟩
  case round =>
    obtain ⟨k, hkk, rfl, HA, hB⟩ := hrel
    by_cases hlt : k < fs.length
    · obtain ⟨b, off, rfl, hbl⟩ := H.out.blt hlt
      obtain ⟨g0, g1, g2⟩ := (H.out.below hB).cl hlt
      have HD := Lib.hid (fits_drop c fs k hlt)
      have hfk := HF.out _ (List.getElem_mem hlt)
      obtain ⟨f, hfe⟩ : ∃ f, f = fs[k] := ⟨_, rfl⟩
      rw [← hfe] at g0 g1 g2 HD hfk
      clear hfe
      have kg : Blk wr g tTc (encI c).toArray := hk.below hB hgl
      have hgr := kg.lt
      go_wp2_with fail
      refine (c_impl_factHolds f c g _ (kg.alloc _) hc hfk.1 hfk.2).mono ?_
      rintro e w1 ⟨rfl, hB1⟩
      have hBx : Below w.heap.size w w1 := bgo (w := w) bel hB1
      cases hff : f.fits c
      · have HZ := Lib.hid (show fs.all (Fct.fits c) = false by rw [HA.out, HD.out, hff]; rfl)
        clear hff hB1
        go_wp2_with fail
        go_ret
        exact ⟨ret_bool (by rw [HZ.out]), hBx⟩
      · have HZ := Lib.hid (show (fs.drop k).all (Fct.fits c) = (fs.drop (k + 1)).all (Fct.fits c) by rw [HD.out, hff]; rfl)
        clear hff hB1
        go_wp2_with fail
        go_round
        case rel => exact ⟨k + 1, by omega, by go_num, by show _ = _; rw [HA.out, HZ.out], hBx⟩
        case measure => simp [intOf]; omega
    · obtain rfl : k = fs.length := by omega
      have HZ : Hid (fs.all (Fct.fits c) = true) := by show _ = _; rw [HA.out, List.drop_length]; rfl
      go_wp2_with fail
      go_ret
      exact ⟨ret_bool (by rw [HZ.out]), hB⟩

--@ impl.beginsAt
theorem any_drop (p : Atm → Bool) (xs : List Atm) (k : Nat) (hk : k < xs.length) : (xs.drop k).any p = (p xs[k] || (xs.drop (k + 1)).any p) := by
  rw [List.drop_eq_getElem_cons hk]; rfl
def begB (xs : List Atm) (b : Int) : Bool := xs.any fun x => decide (x.a = b)
set_option maxHeartbeats 1600000 in
theorem c_impl_beginsAt {lo hi : Nat} (A : Option Addr) (d : Nat) (xs : List Atm) (b : Int) (w : World) (h : AtomsV w lo hi A xs) :
    Calls Try.prog 243 #[.slice A xs.length d, .int .i64 b] w fun e w' => e = .returned (.bool (begB xs b)) ∧ Below w.heap.size w w' := by
  have hl := h.le
  have H := Lib.hid h
  clear h
  go_enter Try.func243, Try.ntmps243
  go_wp2_with fail
  go_loopw [9] (fun i wr => ∃ k : Nat, k ≤ xs.length ∧ i = .int .i64 k ∧ Hid (begB xs b = begB (xs.drop k) b) ∧ Below w.heap.size w wr) (fun i _ => xs.length - (intOf i).toNat)
  case atStart => exact ⟨0, Nat.zero_le _, rfl, rfl, bel⟩
  case round =>
    obtain ⟨k, hkk, rfl, HA, hB⟩ := hrel
    by_cases hlt : k < xs.length
    · obtain ⟨bb, off, rfl, hbl⟩ := H.out.blt hlt
      obtain ⟨g0, g1, g2⟩ := (H.out.below hB).cl hlt
      have HD := Lib.hid (any_drop (fun x => decide (x.a = b)) xs k hlt)
      obtain ⟨x, hxe⟩ : ∃ x, x = xs[k] := ⟨_, rfl⟩
      rw [← hxe] at g0 g1 g2 HD
      clear hxe
      by_cases he : x.a = b
      · have HZ : Hid (begB xs b = true) := by show _ = _; rw [HA.out]; unfold begB; rw [HD.out, decide_eq_true he]; rfl
        have he' : (x.a == b) = true := by simpa using he
        clear he
        go_wp2_with fail
        go_ret
        exact ⟨ret_bool (by rw [HZ.out]), bel⟩
      · have HZ : Hid (begB xs b = begB (xs.drop (k + 1)) b) := by show _ = _; rw [HA.out]; unfold begB; rw [HD.out, decide_eq_false he]; rfl
        have he' : (x.a == b) = false := by simpa using he
        clear he
        go_wp2_with fail
        go_round
        case rel => exact ⟨k + 1, by omega, by go_num, HZ, bel⟩
        case measure => simp [intOf]; omega
    · obtain rfl : k = xs.length := by omega
      have HZ : Hid (begB xs b = false) := by show _ = _; rw [HA.out, List.drop_length]; rfl
      go_wp2_with fail
      go_ret
      exact ⟨ret_bool (by rw [HZ.out]), hB⟩

--@ (*impl.caseMatch).unusedAt
abbrev tMt : Nat := 233
def ub (used : List Bool) (k : Nat) : Bool := (used[k]?).getD false
abbrev cmC (V : Value) (used : List Bool) (cnt : Nat) : Array Value := #[V, .bool (ub used 0), .bool (ub used 1), .bool (ub used 2), .bool (ub used 3), .bool (ub used 4), .bool (ub used 5), .int .i64 (cnt : Int)]
theorem cm_used {w : World} {g cnt : Nat} {t : TypeId} {V : Value} {used : List Bool} (h : Blk w g t (cmC V used cnt)) {k : Nat} (hk : k < 6) : w.cell? ⟨g, 1 + k, none⟩ = some (.bool (ub used k)) := by
  rw [h.cell]
  obtain rfl | rfl | rfl | rfl | rfl | rfl : k = 0 ∨ k = 1 ∨ k = 2 ∨ k = 3 ∨ k = 4 ∨ k = 5 := by omega
  all_goals rfl
theorem freeAt_of {xs : List Atm} {used : List Bool} {c : Int} {k : Nat} (hk : k < xs.length) (hu : used.length = xs.length) : freeAt xs used c k = (decide (xs[k].a = c) && !ub used k) := by
  unfold freeAt ub
  rw [List.getElem?_eq_getElem hk, List.getElem?_eq_getElem (by omega)]
  rfl
set_option maxRecDepth 100000 in
set_option maxHeartbeats 1600000 in
theorem c_impl_unusedAt {lo hi : Nat} (A : Option Addr) (d cnt : Nat) (xs : List Atm) (used : List Bool) (b : Int) (g : Nat) (w : World) (h : AtomsV w lo hi A xs) (hk : Blk w g tMt (cmC (.slice A xs.length d) used cnt)) (hl6 : xs.length ≤ 6) (hu : used.length = xs.length) :
    Calls Try.prog 241 #[.pointer (some ⟨g, 0, none⟩), .int .i64 b] w fun e w' => e = .returned (.tuple #[.int .i64 ((findU xs used b).getD 0 : Nat), .bool (findU xs used b).isSome]) ∧ Below w.heap.size w w' := by
  have hgl := hk.lt
  have H := Lib.hid h
  have HU := Lib.hid hu
  have q0 := hk.cell 0
  have HK := Lib.hid hk
  clear h hu hk
  go_enter Try.func241, Try.ntmps241
  go_wp2_with fail
  go_loopw [13] (fun i wr => ∃ k : Nat, k ≤ xs.length ∧ i = .int .i64 k ∧ Hid (∀ j, j < k → freeAt xs used b j = false) ∧ Below w.heap.size w wr) (fun i _ => xs.length - (intOf i).toNat)
  case atStart => exact ⟨0, Nat.zero_le _, rfl, fun j hj => absurd hj (Nat.not_lt_zero _), bel⟩
  case round =>
    clear q0
    obtain ⟨k, hkk, rfl, HA, hB⟩ := hrel
    have kg : Blk wr g tMt (cmC (.slice A xs.length d) used cnt) := HK.out.below hB hgl
    by_cases hlt : k < xs.length
    · obtain ⟨bb, off, rfl, hbl⟩ := H.out.blt hlt
      obtain ⟨g0, g1, g2⟩ := (H.out.below hB).cl hlt
      have HD := Lib.hid (freeAt_of (c := b) hlt HU.out)
      have qu := cm_used kg (k := k) (by omega)
      have hgr := kg.lt
      have hk6 : (k : Int) < 6 := by omega
      obtain ⟨x, hxe⟩ : ∃ x, x = xs[k] := ⟨_, rfl⟩
      rw [← hxe] at g0 g1 g2 HD
      clear hxe
      clear kg
      cases hff : freeAt xs used b k
      · have HZ : Hid (∀ j, j < k + 1 → freeAt xs used b j = false) := fun j hj => by
          by_cases e : j = k
          · rw [e]; exact hff
          · exact HA.out j (by omega)
        rw [HD.out] at hff
        by_cases he : x.a = b
        · have he' : (x.a == b) = true := by simpa using he
          have hub : ub used k = true := by rw [decide_eq_true he] at hff; simpa using hff
          rw [hub] at qu
          clear he hff hub
          go_wp2_with fail
          go_round
          case rel => exact ⟨k + 1, by omega, by go_num, HZ, bel⟩
          case measure => simp [intOf]; omega
        · have he' : (x.a == b) = false := by simpa using he
          clear he hff
          go_wp2_with fail
          go_round
          case rel => exact ⟨k + 1, by omega, by go_num, HZ, bel⟩
          case measure => simp [intOf]; omega
      · have HZ : Hid (findU xs used b = some k) := range_find_some hlt hff HA.out
        rw [HD.out, Bool.and_eq_true, decide_eq_true_eq] at hff
        have he' : (x.a == b) = true := by simpa using hff.1
        have hub : ub used k = false := by simpa using hff.2
        rw [hub] at qu
        clear hff hub
        go_wp2_with fail
        go_ret2
        exact ⟨by rw [HZ.out]; rfl, bel⟩
    · obtain rfl : k = xs.length := by omega
      have HZ : Hid (findU xs used b = none) := range_find_none HA.out
      go_wp2_with fail
      go_ret2
      exact ⟨by rw [HZ.out]; rfl, hB⟩

--@ (*impl.caseMatch).take
theorem ub_set {used : List Bool} {k : Nat} (hk : k < used.length) (j : Nat) : ub (used.set k true) j = if k = j then true else ub used j := by
  unfold ub
  rw [List.getElem?_set]
  by_cases e : k = j
  · subst e; simp [hk]
  · simp [e]
theorem cm_take {V : Value} {used : List Bool} {cnt k : Nat} (hk : k < used.length) (h6 : k < 6) : ((cmC V used cnt).setIfInBounds (1 + k) (.bool true)).setIfInBounds 7 (.int .i64 ((cnt : Int) + 1)) = cmC V (used.set k true) (cnt + 1) := by
  unfold cmC
  simp only [ub_set hk]
  obtain rfl | rfl | rfl | rfl | rfl | rfl : k = 0 ∨ k = 1 ∨ k = 2 ∨ k = 3 ∨ k = 4 ∨ k = 5 := by omega
  all_goals simp
/-- the block of a match: the used ones are counted -/
abbrev cmU (V : Value) (used : List Bool) : Array Value := cmC V used (used.count true)
set_option maxRecDepth 100000 in
set_option maxHeartbeats 1600000 in
theorem c_impl_take {V : Value} {used : List Bool} (k g : Nat) (w : World) (hk : Blk w g tMt (cmU V used)) (hku : used[k]? = some false) (h6 : used.length ≤ 6) :
    Calls Try.prog 242 #[.pointer (some ⟨g, 0, none⟩), .int .i64 k] w fun e w' => (∃ v, e = .returned v) ∧ Blk w' g tMt (cmU V (used.set k true)) ∧ Mk (fun h => h = g) w w' := by
  have hgl := hk.lt
  have hkl : k < used.length := (List.getElem?_eq_some_iff.1 hku).1
  have hcnt := List.count_le_length (a := true) (l := used)
  obtain ⟨cnt, hcn⟩ : ∃ n, n = used.count true := ⟨_, rfl⟩
  have HE : Hid ((used.set k true).count true = cnt + 1) := by show _ = _; rw [count_take hku, hcn]
  unfold cmU at hk
  rw [← hcn] at hk hcnt
  have qu := cm_used hk (k := k) (by omega)
  have q7 : w.cell? ⟨g, 7, none⟩ = some (.int .i64 (cnt : Int)) := hk.cell 7
  have r := hk.frozen
  have hk6 : (k : Int) < 6 := by omega
  have HT := Lib.hid (cm_take (V := V) (cnt := cnt) hkl (by omega))
  have HK := Lib.hid hk
  have hne : ¬ (1 + k = 7) := by omega
  have hne' : ¬ (7 = 1 + k) := by omega
  clear hk hku hcn
  go_enter Try.func242, Try.ntmps242
  go_wp2_with fail
  go_end0
  refine ⟨⟨_, rfl⟩, ?_, ((Mk.refl (fun h => h = g) _).set (x := ⟨g, 1 + k, none⟩) rfl _).set (x := ⟨g, 7, none⟩) rfl _⟩
  show Blk _ _ _ (cmC V (used.set k true) ((used.set k true).count true))
  rw [HE.out, ← HT.out]
  exact (HK.out.set_ _ _).set_ _ _

--@ (*impl.caseMatch).useCell
def cellF (xs : List Atm) (used : List Bool) (x : Atm) : Option (List Bool) := (findU xs used x.a).bind fun k => if (xs[k]?).getD default = x then some (used.set k true) else none
theorem AtomsV.keepM {w w' : World} {lo hi g : Nat} {A : Option Addr} {xs : List Atm} (h : AtomsV w lo hi A xs) (hm : Mk (fun h => h = g) w w') (hg : hi ≤ g) (hw : g ≤ w.heap.size) : AtomsV w' lo hi A xs := h.keepB (hm.below (lo := g) (fun k e => by omega) hw) hg
set_option maxRecDepth 100000 in
set_option maxHeartbeats 3200000 in
theorem c_impl_useCell {lo hi : Nat} (A : Option Addr) (d : Nat) (xs : List Atm) (used : List Bool) (x : Atm) (g : Nat) (w : World) (h : AtomsV w lo hi A xs) (hhi : hi ≤ g) (hk : Blk w g tMt (cmU (.slice A xs.length d) used)) (hl6 : xs.length ≤ 6) (hu : used.length = xs.length) :
    Calls Try.prog 218 #[.pointer (some ⟨g, 0, none⟩), x.val] w fun e w' => ∃ r ys, e = .returned (.tuple #[r, .bool (cellF xs used x).isSome]) ∧ IntsO w' w.heap.size r ys ∧ Mk (fun h => h = g) w w' ∧ (∀ u, cellF xs used x = some u → Blk w' g tMt (cmU (.slice A xs.length d) u)) := by
  have hgl := hk.lt
  have H := Lib.hid h
  have HU := Lib.hid hu
  have HK := Lib.hid hk
  clear h hu hk
  go_enter Try.func218, Try.ntmps218
  go_wp2_with fail
  refine (c_impl_unusedAt A d _ xs used x.a g _ (H.out.below bel) (HK.out.alloc _) hl6 HU.out).mono ?_
  rintro e w1 ⟨rfl, hB1⟩
  have hB : Below w.heap.size w w1 := bgo (w := w) bel hB1
  have kg := HK.out.below hB hgl
  have k0 : Blk w1 w.heap.size tA #[.int .i64 x.kind, .int .i64 x.a, .int .i64 x.b] := Blk.next blks hB1
  have q0 := k0.cell
  have l0 := k0.lt
  have gl1 := kg.lt
  clear hB1
  cases hf : findU xs used x.a
  · have E : Hid (cellF xs used x = none) := by show _ = _; unfold cellF; rw [hf]; rfl
    clear hf
    go_wp2_with fail
    go_quiet (fail)
    go_wp2_with fail
    go_ret2
    exact ⟨_, [], by rw [E.out]; rfl, IntsO.nil _ _, Mk.below_ bel, fun u hu => by rw [E.out] at hu; cases hu⟩
  · rename_i k
    obtain ⟨hkl, hfr⟩ := findU_some hf
    have hfu := freeAt_used hfr
    obtain ⟨b, off, rfl, hbl⟩ := H.out.blt hkl
    obtain ⟨g0, g1, g2⟩ := (H.out.below hB).cl hkl
    rw [freeAt_of hkl HU.out, Bool.and_eq_true, decide_eq_true_eq] at hfr
    have q1 : w1.cell? ⟨g, 0, none⟩ = some (.slice (some ⟨b, off, none⟩) xs.length d) := kg.cell 0
    have E : Hid (cellF xs used x = if xs[k] = x then some (used.set k true) else none) := by show _ = _; unfold cellF; rw [hf]; simp only [Option.bind_some, List.getElem?_eq_getElem hkl, Option.getD_some]
    obtain ⟨y, hy⟩ : ∃ y, y = xs[k] := ⟨_, rfl⟩
    rw [← hy] at g0 g1 g2 E hfr
    have hya := hfr.1
    have hkx : (k : Int) < (xs.length : Int) := by omega
    have HKG := Lib.hid kg
    have HFU := Lib.hid hfu
    clear hf hy hfr kg hfu
    have hq2 : ∀ i, w1.cell? ⟨w.heap.size, i, none⟩ = #[.int .i64 x.kind, .int .i64 x.a, .int .i64 x.b][i]? := q0
    rw [hya] at g1
    have e2 : (x.a == x.a) = true := by simp
    by_cases f1 : y.kind = x.kind
    · by_cases f3 : y.b = x.b
      · have E2 : Hid (cellF xs used x = some (used.set k true)) := by
          show _ = _
          rw [E.out, if_pos]
          cases y; cases x; simp_all
        rw [f1] at g0
        rw [f3] at g2
        go_wp2_with fail
        go_quiet (fail)
        go_wp2_with fail
        have kg := HKG.out
        refine (c_impl_take k g _ (used := used) (V := .slice (some ⟨b, off, none⟩) xs.length d) blks HFU.out.2 (by rw [HU.out]; exact hl6)).mono ?_
        rintro e w3 ⟨⟨v, rfl⟩, k3, hM⟩
        have hMM : Mk (fun h => h = g) w w3 := Mk.trans (Mk.below_ (w := w) bel) hM
        have hz3 := hMM.size
        clear kg
        go_wp2_with fail
        go_ret2
        exact ⟨_, [(k : Int)], by rw [E2.out]; rfl, IntsO.one w3 k hz3, hMM.trans (Mk.below_ bel), fun u hu => by rw [E2.out] at hu; cases hu; exact k3.alloc _⟩
      · have e3 : (y.b == x.b) = false := by simpa using f3
        have E2 : Hid (cellF xs used x = none) := by show _ = _; rw [E.out, if_neg (fun e => f3 (by rw [e]))]
        rw [f1] at g0
        go_wp2_with fail
        go_quiet (fail)
        go_wp2_with fail
        go_ret2
        exact ⟨_, [], by rw [E2.out]; rfl, IntsO.nil _ _, Mk.below_ bel, fun u hu => by rw [E2.out] at hu; cases hu⟩
    · have e1 : (y.kind == x.kind) = false := by simpa using f1
      have E2 : Hid (cellF xs used x = none) := by show _ = _; rw [E.out, if_neg (fun e => f1 (by rw [e]))]
      go_wp2_with fail
      go_quiet (fail)
      go_wp2_with fail
      go_ret2
      exact ⟨_, [], by rw [E2.out]; rfl, IntsO.nil _ _, Mk.below_ bel, fun u hu => by rw [E2.out] at hu; cases hu⟩
end Go.Proofs.Ytciabhddppdioaa

/- Contracts: the spec's matching of filled atoms. -/
namespace Go.Proofs.Ytciabhddppdioaa
open Go Go.RowKit Go.Proofs
attribute [local go_sem ↓] Go.wp_at_zero Go.wp_at_succ

--@ spec.l5Begins
set_option maxHeartbeats 1600000 in
theorem c_spec_l5Begins {lo hi : Nat} (A : Option Addr) (d : Nat) (xs : List Atm) (b : Int) (w : World) (h : AtomsV w lo hi A xs) :
    Calls Try.prog 261 #[.slice A xs.length d, .int .i64 b] w fun e w' => e = .returned (.bool (begB xs b)) ∧ w = w' := by
  have hl := h.le
  have H := Lib.hid h
  clear h
  go_enter Try.func261, Try.ntmps261
  go_wp2_with fail
  go_loop [5] (fun i => ∃ k : Nat, k ≤ xs.length ∧ i = .int .i64 k ∧ Hid (begB xs b = begB (xs.drop k) b)) (fun i => xs.length - (intOf i).toNat)
  case atStart => exact ⟨0, Nat.zero_le _, rfl, rfl⟩
  case round =>
    obtain ⟨k, hkk, rfl, HA⟩ := hrel
    by_cases hlt : k < xs.length
    · obtain ⟨bb, off, rfl, hbl⟩ := H.out.blt hlt
      obtain ⟨g0, g1, g2⟩ := H.out.cl hlt
      have HD := Lib.hid (any_drop (fun x => decide (x.a = b)) xs k hlt)
      obtain ⟨x, hxe⟩ : ∃ x, x = xs[k] := ⟨_, rfl⟩
      rw [← hxe] at g0 g1 g2 HD
      clear hxe
      by_cases he : x.a = b
      · have HZ : Hid (begB xs b = true) := by show _ = _; rw [HA.out]; unfold begB; rw [HD.out, decide_eq_true he]; rfl
        have he' : (x.a == b) = true := by simpa using he
        clear he
        go_wp2_with fail
        go_ret
        exact ⟨ret_bool (by rw [HZ.out]), rfl⟩
      · have HZ : Hid (begB xs b = begB (xs.drop (k + 1)) b) := by show _ = _; rw [HA.out]; unfold begB; rw [HD.out, decide_eq_false he]; rfl
        have he' : (x.a == b) = false := by simpa using he
        clear he
        go_wp2_with fail
        go_round
        case rel => exact ⟨k + 1, by omega, by go_num, HZ⟩
        case measure => simp [intOf]; omega
    · obtain rfl : k = xs.length := by omega
      have HZ : Hid (begB xs b = false) := by show _ = _; rw [HA.out, List.drop_length]; rfl
      go_wp2_with fail
      go_ret
      exact ⟨ret_bool (by rw [HZ.out]), rfl⟩

--@ spec.l6Find
def findI (o : Option Nat) : Int := match o with | some k => k | none => -1
set_option maxHeartbeats 1600000 in
theorem c_spec_l6Find {lo hi lo2 hi2 : Nat} (A B : Option Addr) (d e : Nat) (xs : List Atm) (used : List Bool) (b : Int) (w : World) (h : AtomsV w lo hi A xs) (h' : BoolsV w lo2 hi2 B used) (hu : used.length = xs.length) :
    Calls Try.prog 260 #[.slice A xs.length d, .slice B xs.length e, .int .i64 b] w fun e w' => e = .returned (.int .i64 (findI (findU xs used b))) ∧ w = w' := by
  have hl := h.le
  have H := Lib.hid h
  have H' := Lib.hid h'
  have HU := Lib.hid hu
  clear h h' hu
  go_enter Try.func260, Try.ntmps260
  go_wp2_with fail
  go_loop [7] (fun i => ∃ k : Nat, k ≤ xs.length ∧ i = .int .i64 k ∧ Hid (∀ j, j < k → freeAt xs used b j = false)) (fun i => xs.length - (intOf i).toNat)
  case atStart => exact ⟨0, Nat.zero_le _, rfl, fun j hj => absurd hj (Nat.not_lt_zero _)⟩
  case round =>
    obtain ⟨k, hkk, rfl, HA⟩ := hrel
    by_cases hlt : k < xs.length
    · obtain ⟨bb, off, rfl, hbl⟩ := H.out.blt hlt
      obtain ⟨g0, g1, g2⟩ := H.out.cl hlt
      obtain ⟨b2, off2, rfl, hbl2⟩ := H'.out.blt (k := k) (by rw [HU.out]; exact hlt)
      have qu : w.cell? ⟨b2, off2 + k, none⟩ = some (.bool (ub used k)) := by rw [H'.out.cl (k := k) (by rw [HU.out]; exact hlt)]; unfold ub; rw [List.getElem?_eq_getElem]; rfl
      have HD := Lib.hid (freeAt_of (c := b) hlt HU.out)
      obtain ⟨x, hxe⟩ : ∃ x, x = xs[k] := ⟨_, rfl⟩
      rw [← hxe] at g0 g1 g2 HD
      clear hxe
      cases hff : freeAt xs used b k
      · have HZ : Hid (∀ j, j < k + 1 → freeAt xs used b j = false) := fun j hj => by
          by_cases e : j = k
          · rw [e]; exact hff
          · exact HA.out j (by omega)
        rw [HD.out] at hff
        cases hub : ub used k
        · rw [hub] at qu hff
          have he' : (x.a == b) = false := by simpa using hff
          clear hff hub
          go_wp2_with fail
          go_round
          case rel => exact ⟨k + 1, by omega, by go_num, HZ⟩
          case measure => simp [intOf]; omega
        · rw [hub] at qu
          clear hff hub
          go_wp2_with fail
          go_round
          case rel => exact ⟨k + 1, by omega, by go_num, HZ⟩
          case measure => simp [intOf]; omega
      · have HZ : Hid (findU xs used b = some k) := range_find_some hlt hff HA.out
        rw [HD.out, Bool.and_eq_true, decide_eq_true_eq] at hff
        have he' : (x.a == b) = true := by simpa using hff.1
        have hub : ub used k = false := by simpa using hff.2
        rw [hub] at qu
        clear hff hub
        go_wp2_with fail
        go_ret
        exact ⟨by rw [HZ.out]; rfl, rfl⟩
    · obtain rfl : k = xs.length := by omega
      have HZ : Hid (findU xs used b = none) := range_find_none HA.out
      go_wp2_with fail
      go_ret
      exact ⟨by rw [HZ.out]; rfl, rfl⟩

--@ spec.l6Chain
theorem BoolsO.open_ {w : World} {base : Nat} {A : Option Addr} {n c k : Nat} {fs : List Bool} (h : BoolsO w base (.slice A n c) fs) (hk : k < fs.length) : ∃ g cur, n = fs.length ∧ A = some ⟨g, 0, none⟩ ∧ base ≤ g ∧ Blk w g tB cur ∧ cur[k]? = some (.bool fs[k]) ∧
    (∀ v : Bool, BoolsO (w.setCell ⟨g, k, none⟩ (.bool v)) base (.slice A n c) (fs.set k v)) := by
  obtain ⟨⟨hl, h2⟩, hL⟩ := h
  rcases h2 with ⟨e, hn⟩ | ⟨g, cap, cur, e, hb, hh, hn, hm, hs, ht⟩
  · omega
  · injection e with e1 e2 e3
    subst e1 e2 e3
    have hK : Blk w g tB cur := hh
    have hP : Pre cur (encB fs) (fs.length * 1) := by
      intro j hj
      rw [← ht, List.getElem?_take, if_pos hj]; simp
    refine ⟨g, cur, rfl, rfl, hb, hK, (hP _ (by omega)).trans (by simp [List.getElem?_eq_getElem hk]), ?_⟩
    intro v
    refine ⟨?_, by rw [List.length_set]; exact hL⟩
    rw [show encB (fs.set k v) = (encB fs).set k (.bool v) from by simp [encB, List.map_set], List.length_set]
    exact own_of_blk (hK.set_ k (.bool v)) hb (by rw [List.length_set, hl]) (hP.setL k (.bool v) (by rw [hs]; exact Nat.mul_le_mul hn (Nat.le_refl _)) (by rw [hl]; exact Nat.le_refl _)) hn hm (by simpa using hs)
def chainG (xs : List Atm) (b : Int) (n : Nat) (used : List Bool) (c : Int) : Option (List Bool) := if c = b then some used else chainF xs b n used c
def cutB (xs : List Atm) (y : Atm) (b : Int) : Bool := decide (y.kind = 2) && !decide (y.b = b) && !decide (b = 0) && !begB xs b
theorem cut_cases (xs : List Atm) (y : Atm) (b : Int) : (cutB xs y b = true ∧ (y.kind == 2) = true ∧ (y.b != b) = true ∧ (b != 0) = true ∧ begB xs b = false) ∨
    ((cutB xs y b = false ∧ (y.kind == 2) = false) ∨ (cutB xs y b = false ∧ (y.kind == 2) = true ∧ (y.b != b) = false) ∨ (cutB xs y b = false ∧ (y.kind == 2) = true ∧ (y.b != b) = true ∧ (b != 0) = false) ∨ (cutB xs y b = false ∧ (y.kind == 2) = true ∧ (y.b != b) = true ∧ (b != 0) = true ∧ begB xs b = true)) := by
  unfold cutB
  by_cases h1 : y.kind = 2 <;> by_cases h2 : y.b = b <;> by_cases h3 : b = 0 <;> cases h4 : begB xs b <;> simp_all
theorem closed_beg (xs : List Atm) (b : Int) : closedB xs b = (decide (b = 0) || begB xs b) := rfl
theorem chainG_none {xs : List Atm} {b : Int} {n : Nat} {used : List Bool} {c : Int} (h : c ≠ b) (hf : findU xs used c = none) : chainG xs b n used c = none := by
  unfold chainG; rw [if_neg h]
  cases n with
  | zero => rfl
  | succ n => unfold chainF; rw [hf]; rfl
theorem chainG_some {xs : List Atm} {b : Int} {n : Nat} {used : List Bool} {c : Int} {k : Nat} (h : c ≠ b) (hf : findU xs used c = some k) (hk : k < xs.length) : chainG xs b (n + 1) used c = if cutB xs xs[k] b then none else chainG xs b n (used.set k true) xs[k].b := by
  unfold chainG; rw [if_neg h]
  rw [show chainF xs b (n + 1) used c = (findU xs used c).bind (fun k => if ((xs[k]?).getD default).b = b then some (used.set k true) else if ((xs[k]?).getD default).kind = 2 ∧ closedB xs b = false then none else chainF xs b n (used.set k true) ((xs[k]?).getD default).b) from rfl, hf]
  simp only [Option.bind_some, List.getElem?_eq_getElem hk, Option.getD_some]
  unfold cutB
  rw [closed_beg]
  generalize chainF xs b n (used.set k true) xs[k].b = R
  generalize xs[k] = y
  generalize decide (b = 0) = t
  generalize begB xs b = s
  by_cases h1 : y.b = b <;> by_cases h2 : y.kind = 2 <;> cases t <;> cases s <;> simp [h1, h2]
theorem AtomsV.hi_ {w : World} {lo hi b o k : Nat} {xs : List Atm} (h : AtomsV w lo hi (some ⟨b, o, none⟩) xs) (hk : k < xs.length) : b < hi := by
  obtain ⟨g, o', e, h1, h2, -⟩ := h.raw.2 (by omega)
  injection e with e
  injection e with e1
  omega
set_option maxRecDepth 100000 in
set_option maxHeartbeats 6400000 in
theorem c_spec_l6Chain {lo hi base : Nat} (A B : Option Addr) (d e : Nat) (xs : List Atm) (used : List Bool) (c b : Int) (w : World) (h : AtomsV w lo hi A xs) (h' : BoolsO w base (.slice B xs.length e) used) (hu : used.length = xs.length) (hhi : hi ≤ base) (hbw : base ≤ w.heap.size) :
    Calls Try.prog 259 #[.slice A xs.length d, .slice B xs.length e, .int .i64 c, .int .i64 b] w fun e' w' => e' = .returned (.bool (chainG xs b (xs.length + 1) used c).isSome) ∧ (∀ u, chainG xs b (xs.length + 1) used c = some u → BoolsO w' base (.slice B xs.length e) u ∧ u.length = xs.length) ∧ Mk (fun g => (Value.slice B xs.length e).ownBlock = some g) w w' := by
  have hl := h.le
  have hown : ∀ g, (Value.slice B xs.length e).ownBlock = some g → base ≤ g := fun g hg => (h'.1.lt g hg).1
  have H := Lib.hid h
  have HO := Lib.hid h'
  have HU := Lib.hid hu
  have HW := Lib.hid hown
  clear h h' hu hown
  go_enter Try.func259, Try.ntmps259
  go_wp2_with fail
  go_loopg [2] (xs.length - used.count true) (fun gh s2 wr => ∃ (u : List Bool) (n : Nat) (at_ : Int), s2 = .int .i64 at_ ∧ Hid (xs.length - u.count true ≤ gh) ∧ Hid (chainG xs b (xs.length + 1) used c = chainG xs b n u at_) ∧ Hid (xs.length < n + u.count true) ∧ Hid (u.length = xs.length) ∧ Hid (BoolsO wr base (.slice B xs.length e) u) ∧ Hid (Mk (fun g => (Value.slice B xs.length e).ownBlock = some g) w wr))
  case atStart => exact ⟨used, xs.length + 1, c, rfl, Nat.le_refl _, rfl, by show _ < _; omega, HU.out, HO.out, Mk.refl _ _⟩
  case round =>
    obtain ⟨u, n, at_, rfl, HG, HC, HN, HL, HB, HM⟩ := hrel
    have hA : Hid (AtomsV wr lo hi A xs) := H.out.keepB (HM.out.below (lo := base) (fun k e => HW.out k e) hbw) hhi
    by_cases hat : at_ = b
    · have E : Hid (chainG xs b (xs.length + 1) used c = some u) := by show _ = _; rw [HC.out]; unfold chainG; rw [if_pos hat]
      have hne : (at_ != b) = false := by simpa using hat
      clear hat
      go_wp2_with fail
      go_ret
      exact ⟨ret_bool (by rw [E.out]; rfl), fun u' hu' => (by rw [E.out] at hu'; cases hu'; exact ⟨HB.out, HL.out⟩), HM.out⟩
    · have hne : (at_ != b) = true := by simpa using hat
      obtain ⟨BB, eB, eqB, hBV⟩ := HB.out.reads
      injection eqB with eB1 eB2 eB3
      subst eB1
      clear eB2 eB3
      go_wp2_with fail
      refine (c_spec_l6Find A B d e xs u at_ _ hA.out (by simpa using hBV) HL.out).mono ?_
      rintro e w1 ⟨rfl, rfl⟩
      cases hf : findU xs u at_
      · have E : Hid (chainG xs b (xs.length + 1) used c = none) := by show _ = _; rw [HC.out]; exact chainG_none hat hf
        clear hf hat
        simp only [findI]
        go_wp2_with fail
        go_ret
        exact ⟨ret_bool (by rw [E.out]; rfl), fun u' hu' => (by rw [E.out] at hu'; cases hu'), HM.out⟩
      · rename_i k
        obtain ⟨hkl, hfr⟩ := findU_some hf
        have hfu := freeAt_used hfr
        have hct := count_take hfu.2
        have hcl := List.count_le_length (a := true) (l := u.set k true)
        rw [List.length_set, HL.out] at hcl
        obtain ⟨m, rfl⟩ : ∃ m, n = m + 1 := ⟨n - 1, by have := HN.out; omega⟩
        have HS := Lib.hid (chainG_some (n := m) hat hf hkl)
        obtain ⟨g, cur, -, rfl, hgb, kg, hcm, hset⟩ := HB.out.open_ (k := k) hfu.1
        have qg : wr.cell? ⟨g, k, none⟩ = some (.bool false) := (kg.cell k).trans (hcm.trans (by rw [(List.getElem?_eq_some_iff.1 hfu.2).2]))
        have rg := kg.frozen
        have HSET := Lib.hid (hset true)
        obtain ⟨bb, off, rfl, hbl⟩ := hA.out.blt hkl
        obtain ⟨g0, g1, g2⟩ := hA.out.cl hkl
        have hbg : bb < g := by have := hA.out.hi_ hkl; omega
        have hbn : ¬ (bb = g) := by omega
        have hbn' : ¬ (g = bb) := by omega
        obtain ⟨y, hy⟩ : ∃ y, y = xs[k] := ⟨_, rfl⟩
        rw [← hy] at g0 g1 g2 HS
        have HCT := Lib.hid hct
        have HCL := Lib.hid hcl
        have hkx : (k : Int) < (xs.length : Int) := by omega
        have hk0 : ¬ (k : Int) < 0 := by omega
        have HAK := Lib.hid hA.out
        clear hf hat hy hfr hfu hct hcl hset kg hcm
        simp only [findI]
        rcases cut_cases xs y b with ⟨hc, f1, f2, f3, f4⟩ | hcc
        · have E : Hid (chainG xs b (xs.length + 1) used c = none) := by show _ = _; rw [HC.out, HS.out, hc]; rfl
          clear hc
          go_wp2_with (refine (c_spec_l5Begins _ _ xs b _ HAK.out).mono ?_; rintro e2 w2 ⟨rfl, rfl⟩)
          go_ret
          exact ⟨ret_bool (by rw [E.out]; rfl), fun u' hu' => (by rw [E.out] at hu'; cases hu'), HM.out⟩
        · have E : Hid (cutB xs y b = false → chainG xs b (xs.length + 1) used c = chainG xs b m (u.set k true) y.b) := fun hc => by rw [HC.out, HS.out, hc]; rfl
          rcases hcc with ⟨hc, f1⟩ | ⟨hc, f1, f2⟩ | ⟨hc, f1, f2, f3⟩ | ⟨hc, f1, f2, f3, f4⟩
          all_goals
            have E2 := Lib.hid (E.out hc)
            clear hc
            go_wp2_with (refine (c_spec_l5Begins _ _ xs b _ HAK.out).mono ?_; rintro e2 w2 ⟨rfl, rfl⟩)
            go_roundg (xs.length - (u.set k true).count true)
            case rel => exact ⟨u.set k true, m, y.b, rfl, Nat.le_refl _, E2.out, by show _ < _; have := HN.out; have := HCT.out; omega, by show _ = _; rw [List.length_set]; exact HL.out, HSET.out, HM.out.set (x := ⟨g, k, none⟩) rfl _⟩
            case measure => have := HG.out; have := HCT.out; have := HCL.out; omega
end Go.Proofs.Ytciabhddppdioaa
