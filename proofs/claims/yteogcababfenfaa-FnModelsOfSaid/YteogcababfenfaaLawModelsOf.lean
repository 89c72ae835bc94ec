/- 'laws.FnModelsOf' returns true for all bytes that can be read. -/
import Derived.Test.YteogcababfenfaaDrawPre
import Derived.Test.YteogcababfenfaaModelsI
import Derived.Test.YteogcababfenfaaModelsS
import Derived.Test.YteogcababfenfaaStSame
set_option linter.unusedSimpArgs false
set_option linter.unusedVariables false
namespace Go.Proofs.Yteogcababfenfaa
open Go Go.RowKit Go.Proofs
attribute [local go_sem ↓] Go.wp_at_zero Go.wp_at_succ

theorem models_hold {a : Asn} {s : Ste} (h : s ∈ modelsV a) : holdsF s a = true := by
  unfold modelsV casesM caseM at h
  simp only [List.mem_flatMap] at h
  obtain ⟨c, -, m, -, hm⟩ := h
  unfold pickS at hm
  split at hm
  · split at hm
    · rename_i t _ ht
      rw [List.mem_singleton] at hm
      rw [hm]; exact ht
    · cases hm
  · cases hm
theorem grow_zero {vs : List Int} {last : Bool} : ∀ (xs : List Atm) (n : Nat) (h : List Int), growF vs 0 last xs n h = some h
  | [], _, _ => by rw [growF]
  | x :: xs, n, h => by
    rw [growF]
    split
    · exact grow_zero xs n h
    · rw [if_pos (by simp)]; exact grow_zero xs (n + 1) h
theorem models_cons (a : Asn) : (a.valid && !(cases a (caseS a 0)).isEmpty) = decide (0 < (modelsV a).length) := by
  cases hv : a.valid
  · have : modelsV a = [] := by unfold modelsV casesV; rw [hv]; rfl
    rw [this]; rfl
  · cases hc : cases a (caseS a 0) with
    | nil =>
      have : modelsV a = [] := by unfold modelsV casesV; rw [hv, if_pos rfl, hc]; rfl
      rw [this]; rfl
    | cons c L =>
      have hmem : c ∈ cases a (caseS a 0) := by rw [hc]; exact List.mem_cons_self
      have h1 := (model_law hv (caseS_zero a 0) (caseS_terms hv 0) hmem).2.1
      have h2 : varF a c 0 true = some (modS a c) := by unfold varF; rw [grow_zero]; rfl
      have h3 : modS a c ∈ modelsV a := by
        unfold modelsV casesV
        rw [hv, if_pos rfl, hc]
        unfold casesM caseM
        refine List.mem_flatMap.2 ⟨c, by simp, List.mem_flatMap.2 ⟨0, by simp, ?_⟩⟩
        unfold pickS
        rw [h2]
        simp [h1]
      have h4 := List.length_pos_of_mem h3
      simp [h4]
--@ laws.FnModelsOf
set_option maxRecDepth 100000 in
set_option maxHeartbeats 6400000 in
theorem c_FnModelsOf (v : Value) (A : Option Addr × Nat × Nat) (w : World) (h : v = .slice A.1 A.2.1 A.2.2 ∧ BytesR w A.1 A.2.1 A.2.2) : Calls Try.prog 4 #[v] w fun e w' => e = .returned (.bool true) ∧ Below w.heap.size w w' := by
  obtain ⟨A, n, c⟩ := A
  obtain ⟨rfl, hR⟩ := h
  simp only at hR ⊢
  have HR := Lib.hid hR
  clear hR
  by_cases hn : 1048576 < n
  · have hni : (1048576 : Int) < (n : Int) := by omega
    clear hn
    go_enter Try.func4, Try.ntmps4
    go_wp2_with fail
    go_ret
    exact ⟨rfl, bel⟩
  have hni : ¬ (1048576 : Int) < (n : Int) := by omega
  clear hn
  go_enter Try.func4, Try.ntmps4
  go_wp2_with fail
  refine (c_DrawModels A n c _ HR.out).mono ?_
  rintro e w1 ⟨r, a, rfl, o, -, hB1⟩
  have hV := o.reads
  obtain ⟨fv, av, rfl, n1, n2⟩ := o
  obtain ⟨F, e1, rfl, -⟩ := n1.reads
  obtain ⟨G, e2, rfl, -⟩ := n2.reads
  have HV := Lib.hid (hV.below (bbox (Below.refl _ _) (.cells #[.slice F a.facts.length e1, .slice G a.atoms.length e2] tAs)))
  have hB := bbox hB1 (.cells #[.slice F a.facts.length e1, .slice G a.atoms.length e2] tAs)
  have k0 : Blk (w1.alloc (.cells #[.slice F a.facts.length e1, .slice G a.atoms.length e2] tAs)) w1.heap.size tAs #[.slice F a.facts.length e1, .slice G a.atoms.length e2] := Blk.new _ _ _
  have hz : w1.heap.size ≤ (w1.alloc (.cells #[.slice F a.facts.length e1, .slice G a.atoms.length e2] tAs)).heap.size := by simp
  have HB := Lib.hid hB
  clear n1 n2 hV hB1 HR hB
  (replace qk0 := k0.cell; replace rk0 := k0.frozen; replace lk0 := k0.lt)
  go_wp2_with fail
  generalize (w1.alloc (.cells #[.slice F a.facts.length e1, .slice G a.atoms.length e2] tAs)) = W1 at k0 HV HB hz ⊢
  refine (c_impl_ModelsOf _ a _ HV.out hz).mono ?_
  rintro e w2 ⟨r2, rfl, ⟨⟨vs, o2⟩, -⟩, hB2⟩
  obtain ⟨A2, c2, rfl⟩ := o2.form
  have h2 := o2.reads.2
  replace HV := Lib.hid (HV.out.below hB2)
  replace HB := Lib.hid (bgo HB.out hB2)
  replace k0 := k0.next hB2
  have H2 := Lib.hid h2
  have hz2 := hB2.size
  clear hB2 o2 h2 qk0 rk0 lk0
  (replace qk0 := k0.cell; replace rk0 := k0.frozen; replace lk0 := k0.lt)
  go_wp2_with fail
  refine (c_spec_ModelsOf _ a _ HV.out (by omega)).mono ?_
  rintro e w3 ⟨r3, rfl, ⟨⟨vs', o3⟩, -⟩, hB3⟩
  obtain ⟨A3, c3, rfl⟩ := o3.form
  have h3 := o3.reads.2
  replace HV := Lib.hid (HV.out.below hB3)
  replace HB := Lib.hid (bgo HB.out hB3)
  replace H2 := Lib.hid (H2.out.below hB3)
  replace k0 := k0.next hB3
  have H3 := Lib.hid h3
  have hz3 := hB3.size
  clear hB3 o3 h3 qk0 rk0 lk0
  have HM := Lib.hid (fun (s : Ste) (hs : s ∈ modelsV a) => models_hold hs)
  have HC := Lib.hid (models_cons a)
  obtain ⟨D, hD⟩ : ∃ D, D = modelsV a := ⟨_, rfl⟩
  rw [← hD] at H2 H3 HM HC ⊢
  clear hD
  have hDl : D.length ≤ 1049600 := by obtain ⟨vs, h1, -⟩ := H2.out; exact h1.lim
  go_wp2_with fail
  go_loopw [6] (fun i wr => ∃ k : Nat, k ≤ D.length ∧ i = .int .i64 k ∧ Hid (Below w3.heap.size w3 wr)) (fun i _ => D.length - (intOf i).toNat)
  case atStart => exact ⟨0, Nat.zero_le _, rfl, Lib.hid (Below.refl _ _)⟩
  case round =>
    obtain ⟨k, hk, rfl, HW⟩ := hrel
    have kr := k0.next HW.out
    have HVr := Lib.hid (HV.out.below HW.out)
    have hzw := HW.out.size
    by_cases hlt : k < D.length
    · have hki : (k : Int) < (D.length : Int) := by omega
      obtain ⟨b, o, R, d, R2, d2, rfl, lb, g0, g1, v0, v1⟩ := (H2.out.below HW.out).at hlt
      obtain ⟨b', o', R', d', R2', d2', rfl, lb', g0', g1', v0', v1'⟩ := (H3.out.below HW.out).at hlt
      have hs := Lib.hid (HM.out D[k] (List.getElem_mem hlt))
      obtain ⟨s, hse⟩ : ∃ s, s = D[k] := ⟨_, rfl⟩
      rw [← hse] at g0 g1 v0 v1 g0' g1' v0' v1' hs
      clear hse
      have S1 : Hid (StateV wr w1.heap.size wr.heap.size (.agg #[.slice R s.values.length d, .slice R2 s.heap.length d2]) s) := Lib.hid ⟨_, _, _, _, rfl, v0.mono (by omega) (by omega), v1.mono (by omega) (by omega)⟩
      have S2 : Hid (StateV wr w1.heap.size wr.heap.size (.agg #[.slice R' s.values.length d', .slice R2' s.heap.length d2']) s) := Lib.hid ⟨_, _, _, _, rfl, v0'.mono (by omega) (by omega), v1'.mono (by omega) (by omega)⟩
      have lkr := kr.lt
      clear v0 v1 v0' v1'
      go_wp2_with fail
      refine wp_region_noPanic ?_
      refine wp_region_held_drew (S := (fun w' => ((w'.cell? ⟨b, o + k*2, none⟩ = some (.slice R s.values.length d) ∧ w'.cell? ⟨b, o + k*2 + 1, none⟩ = some (.slice R2 s.heap.length d2)) ∧ w'.cell? ⟨b', o' + k*2, none⟩ = some (.slice R' s.values.length d') ∧ w'.cell? ⟨b', o' + k*2 + 1, none⟩ = some (.slice R2' s.heap.length d2')) ∧ (∀ i, w'.cell? ⟨w1.heap.size, i, none⟩ = #[.slice F a.facts.length e1, .slice G a.atoms.length e2][i]?))) (by kernel_rfl) (⟨⟨⟨g0, g1⟩, g0', g1'⟩, kr.drew.cell⟩) (fun hHeld => ?_)
      refine wpAnyH_take (i := 0) (v := ?_) rfl (by kernel_rfl) (by kernel_rfl) (by kernel_rfl) (fun _ _ _ h => h) (Or.inl ⟨by rfl, fun w hSw => ?_⟩) hHeld ?_
      rotate_left
      · ((try dsimp only at hSw); go_split_ands; go_simp; (try with_reducible rfl))
      try simp only [Act.put, List.getElem_toArray, List.getElem_cons_zero, List.getElem_cons_succ, List.setIfInBounds_toArray, List.set_cons_zero, List.set_cons_succ]
      refine wpAnyH_take (i := 1) (v := ?_) rfl (by kernel_rfl) (by kernel_rfl) (by kernel_rfl) (fun _ _ _ h => h) (Or.inl ⟨by rfl, fun w hSw => ?_⟩) hHeld ?_
      rotate_left
      · ((try dsimp only at hSw); go_split_ands; go_simp; (try with_reducible rfl))
      try simp only [Act.put, List.getElem_toArray, List.getElem_cons_zero, List.getElem_cons_succ, List.setIfInBounds_toArray, List.set_cons_zero, List.set_cons_succ]
      refine wpAnyH_take (i := 2) (v := ?_) rfl (by kernel_rfl) (by kernel_rfl) (by kernel_rfl) (fun _ _ _ h => h) (Or.inl ⟨by rfl, fun w hSw => ?_⟩) hHeld ?_
      rotate_left
      · ((try dsimp only at hSw); go_split_ands; go_simp; (try with_reducible rfl))
      try simp only [Act.put, List.getElem_toArray, List.getElem_cons_zero, List.getElem_cons_succ, List.setIfInBounds_toArray, List.set_cons_zero, List.set_cons_succ]
      refine wpAnyH_take (i := 3) (v := ?_) rfl (by kernel_rfl) (by kernel_rfl) (by kernel_rfl) (fun _ _ _ h => h) (Or.inl ⟨by rfl, fun w hSw => ?_⟩) hHeld ?_
      rotate_left
      · ((try dsimp only at hSw); go_split_ands; go_simp; (try with_reducible rfl))
      try simp only [Act.put, List.getElem_toArray, List.getElem_cons_zero, List.getElem_cons_succ, List.setIfInBounds_toArray, List.set_cons_zero, List.set_cons_succ]
      refine wpAnyH_take (i := 4) (v := ?_) rfl (by kernel_rfl) (by kernel_rfl) (by kernel_rfl) (fun _ _ _ h => h) (Or.inl ⟨by rfl, fun w hSw => ?_⟩) hHeld ?_
      rotate_left
      · ((try dsimp only at hSw); go_split_ands; go_simp; (try with_reducible rfl))
      try simp only [Act.put, List.getElem_toArray, List.getElem_cons_zero, List.getElem_cons_succ, List.setIfInBounds_toArray, List.set_cons_zero, List.set_cons_succ]
      refine wpAnyH_take (i := 5) (v := ?_) rfl (by kernel_rfl) (by kernel_rfl) (by kernel_rfl) (fun _ _ _ h => h) (Or.inl ⟨by rfl, fun w hSw => ?_⟩) hHeld ?_
      rotate_left
      · ((try dsimp only at hSw); go_split_ands; go_simp; (try with_reducible rfl))
      try simp only [Act.put, List.getElem_toArray, List.getElem_cons_zero, List.getElem_cons_succ, List.setIfInBounds_toArray, List.set_cons_zero, List.set_cons_succ]
      refine wpAnyH_take (i := 6) (v := ?_) rfl (by kernel_rfl) (by kernel_rfl) (by kernel_rfl) (fun _ _ _ h => h) (Or.inl ⟨by rfl, fun w hSw => ?_⟩) hHeld ?_
      rotate_left
      · ((try dsimp only at hSw); go_split_ands; go_simp; (try with_reducible rfl))
      try simp only [Act.put, List.getElem_toArray, List.getElem_cons_zero, List.getElem_cons_succ, List.setIfInBounds_toArray, List.set_cons_zero, List.set_cons_succ]
      refine wpAnyH_take (i := 7) (v := ?_) rfl (by kernel_rfl) (by kernel_rfl) (by kernel_rfl) (fun _ _ _ h => h) (Or.inl ⟨by rfl, fun w hSw => ?_⟩) hHeld ?_
      rotate_left
      · ((try dsimp only at hSw); go_split_ands; go_simp; (try with_reducible rfl))
      try simp only [Act.put, List.getElem_toArray, List.getElem_cons_zero, List.getElem_cons_succ, List.setIfInBounds_toArray, List.set_cons_zero, List.set_cons_succ]
      refine wpAnyH_ready (rs := [8]) (by kernel_rfl) (by simp) ?_
      refine AllReadyH.cons rfl (fun K hK => ?_) AllReadyH.nil
      try simp only [List.getElem_toArray, List.getElem_cons_zero, List.getElem_cons_succ]
      (go_simp; refine (c_impl_StateSameT _ _ s _ (S1.out.below (Below.refl _ _).drew) (S2.out.below (Below.refl _ _).drew)).mono ?_; rintro e w4 ⟨rfl, hB4⟩; have hS : Below wr.heap.size wr w4 := (Below.refl _ _).drew.trans hB4; have kr4 := kr.next hS; have i0 := (hS.cell (p := ⟨b, o + k*2, none⟩) lb).trans g0; have i1 := (hS.cell (p := ⟨b, o + k*2 + 1, none⟩) lb).trans g1; have i0' := (hS.cell (p := ⟨b', o' + k*2, none⟩) lb').trans g0'; have i1' := (hS.cell (p := ⟨b', o' + k*2 + 1, none⟩) lb').trans g1'; clear hB4)
      refine hK.out _ _ (⟨⟨⟨i0, i1⟩, i0', i1'⟩, kr4.cell⟩) (fun hHeldN => ?_)
      clear hHeld hK K
      have hHeld := hHeldN
      clear hHeldN
      try simp only [Act.put, List.getElem_toArray, List.getElem_cons_zero, List.getElem_cons_succ, List.setIfInBounds_toArray, List.set_cons_zero, List.set_cons_succ]
      refine wpAnyH_take (i := 9) (v := ?_) rfl (by kernel_rfl) (by kernel_rfl) (by kernel_rfl) (fun _ _ _ h => h) (Or.inl ⟨by rfl, fun w hSw => ?_⟩) hHeld ?_
      rotate_left
      · ((try dsimp only at hSw); go_split_ands; go_simp; (try with_reducible rfl))
      try simp only [Act.put, List.getElem_toArray, List.getElem_cons_zero, List.getElem_cons_succ, List.setIfInBounds_toArray, List.set_cons_zero, List.set_cons_succ]
      refine wpAnyH_take (i := 10) (v := ?_) rfl (by kernel_rfl) (by kernel_rfl) (by kernel_rfl) (fun _ _ _ h => h) (Or.inl ⟨by rfl, fun w hSw => ?_⟩) hHeld ?_
      rotate_left
      · ((try dsimp only at hSw); go_split_ands; go_simp; (try with_reducible rfl))
      try simp only [Act.put, List.getElem_toArray, List.getElem_cons_zero, List.getElem_cons_succ, List.setIfInBounds_toArray, List.set_cons_zero, List.set_cons_succ]
      refine wpAnyH_take (i := 11) (v := ?_) rfl (by kernel_rfl) (by kernel_rfl) (by kernel_rfl) (fun _ _ _ h => h) (Or.inl ⟨by rfl, fun w hSw => ?_⟩) hHeld ?_
      rotate_left
      · ((try dsimp only at hSw); go_split_ands; go_simp; (try with_reducible rfl))
      try simp only [Act.put, List.getElem_toArray, List.getElem_cons_zero, List.getElem_cons_succ, List.setIfInBounds_toArray, List.set_cons_zero, List.set_cons_succ]
      refine wpAnyH_take (i := 12) (v := ?_) rfl (by kernel_rfl) (by kernel_rfl) (by kernel_rfl) (fun _ _ _ h => h) (Or.inl ⟨by rfl, fun w hSw => ?_⟩) hHeld ?_
      rotate_left
      · ((try dsimp only at hSw); go_split_ands; go_simp; (try with_reducible rfl))
      try simp only [Act.put, List.getElem_toArray, List.getElem_cons_zero, List.getElem_cons_succ, List.setIfInBounds_toArray, List.set_cons_zero, List.set_cons_succ]
      refine wpAnyH_take (i := 13) (v := ?_) rfl (by kernel_rfl) (by kernel_rfl) (by kernel_rfl) (fun _ _ _ h => h) (Or.inl ⟨by rfl, fun w hSw => ?_⟩) hHeld ?_
      rotate_left
      · ((try dsimp only at hSw); go_split_ands; go_simp; (try with_reducible rfl))
      try simp only [Act.put, List.getElem_toArray, List.getElem_cons_zero, List.getElem_cons_succ, List.setIfInBounds_toArray, List.set_cons_zero, List.set_cons_succ]
      refine wpAnyH_take (i := 14) (v := ?_) rfl (by kernel_rfl) (by kernel_rfl) (by kernel_rfl) (fun _ _ _ h => h) (Or.inl ⟨by rfl, fun w hSw => ?_⟩) hHeld ?_
      rotate_left
      · ((try dsimp only at hSw); go_split_ands; go_simp; (try with_reducible rfl))
      try simp only [Act.put, List.getElem_toArray, List.getElem_cons_zero, List.getElem_cons_succ, List.setIfInBounds_toArray, List.set_cons_zero, List.set_cons_succ]
      refine wpAnyH_take (i := 15) (v := ?_) rfl (by kernel_rfl) (by kernel_rfl) (by kernel_rfl) (fun _ _ _ h => h) (Or.inl ⟨by rfl, fun w hSw => ?_⟩) hHeld ?_
      rotate_left
      · ((try dsimp only at hSw); go_split_ands; go_simp; (try with_reducible rfl))
      try simp only [Act.put, List.getElem_toArray, List.getElem_cons_zero, List.getElem_cons_succ, List.setIfInBounds_toArray, List.set_cons_zero, List.set_cons_succ]
      have lb4 := block_lt_of_cell i0
      have lb4' := block_lt_of_cell i0'
      simp only at lb4 lb4'
      refine wpAnyH_ready (rs := [16]) (by kernel_rfl) (by simp) ?_
      refine AllReadyH.cons rfl (fun K hK => ?_) AllReadyH.nil
      try simp only [List.getElem_toArray, List.getElem_cons_zero, List.getElem_cons_succ]
      (go_simp; refine (c_impl_Holds _ _ s a _ (S1.out.below hS) (HVr.out.below hS)).mono ?_; rintro e w5 ⟨rfl, hB5⟩; rw [hs.out]; have kr5 := kr4.next hB5; have j0 := (hB5.cell (p := ⟨b, o + k*2, none⟩) lb4).trans i0; have j1 := (hB5.cell (p := ⟨b, o + k*2 + 1, none⟩) lb4).trans i1; have j0' := (hB5.cell (p := ⟨b', o' + k*2, none⟩) lb4').trans i0'; have j1' := (hB5.cell (p := ⟨b', o' + k*2 + 1, none⟩) lb4').trans i1'; have hS5 := bgo hS hB5; clear hB5)
      refine hK.out _ _ (⟨⟨⟨j0, j1⟩, j0', j1'⟩, kr5.cell⟩) (fun hHeldN => ?_)
      clear hHeld hK K
      have hHeld := hHeldN
      clear hHeldN
      try simp only [Act.put, List.getElem_toArray, List.getElem_cons_zero, List.getElem_cons_succ, List.setIfInBounds_toArray, List.set_cons_zero, List.set_cons_succ]
      refine wpAnyH_take (i := 17) (v := ?_) rfl (by kernel_rfl) (by kernel_rfl) (by kernel_rfl) (fun _ _ _ h => h) (Or.inl ⟨by rfl, fun w hSw => ?_⟩) hHeld ?_
      rotate_left
      · ((try dsimp only at hSw); go_split_ands; go_simp; (try with_reducible rfl))
      try simp only [Act.put, List.getElem_toArray, List.getElem_cons_zero, List.getElem_cons_succ, List.setIfInBounds_toArray, List.set_cons_zero, List.set_cons_succ]
      refine wpAnyH_take (i := 18) (v := ?_) rfl (by kernel_rfl) (by kernel_rfl) (by kernel_rfl) (fun _ _ _ h => h) (Or.inl ⟨by rfl, fun w hSw => ?_⟩) hHeld ?_
      rotate_left
      · ((try dsimp only at hSw); go_split_ands; go_simp; (try with_reducible rfl))
      try simp only [Act.put, List.getElem_toArray, List.getElem_cons_zero, List.getElem_cons_succ, List.setIfInBounds_toArray, List.set_cons_zero, List.set_cons_succ]
      refine wpAnyH_done (by kernel_rfl) ?_ _
      refine NoPanic.normal ?_
      have HW5 := Lib.hid (bgo HW.out hS5)
      go_wp2_with fail
      go_round
      case rel => exact ⟨k + 1, by omega, by go_num, HW5⟩
      case measure => simp [intOf]; omega
    · obtain rfl : k = D.length := by omega
      have qr := kr.cell
      have lr := kr.lt
      by_cases h0 : D.length = 0
      · have e0 : ¬ (0 : Int) < (D.length : Int) := by omega
        have HC2 : Hid ((a.valid && !(cases a (caseS a 0)).isEmpty) = false) := Lib.hid (by rw [HC.out]; simp [h0])
        clear h0 hk
        go_wp2_with fail
        refine (c_impl_Consistent _ a _ HVr.out (by omega)).mono ?_
        rintro e w8 ⟨rfl, hB8⟩
        rw [HC2.out]
        go_wp2_with fail
        go_ret
        exact ⟨by simp [e0]; exact List.eq_nil_of_length_eq_zero (by omega), bgo HB.out (bgo HW.out hB8)⟩
      · have e0 : (0 : Int) < (D.length : Int) := by omega
        have HC2 : Hid ((a.valid && !(cases a (caseS a 0)).isEmpty) = true) := Lib.hid (by rw [HC.out]; simp; omega)
        clear h0 hk
        go_wp2_with fail
        refine (c_impl_Consistent _ a _ HVr.out (by omega)).mono ?_
        rintro e w8 ⟨rfl, hB8⟩
        rw [HC2.out]
        go_wp2_with fail
        go_ret
        exact ⟨by simp [e0]; omega, bgo HB.out (bgo HW.out hB8)⟩
--@
end Go.Proofs.Yteogcababfenfaa
