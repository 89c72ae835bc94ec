/- What DrawExposeCell gives. -/
import Derived.Test.YtlmjjflalmegfaaDrawPre
set_option linter.unusedSimpArgs false
set_option linter.unusedVariables false
namespace Go.Proofs.Ytlmjjflalmegfaa
open Go Go.RowKit Go.Proofs
attribute [local go_sem ↓] Go.wp_at_zero Go.wp_at_succ

--@ spec.DrawExposeCell
set_option maxRecDepth 100000 in
set_option maxHeartbeats 3200000 in
theorem c_DrawExpose (A : Option Addr) (n c : Nat) (w : World) (h : BytesR w A n c) :
    Calls Try.prog 18 #[.slice A n c] w fun e w' => ∃ r t kv a ks, e = .returned (.tuple #[r, .int .i64 t, kv]) ∧ AsnO w' w.heap.size r a ∧ IntsO w' w.heap.size kv ks ∧ (a.facts.length ≤ 40 ∧ a.atoms.length ≤ 40 ∧ ks.length ≤ 2) ∧ (0 ≤ t ∧ t ≤ 9) ∧ Below w.heap.size w w' := by
  have HR0 : Hid (BytesR (w.alloc (.cells #[.slice none 0 0, .slice none 0 0] 34)) A n c) := by
    obtain ⟨bs, h1, h2, h3⟩ := h
    exact ⟨bs, h1, (h2.below (bbox (Below.refl _ _) _)).mono (Nat.le_refl _) (by simp), h3⟩
  clear h
  go_enter Try.func18, Try.ntmps18
  have kr : Blk (w.alloc (.cells #[.slice none 0 0, .slice none 0 0] 34)) w.heap.size 34 #[.slice none 0 0, .slice none 0 0] := blks
  have hB0 : Hid (Below w.heap.size w (w.alloc (.cells #[.slice none 0 0, .slice none 0 0] 34))) := Lib.hid bel
  have hs0 : (w.alloc (.cells #[.slice none 0 0, .slice none 0 0] 34)).heap.size = w.heap.size + 1 := by simp
  go_wp2_with fail
  generalize w.alloc (.cells #[.slice none 0 0, .slice none 0 0] 34) = W0 at kr hB0 hs0 HR0 ⊢
  refine (c_l18Open A n c _ HR0.out).mono ?_
  rintro e w1 ⟨g, rfl, hg, hR, hB1⟩
  replace kr := kr.next hB1
  have HB1 := Lib.hid (bgo hB0.out hB1)
  have HR1 := Lib.hid hR
  have lg := hR.lt
  have z1 := hB1.size
  clear hR hB1 HR0 hB0
  go_wp2_with fail
  refine (c_l10Pre g 0 _ HR1.out (by omega)).mono ?_
  rintro e w2 ⟨r2, a2, q2, rfl, o2, hl2, hR, hq, hF⟩
  replace kr := kr.fr hF (by omega)
  have HR2 := Lib.hid hR
  have HO2 := Lib.hid o2
  have HB2 : Hid (Below w.heap.size w w2) := Lib.hid (HB1.out.trans (hF.below (by omega) (by omega)))
  have z2 := hF.size
  clear hR hF HR1 o2 HB1
  go_wp2_with fail
  refine (c_l3Mutate g q2 _ a2 _ HR2.out (by omega) HO2.out.reads (by omega) (by omega)).mono ?_
  rintro e w3 ⟨r3, a3, q3, rfl, o3, hf3, hx3, hR, hq3, hF⟩
  replace kr := kr.fr hF (by omega)
  have HB3 : Hid (Below w.heap.size w w3) := Lib.hid (HB2.out.trans (hF.below (by omega) (by omega)))
  obtain ⟨fv, av, rfl, m1, m2⟩ := o3
  obtain ⟨F3, e3, rfl, -⟩ := m1.reads
  obtain ⟨G3, e4, rfl, -⟩ := m2.reads
  have M1 := Lib.hid (m1.lower (base' := w.heap.size) (by omega))
  have M2 := Lib.hid (m2.lower (base' := w.heap.size) (by omega))
  have HR3 := Lib.hid hR
  have z3 := hF.size
  have hX3 : g < w2.heap.size := by omega
  have HU1 := Lib.hid m1
  have HU2 := Lib.hid m2
  clear hR hF m1 m2 HO2 HR2 HB2 M1 M2
  go_upto_region 3 with fail
  have hbq := bbox (Below.refl w3.heap.size w3) (.cells #[.slice F3 a3.facts.length e3, .slice G3 a3.atoms.length e4] 34)
  have ka : Blk (w3.alloc (.cells #[.slice F3 a3.facts.length e3, .slice G3 a3.atoms.length e4] 34)) w3.heap.size 34 #[.slice F3 a3.facts.length e3, .slice G3 a3.atoms.length e4] := Blk.new _ _ _
  replace kr := kr.next hbq
  replace HU1 := Lib.hid (HU1.out.below hbq)
  replace HU2 := Lib.hid (HU2.out.below hbq)
  replace HB3 := Lib.hid (bgo HB3.out hbq)
  replace HR3 := Lib.hid (HR3.out.below hbq)
  have hsz : (w3.alloc (.cells #[.slice F3 a3.facts.length e3, .slice G3 a3.atoms.length e4] 34)).heap.size = w3.heap.size + 1 := by simp
  clear hbq
  generalize (w3.alloc (.cells #[.slice F3 a3.facts.length e3, .slice G3 a3.atoms.length e4] 34)) = W3 at kr ka HU1 HU2 HB3 HR3 hsz ⊢
  obtain ⟨X, hX⟩ : ∃ X, X = w3.heap.size := ⟨_, rfl⟩
  rw [← hX] at ka hsz z3 ⊢
  clear hX
  have hszX : X < W3.heap.size := by omega
  clear hsz
  go_wp2_with fail
  refine (c_numL g q3 [1, 1, 2, 5, 0, 9] _ _ _ _ (HR3.out.below bel) (by omega) blks (by rfl) (by first | omega | (simp; omega)) (by rfl) (by decide) (by decide)).mono ?_
  rintro e w4 ⟨t, ht, rfl, hR, hF⟩
  have ht9 : 0 ≤ t ∧ t ≤ 9 := by simp at ht; omega
  have hbq := bbox (Below.refl W3.heap.size W3) (.cells #[.int .i64 1, .int .i64 1, .int .i64 2, .int .i64 5, .int .i64 0, .int .i64 9] tI)
  have hF4 : Fr g W3 w4 := ((Fr.refl g W3).alloc _).trans hF
  replace kr := kr.fr hF4 (by omega)
  replace ka := ka.fr hF4 (by omega)
  have HU14 := Lib.hid (HU1.out.fr hF4 hX3)
  have HU24 := Lib.hid (HU2.out.fr hF4 hX3)
  have HB4 : Hid (Below w.heap.size w w4) := Lib.hid (HB3.out.trans (hF4.below (by omega) (by omega)))
  have HR4 := Lib.hid hR
  have z4 := hF4.size
  clear hR hF hF4 hbq ht HU1 HU2 HB3 HR3
  (replace qka := ka.cell; replace rka := ka.frozen; replace lka := ka.lt)
  go_wp2_with fail
  clear qka rka lka
  refine wp_region_noPanic ?_
  refine wp_region_held_drew (S := (fun w' => ∀ i, w'.cell? ⟨X, i, none⟩ = #[.slice F3 a3.facts.length e3, .slice G3 a3.atoms.length e4][i]?)) (by kernel_rfl) (ka.drew.cell) (fun hHeld => ?_)
  refine wpAnyH_take (i := 0) (v := ?_) rfl (by kernel_rfl) (by kernel_rfl) (by kernel_rfl) (fun _ _ _ h => h) (Or.inl ⟨by rfl, fun w hSw => ?_⟩) hHeld ?_
  rotate_left
  · ((try dsimp only at hSw); go_split_ands; go_simp; (try with_reducible rfl))
  try simp only [Act.put, List.getElem_toArray, List.getElem_cons_zero, List.getElem_cons_succ, List.setIfInBounds_toArray, List.set_cons_zero, List.set_cons_succ]
  refine wpAnyH_take (i := 1) (v := ?_) rfl (by kernel_rfl) (by kernel_rfl) (by kernel_rfl) (fun _ _ _ h => h) (Or.inl ⟨by rfl, fun w hSw => ?_⟩) hHeld ?_
  rotate_left
  · ((try dsimp only at hSw); go_split_ands; go_simp; (try with_reducible rfl))
  try simp only [Act.put, List.getElem_toArray, List.getElem_cons_zero, List.getElem_cons_succ, List.setIfInBounds_toArray, List.set_cons_zero, List.set_cons_succ]
  refine wpAnyH_take (i := 2) (v := ?_) rfl (by kernel_rfl) (by kernel_rfl) (by kernel_rfl) (fun _ _ _ h => h) (Or.inl ⟨by rfl, fun w hSw => ?_⟩) hHeld ?_
  rotate_left
  · ((try dsimp only at hSw); go_split_ands; go_simp; (try with_reducible rfl))
  try simp only [Act.put, List.getElem_toArray, List.getElem_cons_zero, List.getElem_cons_succ, List.setIfInBounds_toArray, List.set_cons_zero, List.set_cons_succ]
  refine wpAnyH_ready (rs := [3]) (by kernel_rfl) (by simp) ?_
  refine AllReadyH.cons rfl (fun K hK => ?_) AllReadyH.nil
  try simp only [List.getElem_toArray, List.getElem_cons_zero, List.getElem_cons_succ]
  (go_simp; refine (c_l10Keep g (q3 + 1) _ (HR4.out.below (Below.refl _ _).drew) (by omega)).mono ?_; rintro e w5 ⟨r5, ks, q5, rfl, o5, hk5, hR, hq5, hF⟩; have hF5 : Fr g w4 w5 := ((Fr.refl g w4).drew).trans hF; have kr5 := kr.fr hF5 (by omega); have ka5 := ka.fr hF5 (by omega); have HU15 := Lib.hid (HU14.out.fr hF5 hX3); have HU25 := Lib.hid (HU24.out.fr hF5 hX3); have HB5 : Hid (Below w.heap.size w w5) := Lib.hid (HB4.out.trans (hF5.below (by omega) (by omega))); have HK5 := Lib.hid (o5.lower (base' := w.heap.size) (by have := hF5.size; simp only [World.drew] at *; omega)); have hne : X ≠ w.heap.size := (by omega); clear hR hF hF5 o5)
  refine hK.out _ _ (ka5.cell) (fun hHeldN => ?_)
  clear hHeld hK K
  have hHeld := hHeldN
  clear hHeldN
  try simp only [Act.put, List.getElem_toArray, List.getElem_cons_zero, List.getElem_cons_succ, List.setIfInBounds_toArray, List.set_cons_zero, List.set_cons_succ]
  (replace qkr5 := kr5.cell; replace rkr5 := kr5.frozen; replace lkr5 := kr5.lt)
  refine wpAnyH_ready (rs := [4]) (by kernel_rfl) (by simp) ?_
  refine AllReadyH.cons rfl (fun K hK => ?_) AllReadyH.nil
  try simp only [List.getElem_toArray, List.getElem_cons_zero, List.getElem_cons_succ]
  go_simp
  refine hK.out _ _ (((ka5.far (p := ⟨w.heap.size, 0, none⟩) hne _).far (p := ⟨w.heap.size, 1, none⟩) hne _).cell) (fun hHeldN => ?_)
  clear hHeld hK K
  have hHeld := hHeldN
  clear hHeldN
  try simp only [Act.put, List.getElem_toArray, List.getElem_cons_zero, List.getElem_cons_succ, List.setIfInBounds_toArray, List.set_cons_zero, List.set_cons_succ]
  refine wpAnyH_take (i := 5) (v := ?_) rfl (by kernel_rfl) (by kernel_rfl) (by kernel_rfl) (fun _ _ _ h => h) (Or.inl ⟨by rfl, fun w hSw => ?_⟩) hHeld ?_
  rotate_left
  · ((try dsimp only at hSw); go_split_ands; go_simp; (try with_reducible rfl))
  try simp only [Act.put, List.getElem_toArray, List.getElem_cons_zero, List.getElem_cons_succ, List.setIfInBounds_toArray, List.set_cons_zero, List.set_cons_succ]
  refine wpAnyH_take (i := 6) (v := ?_) rfl (by kernel_rfl) (by kernel_rfl) (by kernel_rfl) (fun _ _ _ h => h) (Or.inl ⟨by rfl, fun w hSw => ?_⟩) hHeld ?_
  rotate_left
  · ((try dsimp only at hSw); go_split_ands; go_simp; (try with_reducible rfl))
  try simp only [Act.put, List.getElem_toArray, List.getElem_cons_zero, List.getElem_cons_succ, List.setIfInBounds_toArray, List.set_cons_zero, List.set_cons_succ]
  refine wpAnyH_done (by kernel_rfl) ?_ _
  refine NoPanic.normal ?_
  go_wp2_with fail
  have z := (kr5.set_ 0 (.slice F3 a3.facts.length e3)).set_ 1 (.slice G3 a3.atoms.length e4)
  have qz := z.cell
  refine bodyPost_ret (v := .tuple #[.agg #[.slice F3 a3.facts.length e3, .slice G3 a3.atoms.length e4], .int .i64 t, r5]) (by simp [results, Try.results18, go_sem, qz]) rfl ⟨_, t, _, a3, ks, rfl, ⟨_, _, rfl, ?_, ?_⟩, ?_, ⟨by omega, by omega, hk5⟩, ht9, ?_⟩
  · exact ((HU15.out.lower (by omega)).setT kr5 (by decide) 0 _).setT (kr5.set_ 0 _) (by decide) 1 _
  · exact ((HU25.out.lower (by omega)).setT kr5 (by decide) 0 _).setT (kr5.set_ 0 _) (by decide) 1 _
  · exact (HK5.out.setT kr5 (by decide) 0 _).setT (kr5.set_ 0 _) (by decide) 1 _
  · exact (HB5.out.setCell (p := ⟨w.heap.size, 0, none⟩) (Nat.le_refl _) _).setCell (p := ⟨w.heap.size, 1, none⟩) (Nat.le_refl _) _
--@
end Go.Proofs.Ytlmjjflalmegfaa
