/- Contracts: impl's Implies. -/
import Derived.Test.YtlmjjflalmegfaaMFirstG
import Derived.Test.YtlmjjflalmegfaaMCasesOf
import Derived.Test.YtlmjjflalmegfaaMCaseS
set_option linter.unusedSimpArgs false
set_option linter.unusedVariables false
namespace Go.Proofs.Ytlmjjflalmegfaa
open Go Go.RowKit Go.Proofs
attribute [local go_sem ↓] Go.wp_at_zero Go.wp_at_succ
attribute [local go_sem] Oper.semAt_some
--@ impl.Implies
set_option maxRecDepth 100000 in
set_option maxHeartbeats 6400000 in
theorem c_impl_Implies {lo hi : Nat} (v : Value) (a : Asn) (f : Fct) (w : World) (h : AsnV w lo hi v a) (hhi : hi ≤ w.heap.size) :
    Calls Try.prog 118 #[v, f.val] w fun e w' => e = .returned (.bool (impB a f)) ∧ Below w.heap.size w w' := by
  have hV := Lib.hid h
  obtain ⟨A1, c1, A2, c2, rfl, -, -⟩ := h
  have HE : Hid (impB a f = (a.valid && f.valid && (cases a (caseS a (factS f))).all (Fct.fits · f))) := Lib.hid rfl
  have HFS : Hid (factS f < 512) := Lib.hid (tins_lt (tins_lt (by decide) _) _)
  obtain ⟨fe, fa, fb⟩ := f
  refine (callsIn_wide (n := 3)).1 ?_
  (refine callsIn_of_wp_marks Try.func118 rfl trivial ?_ rfl; simp only [Try.ntmps118, List.size_toArray, List.length_cons, List.length_nil, Nat.reduceAdd, Nat.reduceSub, Array.replicate_succ, Array.replicate_zero, List.push_toArray, List.append_toArray, List.nil_append, List.cons_append])
  gi_wp2_with fail
  refine ⟨trivial, (callsIn_wide.2 (c_impl_AssertionValid _ a _ (hV.out.below bel))).mono ?_⟩
  rintro e w1 ⟨rfl, hB1⟩
  have k0 : Blk w1 w.heap.size tAs #[.slice A1 a.facts.length c1, .slice A2 a.atoms.length c2] := Blk.next blks hB1
  have k1 : Blk w1 (w.heap.size + 1) tF #[.bool fe, .int .i64 fa, .int .i64 fb] := Blk.next blks hB1
  have k2 : Blk w1 (w.heap.size + 1 + 1) 4 #[.bool false] := Blk.next blks hB1
  have hB : Below w.heap.size w w1 := bgo (w := w) bel hB1
  have hz1 := hB1.size
  simp only [World.size_alloc] at hz1
  clear hB1
  have q0 := k0.cell
  have q1 := k1.cell
  have q2 := k2.cell
  have r2 := k2.frozen
  have l2 := k2.lt
  have l1 := k1.lt
  have l0 := k0.lt
  cases hv : a.valid
  · gi_wp2_with fail
    refine ⟨trivial, ?_⟩
    gi_wp2_with fail
    have z2 := (k2.set_ 0 (.bool false)).cell 0
    refine ⟨.bool false, by simp [results, Try.f118, go_sem, z2, q2, l2], by rw [HE.out, hv]; rfl, hB.setCell (p := ⟨w.heap.size + 1 + 1, 0, none⟩) (by simp only; omega) _⟩
  have HV := Lib.hid hv
  clear hv
  gi_wp2_with fail
  refine ⟨trivial, (callsIn_wide.2 (c_impl_FactValid ⟨fe, fa, fb⟩ _)).mono ?_⟩
  rintro e w2 ⟨rfl, hB2⟩
  replace k0 := k0.next hB2
  replace k1 := k1.next hB2
  replace k2 := k2.next hB2
  replace hB := bgo hB hB2
  have hz2 := hB2.size
  clear hB2 q0 q1 q2 r2 l0 l1 l2
  have q0 := k0.cell
  have q1 := k1.cell
  have q2 := k2.cell
  have r2 := k2.frozen
  have l2 := k2.lt
  have l1 := k1.lt
  have l0 := k0.lt
  cases hf : Fct.valid ⟨fe, fa, fb⟩
  · gi_wp2_with fail
    have z2 := (k2.set_ 0 (.bool false)).cell 0
    refine ⟨.bool false, by simp [results, Try.f118, go_sem, z2, q2, l2], by rw [HE.out, hf]; simp, hB.setCell (p := ⟨w.heap.size + 1 + 1, 0, none⟩) (by simp only; omega) _⟩
  have HFO := Lib.hid (Fct.valid_ok hf)
  have HE2 : Hid (impB a ⟨fe, fa, fb⟩ = (cases a (caseS a (factS ⟨fe, fa, fb⟩))).all (Fct.fits · ⟨fe, fa, fb⟩)) := Lib.hid (by rw [HE.out, HV.out, hf]; rfl)
  clear hf HE
  gi_wp2_with fail
  refine wpIn_wide.2 ?_
  refine wp_region_noPanic ?_
  refine wp_region_held_drew (S := (fun w' => (∀ i, w'.cell? ⟨w.heap.size, i, none⟩ = #[.slice A1 a.facts.length c1, .slice A2 a.atoms.length c2][i]?) ∧ (∀ i, w'.cell? ⟨w.heap.size + 1, i, none⟩ = #[.bool fe, .int .i64 fa, .int .i64 fb][i]?))) (by kernel_rfl) (⟨k0.drew.cell, k1.drew.cell⟩) (fun hHeld => ?_)
  refine wpAnyH_take (i := 0) (v := ?_) rfl (by kernel_rfl) (by kernel_rfl) (by kernel_rfl) (fun _ _ _ h => h) (Or.inl ⟨by rfl, fun w hSw => ?_⟩) hHeld ?_
  rotate_left
  · ((try dsimp only at hSw); go_split_ands; go_simp; (try with_reducible rfl))
  try simp only [Act.put, List.getElem_toArray, List.getElem_cons_zero, List.getElem_cons_succ, List.setIfInBounds_toArray, List.set_cons_zero, List.set_cons_succ]
  refine wpAnyH_take (i := 1) (v := ?_) rfl (by kernel_rfl) (by kernel_rfl) (by kernel_rfl) (fun _ _ _ h => h) (Or.inl ⟨by rfl, fun w hSw => ?_⟩) hHeld ?_
  rotate_left
  · ((try dsimp only at hSw); go_split_ands; go_simp; (try with_reducible rfl))
  try simp only [Act.put, List.getElem_toArray, List.getElem_cons_zero, List.getElem_cons_succ, List.setIfInBounds_toArray, List.set_cons_zero, List.set_cons_succ]
  refine wpAnyH_take (i := 2) (v := ?_) rfl (by kernel_rfl) (by kernel_rfl) (by kernel_rfl) (fun _ _ _ h => h) (Or.inl ⟨by rfl, fun w hSw => ?_⟩) hHeld ?_
  rotate_left
  · ((try dsimp only at hSw); go_split_ands; go_simp; (try with_reducible rfl))
  try simp only [Act.put, List.getElem_toArray, List.getElem_cons_zero, List.getElem_cons_succ, List.setIfInBounds_toArray, List.set_cons_zero, List.set_cons_succ]
  refine wpAnyH_take (i := 3) (v := ?_) rfl (by kernel_rfl) (by kernel_rfl) (by kernel_rfl) (fun _ _ _ h => h) (Or.inl ⟨by rfl, fun w hSw => ?_⟩) hHeld ?_
  rotate_left
  · ((try dsimp only at hSw); go_split_ands; go_simp; (try with_reducible rfl))
  try simp only [Act.put, List.getElem_toArray, List.getElem_cons_zero, List.getElem_cons_succ, List.setIfInBounds_toArray, List.set_cons_zero, List.set_cons_succ]
  refine wpAnyH_take (i := 5) (v := ?_) rfl (by kernel_rfl) (by kernel_rfl) (by kernel_rfl) (fun _ _ _ h => h) (Or.inl ⟨by rfl, fun w hSw => ?_⟩) hHeld ?_
  rotate_left
  · ((try dsimp only at hSw); go_split_ands; go_simp; (try with_reducible rfl))
  try simp only [Act.put, List.getElem_toArray, List.getElem_cons_zero, List.getElem_cons_succ, List.setIfInBounds_toArray, List.set_cons_zero, List.set_cons_succ]
  refine wpAnyH_take (i := 6) (v := ?_) rfl (by kernel_rfl) (by kernel_rfl) (by kernel_rfl) (fun _ _ _ h => h) (Or.inl ⟨by rfl, fun w hSw => ?_⟩) hHeld ?_
  rotate_left
  · ((try dsimp only at hSw); go_split_ands; go_simp; (try with_reducible rfl))
  try simp only [Act.put, List.getElem_toArray, List.getElem_cons_zero, List.getElem_cons_succ, List.setIfInBounds_toArray, List.set_cons_zero, List.set_cons_succ]
  refine wpAnyH_ready (rs := [4]) (by kernel_rfl) (by simp) ?_
  refine AllReadyH.cons rfl (fun K hK => ?_) AllReadyH.nil
  try simp only [List.getElem_toArray, List.getElem_cons_zero, List.getElem_cons_succ]
  (go_simp; refine (c_impl_with 0 fa _ (by decide)).mono ?_; rintro e w3 ⟨rfl, rfl⟩)
  refine hK.out _ _ (⟨k0.drew.cell, k1.drew.cell⟩) (fun hHeldN => ?_)
  clear hHeld hK K
  have hHeld := hHeldN
  clear hHeldN
  try simp only [Act.put, List.getElem_toArray, List.getElem_cons_zero, List.getElem_cons_succ, List.setIfInBounds_toArray, List.set_cons_zero, List.set_cons_succ]
  refine wpAnyH_ready (rs := [7]) (by kernel_rfl) (by simp) ?_
  refine AllReadyH.cons rfl (fun K hK => ?_) AllReadyH.nil
  try simp only [List.getElem_toArray, List.getElem_cons_zero, List.getElem_cons_succ]
  (go_simp; refine (c_impl_with (tins 0 fa) fb _ (tins_lt (by decide) _)).mono ?_; rintro e w3 ⟨rfl, rfl⟩)
  refine hK.out _ _ (⟨k0.drew.cell, k1.drew.cell⟩) (fun hHeldN => ?_)
  clear hHeld hK K
  have hHeld := hHeldN
  clear hHeldN
  try simp only [Act.put, List.getElem_toArray, List.getElem_cons_zero, List.getElem_cons_succ, List.setIfInBounds_toArray, List.set_cons_zero, List.set_cons_succ]
  refine wpAnyH_ready (rs := [8]) (by kernel_rfl) (by simp) ?_
  refine AllReadyH.cons rfl (fun K hK => ?_) AllReadyH.nil
  try simp only [List.getElem_toArray, List.getElem_cons_zero, List.getElem_cons_succ]
  (go_simp; refine (c_impl_possibleCases A1 A2 c1 c2 a (factS ⟨fe, fa, fb⟩) _ (hV.out.below hB.drew) HFS.out).mono ?_; rintro e w3 ⟨gA, gT, rfl, hA, hT, kA, kT, hB3⟩; replace hB3 : Below w2.heap.size w2 w3 := (Below.refl _ _).drew.trans hB3; replace k0 := k0.next hB3; replace k1 := k1.next hB3; replace k2 := k2.next hB3; replace hB := bgo hB hB3)
  refine hK.out _ _ (⟨k0.cell, k1.cell⟩) (fun hHeldN => ?_)
  clear hHeld hK K
  have hHeld := hHeldN
  clear hHeldN
  try simp only [Act.put, List.getElem_toArray, List.getElem_cons_zero, List.getElem_cons_succ, List.setIfInBounds_toArray, List.set_cons_zero, List.set_cons_succ]
  refine wpAnyH_done (by kernel_rfl) ?_ _
  refine NoPanic.normal ?_
  have hzA : w2.heap.size ≤ gA := hA
  have hzT : w2.heap.size ≤ gT := hT
  have hzO := k2.lt
  have hz := hB.size
  have hz3 := hB3.size
  have hAw := hV.out.below hB
  clear hB3 q0 q1 q2 r2 l0 l1 l2 hA hT
  gi_wp2_with fail
  refine wp_rangeT (gf := 127) (lb := #[.pointer (some ⟨gA, 0, none⟩), .pointer (some ⟨gT, 0, none⟩)]) rfl (enters_of Try.func127 (by kernel_rfl) rfl)
    (c_seq (n₀ := w.heap.size) w3 HV.out HFS.out hAw hhi (by omega) kA kT) (fun h k => h.trans k) (Kept.putl (by omega)) (Below.refl _ _) (fun _ => rfl)
    (fun pre W => Hid (∀ y ∈ pre, Fct.fits y.1 ⟨fe, fa, fb⟩ = true) ∧ Blk W (w.heap.size + 1) tF #[.bool fe, .int .i64 fa, .int .i64 fb] ∧ Blk W (w.heap.size + 1 + 1) 4 #[.bool false] ∧ Below w.heap.size w W)
    (fun c pre W => ∃ x ∈ pre, c = .ret ∧ Hid (Fct.fits x.1 ⟨fe, fa, fb⟩ = false) ∧ Blk W (w.heap.size + 1 + 1) 4 #[.bool false] ∧ Below w.heap.size w W)
    (fun s X Y row hs hg hr => by
      obtain ⟨e1, k1, k2, k3⟩ := hs
      exact ⟨e1, k1.turn hg hr (Or.inr (by omega)), k2.turn hg hr (Or.inr (by omega)), Below.turn k3 hg hr (by omega) k3.size⟩)
    (fun c s X Y row hs hg hr => by
      obtain ⟨x, e1, e2, e3, k1, k2⟩ := hs
      exact ⟨x, e1, e2, e3, k1.turn hg hr (Or.inr (by omega)), Below.turn k2 hg hr (by omega) k2.size⟩)
    ⟨fun y hy => absurd hy (by simp), k1, k2, hB⟩ ?round ?done ?stop
  case round =>
    rintro l pre x W hl ⟨HP, k1, k2, hB⟩ -
    have hwz := hB.size
    gi_wp2
    refine ⟨(KeepsOthers.alloc _ _).from _, Kept.alloc (by omega) _, fun o o' ho hc => ?_⟩
    have kX := (Blk.new W tTc (case9 x.1)).putl o' ho hc
    replace k1 := (k1.alloc (.cells (case9 x.1) tTc)).putl o' ho hc
    replace k2 := (k2.alloc (.cells (case9 x.1) tTc)).putl o' ho hc
    have hB' := (bbox hB (.cells (case9 x.1) tTc)).trans (Kept.put (T1 := tTc) (T2 := tAs) (n₀ := w.heap.size) o' (by omega) ho hc).below
    clear ho
    obtain ⟨V, hVe⟩ : ∃ V, V = (W.alloc (.cells (case9 x.1) tTc)).putObj l o' := ⟨_, rfl⟩
    rw [← hVe] at kX k1 k2 hB' ⊢
    clear hVe hB
    have q1 := k1.cell
    have hxl := Lib.hid x.len
    have hzV := hB'.size
    have lX := kX.lt
    gi_wp2_with fail
    refine ⟨trivial, (CallsIn.inRound l (callsIn_wide.2 (c_impl_factHolds ⟨fe, fa, fb⟩ x.1 W.heap.size _ (kX.case hxl.out) hxl.out HFO.out.1 HFO.out.2))).mono ?_⟩
    rintro e w4 ⟨rfl, hB4⟩
    replace k1 := k1.next hB4
    replace k2 := k2.next hB4
    have hBV := bgo hB' hB4
    have hKV : Kept tTc tAs w.heap.size V w4 := Kept.next hB4 hzV
    have hKF : KeepsOthers V w4 := (KX.of hB4).keeps
    clear q1 hB4
    have q2 := k2.cell 0
    have r2 := k2.frozen
    have l2 := k2.lt
    cases he : Fct.fits x.1 ⟨fe, fa, fb⟩
    · have HE := Lib.hid he
      clear he
      gi_wp2
      exact ⟨(hKF.trans (KeepsOthers.setCell _ _ _)).from _, x, by simp, rfl, HE, k2.set_ 0 (.bool false), hBV.setCell (p := ⟨w.heap.size + 1 + 1, 0, none⟩) (by simp only; omega) _⟩
    · have HP2 : Hid (∀ y ∈ pre ++ [x], Fct.fits y.1 ⟨fe, fa, fb⟩ = true) := fun y hy => by
        rcases List.mem_append.1 hy with hy | hy
        · exact HP.out y hy
        · rw [List.mem_singleton.1 hy]; exact he
      clear he
      gi_wp2
      exact ⟨hKF.from _, hKV, HP2, k1, k2, hBV⟩
  case done =>
    rintro D ys W hD hS ⟨HP, k1, k2, hB⟩ hK
    have E : Hid (impB a ⟨fe, fa, fb⟩ = true) := by
      show _ = _
      rw [HE2.out, ← hS, List.all_eq_true]
      intro y hy
      obtain ⟨z, hz, rfl⟩ := List.mem_map.1 hy
      exact HP.out z hz
    clear hS k1
    have q2 := k2.cell 0
    have r2 := k2.frozen
    have l2 := k2.lt
    gi_wp2
    have z2 := k2.set_ 0 (.bool true)
    have zB := hB.setCell (p := ⟨w.heap.size + 1 + 1, 0, none⟩) (by simp only; omega) (.bool true)
    have zK := (KeepsOthers.setCell W ⟨w.heap.size + 1 + 1, 0, none⟩ (.bool true)).same D _ hK rfl
    obtain ⟨V, hVe⟩ : ∃ V, V = W.setCell ⟨w.heap.size + 1 + 1, 0, none⟩ (.bool true) := ⟨_, rfl⟩
    rw [← hVe] at z2 zB zK ⊢
    refine ⟨by simp, .inl ⟨_, _, rfl, run_takeDeferred zK, ?_⟩⟩
    have y2 := (z2.putl (.deferred none) zK rfl).cell 0
    refine ⟨.bool true, ?_, by rw [E.out], zB.trans (belowK_b (w := w) (Nat.le_refl _) V D _ _ (by omega) zK rfl rfl)⟩
    simp at y2
    simp [results, Try.f118, go_sem, y2]
  case stop =>
    rintro D c pre W hD hPre ⟨x, hx, rfl, HX, k2, hB⟩ hK
    have E : Hid (impB a ⟨fe, fa, fb⟩ = false) := by
      show _ = _
      rw [HE2.out, List.all_eq_false]
      exact ⟨x.1, x.2, by rw [HX.out]; decide⟩
    have q2 := k2.cell 0
    have l2 := k2.lt
    gi_wp2
    refine ⟨by simp, .inl ⟨_, _, rfl, run_takeDeferred hK, ?_⟩⟩
    have y2 := (k2.putl (.deferred none) hK rfl).cell 0
    refine ⟨.bool false, ?_, by rw [E.out], hB.trans (belowK_b (w := w) (Nat.le_refl _) W D _ _ (by omega) hK rfl rfl)⟩
    simp at y2
    simp [results, Try.f118, go_sem, y2]
--@
end Go.Proofs.Ytlmjjflalmegfaa
